/-
  A part of the engine that walks the functions' codes, and of the functions' contracts. Conditions: those that each theorem names.
-/
import Derived.Test.YtcpgcgandpofiaaGreatL1
import Derived.IntWalk
set_option linter.unusedSimpArgs false
set_option linter.unusedVariables false
set_option linter.unusedSectionVars false
namespace Go.Eng
open Go.RowKit
section
variable {P:Program} {inv:Nat→Option Nat} {w0:World} {M:Nat→Prop} {n N:Nat} {φ:AF} {σ:AS} {β:Nat→Nat} {a:Act} {w:World}
theorem Mem.empty (hm:Mem inv w0 M σ β w) {l:Nat} (hl:za2 σ≤l):Mem inv w0 M (za0 σ l (.cells [] false)) β w∧∀ K,K≤l→Ext K (ctx inv M σ β w) (ctx inv M (za0 σ l (.cells [] false)) β w):=by
 have hg:∀ k,k≠l→zaF (za0 σ l (.cells [] false)) k=zaF σ k:=fun k hk=>by rw[zam,if_neg hk]
 have hgl:zaF (za0 σ l (.cells [] false)) l=some (.cells [] false):=by rw[zam,if_pos rfl]
 have hreal:∀ k o,zaF (za0 σ l (.cells [] false)) k=some o→o.real=true→zaF σ k=some o:=by
  intro k o e hr
  by_cases hk:k=l
  ·subst hk;rw[hgl]at e;cases e;cases hr
  ·rw[hg k hk]at e;exact e
 have hav:∀ b,avoid M (za0 σ l (.cells [] false)) β b→avoid M σ β b:=by
  rintro b (h|⟨k,o,e,hr,hb⟩)
  ·exact .inl h
  ·exact .inr ⟨k,o,hreal k o e hr,hr,hb⟩
 have hx:∀ K,K≤l→Ext K (ctx inv M σ β w) (ctx inv M (za0 σ l (.cells [] false)) β w):=fun K hK =>
  ⟨⟨rfl,Nat.le_refl _,fun _ _ _=>rfl,fun b _ h=>hav b h⟩,fun k hk p' hp'=>⟨p',by
   have hp':zao β w (za0 σ l (.cells [] false)) k=some p':=hp'
   show zao β w σ k=some p'
   unfold zao at hp' ⊢
   rw[hg k (by omega)]at hp'
   exact hp',Nat.le_refl _,fun _=>rfl⟩⟩
 refine ⟨⟨hm.below,fun k k' o o' e e' hr hr' hb=>hm.inj k k' o o' (hreal k o e hr) (hreal k' o' e' hr') hr hr' hb,fun k o e hr=>hm.own k o (hreal k o e hr) hr,fun k cs e=>?_,fun k cs e=>?_,fun k kvs e=>?_⟩,hx⟩
 ·obtain ⟨xs,ty,e1,e2,e3⟩:=hm.cells k cs (hreal k _ e rfl)
  have hb:=(zaG σ k _ (hreal k _ e rfl)).2
  exact ⟨xs,ty,e1,e2,(hx l (Nat.le_refl _)).relCs (zav cs (Nat.le_trans hb hl)) e3⟩
 ·by_cases hk:k=l
  ·subst hk;rw[hgl]at e;cases e;rfl
  ·rw[hg k hk]at e;exact hm.ghost k cs e
 ·exact hm.maps k kvs (hreal k _ e rfl)
theorem zgF {l sz:Nat} {x:Value} (h:rel (ctx inv M σ β w) (.s0 sz) x):rel (ctx inv M (za0 σ l (.cells [] false)) β w) (.sm l 0 0 0 sz) x:=by
 simp only[rel]at h ⊢
 obtain ⟨ad,rfl⟩:=h
 refine ⟨rfl,fun p hp=>?_⟩
 have hp:zao β w (za0 σ l (.cells [] false)) l=some p:=hp
 unfold zao at hp
 rw[zam,if_pos rfl]at hp
 simp only[Option.some.injEq]at hp
 subst hp
 exact ⟨Nat.le_refl _,fun _=>⟨by simp,ad,0,rfl,Nat.le_refl _,by simp⟩⟩
theorem AWp.empty {c:ACode} {Q:Exit→AF→AS→Prop} (t l sz:Nat) (ht:zbh φ t=.s0 sz) (h1:N≤l) (h2:zaN φ≤l) (h3:za2 σ≤l)
  (h:AWp P inv w0 M N n c Q (zbn φ t (.sm l 0 0 0 sz)) (za0 σ l (.cells [] false))):AWp P inv w0 M N n c Q φ σ:=by
 intro c₀ hc β a w hs
 obtain ⟨hm,hx⟩:=hs.mem.empty h3
 refine Code.wp_mono ?_ (h c₀ hc β a w ⟨⟨fun i=>?_,hm⟩,hs.size,hs.defers⟩)
 ·rintro e a' w' ⟨φ2,σ2,β2,q2,hst2,hext2⟩
  exact ⟨φ2,σ2,β2,q2,hst2,(hx N h1).trans hext2⟩
 ·rw[zbx]
  split
  ·rename_i e
   subst e
   have:=hs.slots i
   rw[ht]at this
   exact zgF this
  ·exact (hx l (Nat.le_refl _)).rel (zaJ _ (Nat.le_trans (zbq φ i) h2)) (hs.slots i)
mutual
def rnV (f:Nat→Nat):AV→AV
 |.agg cs=>.agg (rnL f cs)
 |.tup cs=>.tup (rnL f cs)
 |.fn j cs=>.fn j (rnL f cs)
 |.ptr l ver off=>.ptr (f l) ver off
 |.sm l ver off n sz=>.sm (f l) ver off n sz
 |.mp l=>.mp (f l)
 |.i k n=>.i k n
 |.b t=>.b t
 |.v x=>.v x
 |.u=>.u
 |.s0 sz=>.s0 sz
 |.sl sz es=>.sl sz es
 |.ip sz es i k=>.ip sz es i k
 |.top=>.top
def rnL (f:Nat→Nat):List AV→List AV
 |[]=>[]
 |x::xs=>rnV f x::rnL f xs
end
def rnO (f:Nat→Nat):AO→AO
 |.cells cs r=>.cells (rnL f cs) r
 |.imap kvs=>.imap kvs
 |.rsv=>.rsv
def rnS (f:Nat→Nat):List (Nat×AO)→List (Nat×AO)
 |[]=>[]
 |(l,o)::r=>(f l,rnO f o)::rnS f r
def rnF (f:Nat→Nat):List (Nat×AV)→List (Nat×AV)
 |[]=>[]
 |(i,x)::r=>(i,rnV f x)::rnF f r
def swN (a b l:Nat):Nat:=if l=a then b else if l=b then a else l
theorem znh (a b l:Nat):swN a b (swN a b l)=l:=by unfold swN;grind
theorem zd0 (f:Nat→Nat):∀ xs:List AV,(rnL f xs).length=xs.length
 |[]=>rfl
 |x::xs=>by simp[rnL,zd0 f xs]
theorem ziv (f:Nat→Nat) (o:AO):(rnO f o).real=o.real:=by cases o<;>rfl
theorem zlX (f:Nat→Nat):∀ (φ:AF) (i:Nat),zbh (rnF f φ) i=rnV f (zbh φ i)
 |[],i=>rfl
 |(j,x)::r,i=>by
  simp only[rnF,zbh]
  split
  ·rfl
  ·exact zlX f r i
theorem zlw {f:Nat→Nat} (hf:∀ l,f (f l)=l):∀ (σ:AS) (l:Nat),zaF (rnS f σ) (f l)=(zaF σ l).map (rnO f)
 |[],l=>rfl
 |(k,o)::r,l=>by
  simp only[rnS,zaF,zlw hf r l]
  by_cases h:l=k
  ·subst h;simp
  ·rw[if_neg (fun e=>h (by rw[←hf l,e,hf])),if_neg h]
mutual
theorem znG {c c':Ctx} (hle:c.Le c') (f:Nat→Nat) (hS:∀ l,c'.S (f l)=c.S l):∀ (x:AV) (y:Value),rel c x y→rel c' (rnV f x) y
 |.agg cs,y,r=>by
  simp only[rel,rnV]at r ⊢
  obtain ⟨xs,e,r⟩:=r
  exact ⟨xs,e,ziB hle f hS cs _ r⟩
 |.tup cs,y,r=>by
  simp only[rel,rnV]at r ⊢
  obtain ⟨xs,e,r⟩:=r
  exact ⟨xs,e,zkG hle f hS cs _ r⟩
 |.fn j cs,y,r=>by
  simp only[rel,rnV]at r ⊢
  obtain ⟨g,xs,e,hi,r⟩:=r
  exact ⟨g,xs,e,by rw[hle.inv];exact hi,zkG hle f hS cs _ r⟩
 |.ptr l ver off,y,r=>by
  simp only[rel,rnV]at r ⊢
  rw[hS];exact r
 |.sm l ver off n sz,y,r=>by
  simp only[rel,rnV]at r ⊢
  rw[hS];exact r
 |.mp l,y,r=>by
  simp only[rel,rnV]at r ⊢
  rw[hS];exact r
 |.i k n,y,r=>by simp only[rnV];exact zaQ hle rfl r
 |.b t,y,r=>by simp only[rnV];exact zaQ hle rfl r
 |.v x,y,r=>by simp only[rnV];exact zaQ hle rfl r
 |.u,y,r=>by simp only[rnV];exact zaQ hle rfl r
 |.s0 sz,y,r=>by simp only[rnV];exact zaQ hle rfl r
 |.sl sz es,y,r=>by simp only[rnV];exact zaQ hle rfl r
 |.ip sz es i k,y,r=>by simp only[rnV];exact zaQ hle rfl r
 |.top,y,r=>by simp only[rnV,rel]
theorem zkG {c c':Ctx} (hle:c.Le c') (f:Nat→Nat) (hS:∀ l,c'.S (f l)=c.S l):∀ (xs:List AV) (ys:List Value),zbC c xs ys→zbC c' (rnL f xs) ys
 |[],ys,r=>by simpa only[rnL,zbC] using r
 |x::xs,ys,r=>by
  simp only[rnL,zbC]at r ⊢
  obtain ⟨y,ys',e,r1,r2⟩:=r
  exact ⟨y,ys',e,znG hle f hS x y r1,zkG hle f hS xs ys' r2⟩
theorem ziB {c c':Ctx} (hle:c.Le c') (f:Nat→Nat) (hS:∀ l,c'.S (f l)=c.S l):∀ (xs:List AV) (ys:List Value),relCs c xs ys→relCs c' (rnL f xs) ys
 |[],ys,r=>by simpa only[rnL,relCs] using r
 |x::xs,ys,r=>by
  simp only[rnL,relCs]at r ⊢
  obtain ⟨y,ys',e,ho,r1,r2⟩:=r
  exact ⟨y,ys',e,ho,znG hle f hS x y r1,ziB hle f hS xs ys' r2⟩
end
theorem Mem.rename {f:Nat→Nat} (hf:∀ l,f (f l)=l) (hm:Mem inv w0 M σ β w):Mem inv w0 M (rnS f σ) (fun l=>β (f l)) w∧(∀ K,(∀ l,l<K→f l=l)→Ext K (ctx inv M σ β w) (ctx inv M (rnS f σ) (fun l=>β (f l)) w)) ∧
  ∀ x y,rel (ctx inv M σ β w) x y→rel (ctx inv M (rnS f σ) (fun l=>β (f l)) w) (rnV f x) y:=by
 have hg:=zlw hf σ
 have hg':∀ l,zaF (rnS f σ) l=(zaF σ (f l)).map (rnO f):=fun l=>by rw[←hg (f l),hf]
 have hpl:∀ l,zao (fun l=>β (f l)) w (rnS f σ) (f l)=zao β w σ l:=fun l=>by
  unfold zao
  rw[hg l]
  cases e:zaF σ l with
  |none=>rfl
  |some o =>
   cases o with
   |rsv=>rfl
   |imap kvs=>simp only[Option.map_some,rnO,hf]
   |cells cs r=>cases r<;>simp only[Option.map_some,rnO,hf,zd0]
 have hback:∀ l o,zaF (rnS f σ) l=some o→∃ o',zaF σ (f l)=some o'∧o=rnO f o':=fun l o e=>by
  rw[hg' l]at e
  obtain ⟨o',e',rfl⟩:=Option.map_eq_some_iff.1 e
  exact ⟨o',e',rfl⟩
 have hav:∀ b,avoid M (rnS f σ) (fun l=>β (f l)) b→avoid M σ β b:=by
  rintro b (h|⟨k,o,e,hr,hb⟩)
  ·exact .inl h
  ·obtain ⟨o',e',rfl⟩:=hback k o e
   exact .inr ⟨f k,o',e',by rw[ziv]at hr;exact hr,hb⟩
 have hle:(ctx inv M σ β w).Le (ctx inv M (rnS f σ) (fun l=>β (f l)) w):=⟨rfl,Nat.le_refl _,fun _ _ _=>rfl,fun b _ h=>hav b h⟩
 refine ⟨⟨hm.below,fun k k' o o' e e' hr hr' hb=>?_,fun k o e hr=>?_,fun k cs e=>?_,fun k cs e=>?_,fun k kvs e=>?_⟩,fun K hK=>⟨hle,fun l hl p' hp'=>?_⟩,znG hle f hpl⟩
 ·obtain ⟨o1,e1,rfl⟩:=hback k o e
  obtain ⟨o2,e2,rfl⟩:=hback k' o' e'
  rw[ziv]at hr hr'
  have:=hm.inj _ _ _ _ e1 e2 hr hr' hb
  rw[←hf k,this,hf]
 ·obtain ⟨o1,e1,rfl⟩:=hback k o e
  rw[ziv]at hr
  exact hm.own _ _ e1 hr
 ·obtain ⟨o1,e1,e2⟩:=hback k _ e
  cases o1 with
  |cells cs1 r1 =>
   simp only[rnO,AO.cells.injEq]at e2
   obtain ⟨rfl,rfl⟩:=e2
   obtain ⟨xs,ty,k1,k2,k3⟩:=hm.cells _ cs1 e1
   exact ⟨xs,ty,k1,by rw[zd0];exact k2,by rw[zd0];exact ziB hle f hpl cs1 _ k3⟩
  |imap kvs=>simp[rnO]at e2
  |rsv=>simp[rnO]at e2
 ·obtain ⟨o1,e1,e2⟩:=hback k _ e
  cases o1 with
  |cells cs1 r1 =>
   simp only[rnO,AO.cells.injEq]at e2
   obtain ⟨rfl,rfl⟩:=e2
   rw[hm.ghost _ cs1 e1];rfl
  |imap kvs=>simp[rnO]at e2
  |rsv=>simp[rnO]at e2
 ·obtain ⟨o1,e1,e2⟩:=hback k _ e
  cases o1 with
  |imap kvs1 =>
   simp only[rnO,AO.imap.injEq]at e2
   subst e2
   exact hm.maps _ kvs e1
  |cells cs1 r1=>simp[rnO]at e2
  |rsv=>simp[rnO]at e2
 ·have hp':zao (fun l=>β (f l)) w (rnS f σ) l=some p':=hp'
  have:zao (fun l=>β (f l)) w (rnS f σ) l=zao β w σ l:=by rw[←hpl l,hK l hl]
  refine ⟨p', ?_,Nat.le_refl _,fun _=>rfl⟩
  show zao β w σ l=some p'
  rw[←this]
  exact hp'
def swF:List (Nat×Nat)→List (Nat×AV)→List (Nat×AV)
 |[],φ=>φ
 |(a,b)::r,φ=>swF r (rnF (swN a b) φ)
def swS:List (Nat×Nat)→List (Nat×AO)→List (Nat×AO)
 |[],σ=>σ
 |(a,b)::r,σ=>swS r (rnS (swN a b) σ)
def swOk (N:Nat):List (Nat×Nat)→Prop
 |[]=>True
 |(a,b)::r=>(N≤a∧N≤b)∧swOk N r
theorem zo8 (N:Nat):∀ (sw:List (Nat×Nat)) {φ:AF} {σ:AS} {β:Nat→Nat},swOk N sw→St inv w0 M n φ σ β a w→∃ β',St inv w0 M n (swF sw φ) (swS sw σ) β' a w∧Ext N (ctx inv M σ β w) (ctx inv M (swS sw σ) β' w)
 |[],φ,σ,β,_,hs=>⟨β,hs,.refl _ _⟩
 |(x,y)::r,φ,σ,β,hok,hs=>by
  obtain ⟨h1,h2,h3⟩:=hs.mem.rename (znh x y)
  have hst:St inv w0 M n (rnF (swN x y) φ) (rnS (swN x y) σ) (fun l=>β (swN x y l)) a w:=⟨⟨fun i=>by rw[zlX];exact h3 _ _ (hs.slots i),h1⟩,hs.size,hs.defers⟩
  obtain ⟨β',k1,k2⟩:=zo8 N r hok.2 hst
  exact ⟨β',k1,(h2 N fun l hl=>by have:=hok.1;unfold swN;rw[if_neg (by omega),if_neg (by omega)]).trans k2⟩
def ends (N:Nat) (F:List (Nat×AV)) (S:List (Nat×AO)) (sw:List (Nat×Nat)) (φ:List (Nat×AV)) (σ:List (Nat×AO)):Prop:=swOk N sw∧zhL F (swF sw φ)∧zge S (swS sw σ)
def lendR {ι:Type} (N:Nat) (F:ι→List (Nat×AV)) (S:ι→List (Nat×AO)) (Inv:ι→Prop) (μ:ι→Nat) (s:ι):List (Nat×AV)→List (Nat×AO)→Prop:=fun φ' σ'=>∃ s' sw,(μ s'<μ s∧Inv s')∧ends N (F s') (S s') sw φ' σ'
theorem zoa {ι:Type} (N:Nat) (F:ι→List (Nat×AV)) (S:ι→List (Nat×AO)) (Inv:ι→Prop) (μ:ι→Nat) (s:ι) (φ':List (Nat×AV)) (σ':List (Nat×AO)):lendR N F S Inv μ s φ' σ'=∃ s' sw,(μ s'<μ s∧Inv s')∧ends N (F s') (S s') sw φ' σ':=rfl
attribute [go_sem] zoa
theorem zad {σ σ':AS} (h:zge σ σ'):SLe σ σ':=fun l o e _=>zdX h l o e
theorem zbA {j:Nat} {F:AFn} (hF:Has P inv j F) {args:List AV} {r0:AV} {σ0:AS} (hl:args.length≤F.ntmps)
  (h:∀ (w0:World) (M:Nat→Prop) (Q:Exit→AF→AS→Prop),(∀ b,M b→b<w0.heap.size)→(∀ φ σ r,zeg φ σ F.res=some r→(r=r0∧zge σ0 σ)∨(∃ sz,r=.s0 sz∧r0=.sm 0 0 0 0 sz∧σ0=[(0,.cells [] false)])→Q .ret φ σ)→(∀ φ σ,Q .ret φ σ→Q .normal φ σ)→AWp P inv w0 M 0 F.ntmps F.body Q (zmV 0 args) []):PO P inv j args r0 σ0:=by
 intro w0 M hM g hg β w vs hm ha
 refine (AC.body hF hl (R:=fun r σ=>(r=r0∧zge σ0 σ)∨(∃ sz,r=.s0 sz∧r0=.sm 0 0 0 0 sz∧σ0=[(0,.cells [] false)])) (h w0 M _ hM (fun φ σ r h1 h2=>⟨r,h1,h2⟩) fun _ _ h=>h) g hg β w vs hm ha).mono ?_
 rintro e w' ⟨v,r,σ',β',rfl,hR,hm',hx,hr⟩
 rcases hR with ⟨rfl,hs⟩|⟨sz,rfl,rfl,rfl⟩
 ·have hd:=fun N=>hm'.drop (zdX hs) N
  exact ⟨v,r,σ0,β',rfl,⟨rfl,rfl⟩,(hd 0).1,hx.trans (hd 0).2,(hd r.bound).2.rel (zaJ _ (Nat.le_refl _)) hr⟩
 ·have hd:=fun N=>hm'.drop (σ':=[]) (fun l o e=>by simp[zaF]at e) N
  obtain ⟨g1,g2⟩:=(hd 0).1.empty (l:=0) (Nat.le_refl _)
  have hr0:=(hd 0).2.rel (zaJ (AV.s0 sz) (Nat.le_refl _)) hr
  exact ⟨v,_,[(0,.cells [] false)],β',rfl,⟨rfl,rfl⟩,g1,hx.trans ((hd 0).2.trans (g2 0 (Nat.le_refl _))),zgF hr0⟩
end
mutual
theorem plain_sh (b:Nat):∀ x:AV,x.plain=true→shV b x=x
 |.agg cs,h=>by simp only[AV.plain]at h;simp only[shV,zgT b cs h]
 |.i _ _,_=>rfl|.b _,_=>rfl|.v _,_=>rfl|.sl _ _,_=>rfl|.ip _ _ _ _,_=>rfl
 |.tup _,h=>by simp[AV.plain]at h
 |.u,h=>by simp[AV.plain]at h
 |.s0 _,h=>by simp[AV.plain]at h
 |.ptr _ _ _,h=>by simp[AV.plain]at h
 |.sm _ _ _ _ _,h=>by simp[AV.plain]at h
 |.fn _ _,h=>by simp[AV.plain]at h
 |.mp _,h=>by simp[AV.plain]at h
 |.top,h=>by simp[AV.plain]at h
theorem zgT (b:Nat):∀ xs:List AV,zaC xs=true→shL b xs=xs
 |[],_=>rfl
 |x::xs,h=>by
  simp only[zaC,Bool.and_eq_true]at h
  simp only[shL,plain_sh b x h.1,zgT b xs h.2]
end
mutual
theorem plain_rn (f:Nat→Nat):∀ x:AV,x.plain=true→rnV f x=x
 |.agg cs,h=>by simp only[AV.plain]at h;simp only[rnV,zgU f cs h]
 |.i _ _,_=>rfl|.b _,_=>rfl|.v _,_=>rfl|.sl _ _,_=>rfl|.ip _ _ _ _,_=>rfl
 |.tup _,h=>by simp[AV.plain]at h
 |.u,h=>by simp[AV.plain]at h
 |.s0 _,h=>by simp[AV.plain]at h
 |.ptr _ _ _,h=>by simp[AV.plain]at h
 |.sm _ _ _ _ _,h=>by simp[AV.plain]at h
 |.fn _ _,h=>by simp[AV.plain]at h
 |.mp _,h=>by simp[AV.plain]at h
 |.top,h=>by simp[AV.plain]at h
theorem zgU (f:Nat→Nat):∀ xs:List AV,zaC xs=true→rnL f xs=xs
 |[],_=>rfl
 |x::xs,h=>by
  simp only[zaC,Bool.and_eq_true]at h
  simp only[rnL,plain_rn f x h.1,zgU f xs h.2]
end
section cells
variable {α:Type} {c:α→List AV} {sz:Nat} [h:Cells c sz]
include h
theorem flat_sh (b:Nat) (l:List α):shL b (l.map c).flatten=(l.map c).flatten:=zgT b _ (zcd l)
theorem flat_rn (f:Nat→Nat) (l:List α):rnL f (l.map c).flatten=(l.map c).flatten:=zgU f _ (zcd l)
theorem ziU {l:List α} {k i:Nat} [Inhabited α] (hk:k<l.length) (hi:i<sz):(l.map c).flatten[k*sz+i]?=(c (nth l k))[i]?:=by
 have e:(l.map c).flatten[k*sz+i]?=((l.map c).flatten.drop (k*sz))[i]?:=by rw[List.getElem?_drop]
 rw[e,zhj l k (by omega),zap hk,List.map_cons,List.flatten_cons,List.getElem?_append_left (by rw[h.len];exact hi)]
theorem zmJ {l:List α} {k:Nat} [Inhabited α] (hk:k<l.length) (hs:0<sz):zcJ (l.map c).flatten (k*sz) (some sz)=some (.agg (c (nth l k))):=by
 have hle:k*sz+sz≤(l.map c).flatten.length:=by
  rw[zlV]
  have:(k+1)*sz≤l.length*sz:=Nat.mul_le_mul_right _ hk
  rw[Nat.add_mul,Nat.one_mul]at this
  exact this
 show (if 0<sz∧k*sz+sz≤(l.map c).flatten.length then some (AV.agg (seg (l.map c).flatten (k*sz) sz)) else none)=_
 rw[if_pos ⟨hs,hle⟩,flat_seg l k hk,zaV hk]
theorem zd7 {l:List α} {k i:Nat} [Inhabited α] (hk:k<l.length) (hi:i<sz) (x:AV) (a:α) (ha:c a=(c (nth l k)).set i x):(l.map c).flatten.set (k*sz+i) x=((l.set k a).map c).flatten:=by
 induction l generalizing k with
 |nil=>simp at hk
 |cons y l ih =>
  cases k with
  |zero =>
   simp only[Nat.zero_mul,Nat.zero_add,List.map_cons,List.flatten_cons,List.set_cons_zero]
   rw[List.set_append_left _ _ (by rw[h.len];exact hi),ha]
   rfl
  |succ k =>
   simp only[List.map_cons,List.flatten_cons,List.set_cons_succ]
   rw[List.set_append_right _ _ (by rw[h.len,Nat.add_mul];omega),h.len,show (k+1)*sz+i-sz=k*sz+i by rw[Nat.add_mul];omega]
   rw[ih (by simpa using hk) (by simpa [nth] using ha)]
end cells
attribute [go_sem] flat_sh flat_rn Nat.zero_le
attribute [go_sem high] zmJ
attribute [go_sem] shV shL shO shS zi9 rnV rnL rnO rnS rnF swN swF swS swOk zhX
end Go.Eng
namespace Go.Eng
open Go.RowKit
mutual
/-- The row l,whose cells are cs,as a slice that nobody writes. -/
def frV (l:Nat) (cs:List AV):AV→AV
 |.agg ds=>.agg (frL l cs ds)
 |.tup ds=>.tup (frL l cs ds)
 |.fn j ds=>.fn j (frL l cs ds)
 |.sm l' ver off n sz=>if l'=l∧ver=cs.length∧off=0 then .sl sz (zb0 sz n cs) else .sm l' ver off n sz
 |.ptr l' ver off=>.ptr l' ver off
 |.mp l'=>.mp l'
 |.i k n=>.i k n
 |.b t=>.b t
 |.v x=>.v x
 |.u=>.u
 |.s0 sz=>.s0 sz
 |.sl sz es=>.sl sz es
 |.ip sz es i k=>.ip sz es i k
 |.top=>.top
def frL (l:Nat) (cs:List AV):List AV→List AV
 |[]=>[]
 |x::xs=>frV l cs x::frL l cs xs
end
def frO (l:Nat) (cs:List AV):AO→AO
 |.cells ds r=>.cells (frL l cs ds) r
 |.imap kvs=>.imap kvs
 |.rsv=>.rsv
def frS (l:Nat) (cs:List AV):List (Nat×AO)→List (Nat×AO)
 |[]=>[]
 |(k,o)::r=>(k,frO l cs o)::frS l cs r
def frF (l:Nat) (cs:List AV):List (Nat×AV)→List (Nat×AV)
 |[]=>[]
 |(i,x)::r=>(i,frV l cs x)::frF l cs r
mutual
theorem rel_fr {c c':Ctx} {l:Nat} {cs:List AV} (hle:c.Le c') (hS:∀ k p,c'.S k=some p→c.S k=some p) (hrow:∀ (n sz:Nat) (y:Value),rel c (.sm l cs.length 0 n sz) y→rel c' (.sl sz (zb0 sz n cs)) y):∀ (x:AV) (y:Value),rel c x y→rel c' (frV l cs x) y
 |.agg ds,y,r=>by
  simp only[rel,frV]at r ⊢
  obtain ⟨xs,e,r⟩:=r
  exact ⟨xs,e,zlE hle hS hrow ds _ r⟩
 |.tup ds,y,r=>by
  simp only[rel,frV]at r ⊢
  obtain ⟨xs,e,r⟩:=r
  exact ⟨xs,e,zkI hle hS hrow ds _ r⟩
 |.fn j ds,y,r=>by
  simp only[rel,frV]at r ⊢
  obtain ⟨g,xs,e,hi,r⟩:=r
  exact ⟨g,xs,e,by rw[hle.inv];exact hi,zkI hle hS hrow ds _ r⟩
 |.sm l' ver off n sz,y,r=>by
  simp only[frV]
  split
  ·rename_i h
   obtain ⟨rfl,rfl,rfl⟩:=h
   exact hrow n sz y r
  ·simp only[rel]at r ⊢
   exact ⟨r.1,fun p hp=>r.2 p (hS _ _ hp)⟩
 |.ptr l' ver off,y,r=>by
  simp only[rel,frV]at r ⊢
  exact ⟨r.1,fun p hp=>r.2 p (hS _ _ hp)⟩
 |.mp l',y,r=>by
  simp only[rel,frV]at r ⊢
  exact ⟨r.1,fun p hp=>r.2 p (hS _ _ hp)⟩
 |.i k n,y,r=>by simp only[frV];exact zaQ hle rfl r
 |.b t,y,r=>by simp only[frV];exact zaQ hle rfl r
 |.v x,y,r=>by simp only[frV];exact zaQ hle rfl r
 |.u,y,r=>by simp only[frV];exact zaQ hle rfl r
 |.s0 sz,y,r=>by simp only[frV];exact zaQ hle rfl r
 |.sl sz es,y,r=>by simp only[frV];exact zaQ hle rfl r
 |.ip sz es i k,y,r=>by simp only[frV];exact zaQ hle rfl r
 |.top,y,r=>by simp only[frV,rel]
theorem zkI {c c':Ctx} {l:Nat} {cs:List AV} (hle:c.Le c') (hS:∀ k p,c'.S k=some p→c.S k=some p) (hrow:∀ (n sz:Nat) (y:Value),rel c (.sm l cs.length 0 n sz) y→rel c' (.sl sz (zb0 sz n cs)) y):∀ (xs:List AV) (ys:List Value),zbC c xs ys→zbC c' (frL l cs xs) ys
 |[],ys,r=>by simpa only[frL,zbC] using r
 |x::xs,ys,r=>by
  simp only[frL,zbC]at r ⊢
  obtain ⟨y,ys',e,r1,r2⟩:=r
  exact ⟨y,ys',e,rel_fr hle hS hrow x y r1,zkI hle hS hrow xs ys' r2⟩
theorem zlE {c c':Ctx} {l:Nat} {cs:List AV} (hle:c.Le c') (hS:∀ k p,c'.S k=some p→c.S k=some p) (hrow:∀ (n sz:Nat) (y:Value),rel c (.sm l cs.length 0 n sz) y→rel c' (.sl sz (zb0 sz n cs)) y):∀ (xs:List AV) (ys:List Value),relCs c xs ys→relCs c' (frL l cs xs) ys
 |[],ys,r=>by simpa only[frL,relCs] using r
 |x::xs,ys,r=>by
  simp only[frL,relCs]at r ⊢
  obtain ⟨y,ys',e,ho,r1,r2⟩:=r
  exact ⟨y,ys',e,ho,rel_fr hle hS hrow x y r1,zlE hle hS hrow xs ys' r2⟩
end
section
variable {P:Program} {inv:Nat→Option Nat} {w0:World} {M:Nat→Prop} {n N:Nat} {φ:AF} {σ:AS}
end
section cells
variable {α:Type} {c:α→List AV} {sz:Nat} [h:Cells c sz]
include h
mutual
theorem plain_fr (l:Nat) (cs:List AV):∀ x:AV,x.plain=true→frV l cs x=x
 |.agg ds,h=>by simp only[AV.plain]at h;simp only[frV,zgV l cs ds h]
 |.i _ _,_=>by simp only[frV]
 |.b _,_=>by simp only[frV]
 |.v _,_=>by simp only[frV]
 |.sl _ _,_=>by simp only[frV]
 |.ip _ _ _ _,_=>by simp only[frV]
 |.tup _,h=>by simp[AV.plain]at h
 |.u,h=>by simp[AV.plain]at h
 |.s0 _,h=>by simp[AV.plain]at h
 |.ptr _ _ _,h=>by simp[AV.plain]at h
 |.sm _ _ _ _ _,h=>by simp[AV.plain]at h
 |.fn _ _,h=>by simp[AV.plain]at h
 |.mp _,h=>by simp[AV.plain]at h
 |.top,h=>by simp[AV.plain]at h
theorem zgV (l:Nat) (cs:List AV):∀ xs:List AV,zaC xs=true→frL l cs xs=xs
 |[],_=>by simp only[frL]
 |x::xs,h=>by
  simp only[zaC,Bool.and_eq_true]at h
  simp only[frL,plain_fr l cs x h.1,zgV l cs xs h.2]
end
theorem flat_fr (l':Nat) (cs:List AV) (l:List α):frL l' cs (l.map c).flatten=(l.map c).flatten:=zgV (c:=c) l' cs _ (zcd l)
end cells
attribute [go_sem] flat_fr
attribute [go_sem] frV frL frO frS frF
end Go.Eng
namespace Go.Eng
open Go.RowKit
def zjR:List (Nat×AV)→List (Nat×AV)→List (Nat×AV)
 |[],φ=>φ
 |(i,x)::r,φ=>zjR r (zbn φ i x)
def zmf:List (Nat×AO)→List (Nat×AO)→List (Nat×AO)
 |[],σ=>σ
 |(i,x)::r,σ=>zmf r (za0 σ i x)
attribute [go_sem] zjR zmf
section
variable {P:Program} {inv:Nat→Option Nat} {w0:World} {M:Nat→Prop} {n N:Nat} {φ:AF} {σ:AS}
theorem zah {ι:Type} {x:ACode} {Q:Exit→AF→AS→Prop} (ks:List Nat) (m:ι→List (Nat×AV)) (t:ι→List (Nat×AO)) (Inv:ι→Prop) (μ:ι→Nat) (s0:ι) (hi:Inv s0) (h1:zhL (zjR (m s0) (zfF ks φ)) φ) (h2:zge (zmf (t s0) σ) σ)
  (hr:∀ s,Inv s→AWp P inv w0 M N n x (Then (lend (fun s=>zjR (m s) (zfF ks φ)) (fun s=>zmf (t s) σ) Inv μ s) Q) (zjR (m s) (zfF ks φ)) (zmf (t s) σ)):AWp P inv w0 M N n (.loop x) Q φ σ :=
 zaW (fun s=>zjR (m s) (zfF ks φ)) (fun s=>zmf (t s) σ) Inv μ s0 hi h1 h2 hr
theorem AWp.swap {c:ACode} {Q:Exit→AF→AS→Prop} (sw:List (Nat×Nat)) (hok:swOk N sw) (h:AWp P inv w0 M N n c Q (swF sw φ) (swS sw σ)):AWp P inv w0 M N n c Q φ σ:=by
 intro c₀ hc β a w hs
 obtain ⟨β',hst,hx⟩:=zo8 N sw hok hs
 exact Code.wp_mono (fun _ _ _ ⟨φ2,σ2,β2,q2,hst2,hext2⟩=>⟨φ2,σ2,β2,q2,hst2,hx.trans hext2⟩) (h c₀ hc β' a w hst)
theorem PO.pc {j:Nat} {args:List AV} {r:AV} {σ0:AS} (h:PO P inv j args r σ0):PC P inv j args (·=zdD 4 σ0 r):=by
 intro g hg M w vs hM ha
 have hm:=Mem.none (inv:=inv) (M:=M) w
 have hle:(⟨inv,w,M,fun _=>none⟩:Ctx).Le (ctx inv M [] (fun _=>0) w):=⟨rfl,Nat.le_refl _,fun _ _ _=>rfl,fun b _ h=>by
  rcases h with h|⟨l,o,e,_⟩
  ·exact h
  ·simp[zaF]at e⟩
 have hS:(ctx inv M [] (fun _=>0) w).S=fun _=>none:=by funext l;simp[ctx,zao,zaF]
 refine (h w M hM g hg (fun _=>0) w vs hm (zbT (N:=0) hle _ _ (.inr hS) ha)).mono ?_
 rintro e w' ⟨v,r',σ',β',rfl,⟨rfl,rfl⟩,hm',_,hr⟩
 have hf:=zeJ hm' hM (A':=M) (fun _ h=>h) 4
 exact ⟨v,_,rfl,rfl,hm'.below,zfs hf _,zeI hm' hM (fun _ h=>h) hf _ v hr⟩
theorem AC.mono {j:Nat} {args:List AV} {R R':AV→AS→Prop} (h:AC P inv w0 M N j args σ R) (hr:∀ r σ',R r σ'→R' r σ'):AC P inv w0 M N j args σ R' :=
 fun g hg β w vs hm ha=>(h g hg β w vs hm ha).mono fun _ _ ⟨v,r,σ',β',e,h1,h2⟩=>⟨v,r,σ',β',e,hr r σ' h1,h2⟩
theorem zef (N':Nat) {j:Nat} {args:List AV} {r0:AV} {τ:AS} (h:AC P inv w0 M N' j args σ fun r σ'=>r=r0∧σ'=τ) (hN:N≤N') (hφ:zaN φ≤N') {K:AV→AS→Prop} (hk:K r0 τ):CallK P inv w0 M N φ σ j args K :=
 ⟨N',hN,hφ,h.mono fun _ _ ⟨e1,e2⟩=>e1▸e2▸hk⟩
theorem zaX {j:Nat} {F:AFn} (hF:Has P inv j F) {args:List AV} {r0:AV} {σ0 τ:AS} (hb:r0.bare=true) (hl:args.length≤F.ntmps)
  (h:∀ Q:Exit→AF→AS→Prop,(∀ φ σ r,zeg φ σ F.res=some r→(∃ sw,(r=r0∧swOk N sw)∧zge τ (swS sw σ))→Q .ret φ σ)→(∀ φ σ,Q .ret φ σ→Q .normal φ σ)→AWp P inv w0 M N F.ntmps F.body Q (zmV 0 args) σ0) :
  AC P inv w0 M N j args σ0 fun r σ'=>r=r0∧σ'=τ:=by
 intro g hg β w vs hm ha
 refine (AC.body hF hl (R:=fun r σ=>∃ sw,(r=r0∧swOk N sw)∧zge τ (swS sw σ)) (h _ (fun φ σ r h1 h2=>⟨r,h1,h2⟩) fun _ _ h=>h) g hg β w vs hm ha).mono ?_
 rintro e w' ⟨v,r,σ',β',rfl,⟨sw,⟨rfl,hok⟩,hs⟩,hm',hx,hr⟩
 have key:∀ (sw:List (Nat×Nat)) {σ:AS} {β:Nat→Nat},swOk N sw→Mem inv w0 M σ β w'→rel (ctx inv M σ β w') r v→∃ β',Mem inv w0 M (swS sw σ) β' w'∧Ext N (ctx inv M σ β w') (ctx inv M (swS sw σ) β' w')∧rel (ctx inv M (swS sw σ) β' w') r v:=by
  intro sw
  induction sw with
  |nil=>intro σ β _ hm hr;exact ⟨β,hm,.refl _ _,hr⟩
  |cons p sw ih =>
   obtain ⟨x,y⟩:=p
   intro σ β hok hm hr
   obtain ⟨h1,h2,h3⟩:=hm.rename (znh x y)
   have hx:=h2 N fun l hl=>by have:=hok.1;unfold swN;rw[if_neg (by omega),if_neg (by omega)]
   obtain ⟨β',k1,k2,k3⟩:=ih hok.2 h1 ((h2 0 fun l hl=>absurd hl (Nat.not_lt_zero _)).rel (zaJ r (by rw[zfN r hb];exact Nat.le_refl _)) hr)
   exact ⟨β',k1,hx.trans k2,k3⟩
 obtain ⟨β'',k1,k2,k3⟩:=key sw hok hm' hr
 have hd:=fun N=>k1.drop (zdX hs) N
 exact ⟨v,r,τ,β'',rfl,⟨rfl,rfl⟩,(hd 0).1,hx.trans (k2.trans (hd N).2),(hd 0).2.rel (zaJ r (by rw[zfN r hb];exact Nat.le_refl _)) k3⟩
theorem zcV (hM:∀ b,M b→b<w0.heap.size) {j:Nat} {args:List AV} {r:AV} (h:PC P inv j args (·=r)) {K:AV→Prop} (hk:K r):PureK P inv w0 M σ j args K :=
 ⟨r,fun _ _ _ _=>h.callK hM fun _ e=>⟨e,rfl⟩,hk⟩
end
end Go.Eng
namespace Go.Eng
open Go.RowKit
section
variable {P:Program} {inv:Nat→Option Nat} {w0:World} {M:Nat→Prop} {n N:Nat} {φ:AF} {σ:AS}
theorem Mem.truncW {β:Nat→Nat} {w:World} {l l' k:Nat} {cs:List AV} (h:Mem inv w0 M σ β w) (hg:zaF σ l=some (.cells cs true)) (hl:za2 σ≤l') (hk:k≤cs.length) {N1:Nat} (hN:N1≤l') :
  Mem inv w0 M (za0 (zhX σ l) l' (.cells (cs.take k) true)) (upd β l' (β l)) w∧Ext N1 (ctx inv M σ β w) (ctx inv M (za0 (zhX σ l) l' (.cells (cs.take k) true)) (upd β l' (β l)) w) ∧
   zao (upd β l' (β l)) w (za0 (zhX σ l) l' (.cells (cs.take k) true)) l'=some ⟨β l,k,zaR w (β l),true⟩:=by
 have hno:∀ l2 o,zaF σ l2=some o→l2≠l':=fun l2 o e e'=>by have:=(zaG σ l2 o e).1;omega
 have hget:∀ l2 o,l2≠l'→zaF (za0 (zhX σ l) l' (.cells (cs.take k) true)) l2=some o→l2≠l∧zaF σ l2=some o:=by
  intro l2 o hne e
  rw[zam,if_neg hne,zeN]at e
  split at e
  ·cases e
  ·exact ⟨by assumption,e⟩
 have hself:zaF (za0 (zhX σ l) l' (.cells (cs.take k) true)) l'=some (.cells (cs.take k) true):=by rw[zam,if_pos rfl]
 have hpl:zao (upd β l' (β l)) w (za0 (zhX σ l) l' (.cells (cs.take k) true)) l'=some ⟨β l,k,zaR w (β l),true⟩:=by
  unfold zao
  rw[hself]
  simp[zaZ,Nat.min_eq_left hk]
 have hx:∀ N1,N1≤l'→Ext N1 (ctx inv M σ β w) (ctx inv M (za0 (zhX σ l) l' (.cells (cs.take k) true)) (upd β l' (β l)) w):=by
  intro N1 hN
  refine ⟨⟨rfl,Nat.le_refl _,fun _ _ _=>rfl,fun b _ hA=>?_⟩,fun l2 hl2 p' hp'=>?_⟩
  ·rcases hA with hm|⟨l2,o,e,hr,hb⟩
   ·exact .inl hm
   ·by_cases hne:l2=l'
    ·subst hne
     rw[zaZ]at hb
     exact .inr ⟨l,_,hg,rfl,hb⟩
    ·rw[zaz β _ hne]at hb
     exact .inr ⟨l2,o,(hget l2 o hne e).2,hr,hb⟩
  ·have hne:l2≠l':=by omega
   refine ⟨p', ?_,Nat.le_refl _,fun _=>rfl⟩
   have hp2:zao (upd β l' (β l)) w (za0 (zhX σ l) l' (.cells (cs.take k) true)) l2=some p':=hp'
   show zao β w σ l2=some p'
   unfold zao at hp2 ⊢
   cases e:zaF (za0 (zhX σ l) l' (.cells (cs.take k) true)) l2 with
   |none=>rw[e]at hp2;cases hp2
   |some o=>rw[e]at hp2;rw[(hget l2 o hne e).2];simpa only[zaz β _ hne] using hp2
 refine ⟨⟨h.below,fun l1 l2 o1 o2 e1 e2 r1 r2 he=>?_,fun l1 o1 e1 r1=>?_,fun l1 cs1 e1=>?_,fun l1 cs1 e1=>?_,fun l1 kvs e1=>?_⟩,hx N1 hN,hpl⟩
 ·by_cases h1:l1=l'<;>by_cases h2:l2=l'
  ·rw[h1,h2]
  ·rw[h1,zaZ,zaz β _ h2]at he
   obtain ⟨q1,q2⟩:=hget l2 o2 h2 e2
   exact absurd (h.inj l l2 _ o2 hg q2 rfl r2 he).symm q1
  ·rw[h2,zaZ,zaz β _ h1]at he
   obtain ⟨q1,q2⟩:=hget l1 o1 h1 e1
   exact absurd (h.inj l1 l o1 _ q2 hg r1 rfl he) q1
  ·rw[zaz β _ h1,zaz β _ h2]at he
   exact h.inj l1 l2 o1 o2 (hget l1 o1 h1 e1).2 (hget l2 o2 h2 e2).2 r1 r2 he
 ·by_cases h1:l1=l'
  ·rw[h1,zaZ];exact h.own l _ hg rfl
  ·rw[zaz β _ h1];exact h.own l1 o1 (hget l1 o1 h1 e1).2 r1
 ·by_cases h1:l1=l'
  ·rw[h1,hself]at e1
   simp only[Option.some.injEq,AO.cells.injEq,and_true]at e1
   subst e1
   rw[h1,zaZ]
   obtain ⟨xs,ty,q1,q2,q3⟩:=h.cells l cs hg
   refine ⟨xs,ty,q1,by rw[List.length_take];omega, ?_⟩
   have hb:zag (cs.take k)≤l':=zdP fun x hx=>Nat.le_trans (zdb (zaG σ l _ hg).2 x (List.mem_of_mem_take hx)) hl
   refine (hx l' (Nat.le_refl _)).relCs (zav _ hb) ?_
   have:=zb6 k q3
   rw[List.take_take,Nat.min_eq_left hk]at this
   rw[List.length_take,Nat.min_eq_left hk]
   exact this
  ·rw[zaz β _ h1]
   obtain ⟨q1,q2⟩:=hget l1 _ h1 e1
   obtain ⟨xs,ty,q3,q4,q5⟩:=h.cells l1 cs1 q2
   exact ⟨xs,ty,q3,q4,(hx l' (Nat.le_refl _)).relCs (zav _ (Nat.le_trans (zaG σ l1 _ q2).2 hl)) q5⟩
 ·by_cases h1:l1=l'
  ·rw[h1,hself]at e1;simp at e1
  ·exact h.ghost l1 cs1 (hget l1 _ h1 e1).2
 ·by_cases h1:l1=l'
  ·rw[h1,hself]at e1;simp at e1
  ·rw[zaz β _ h1];exact h.maps l1 kvs (hget l1 _ h1 e1).2
def cutW (N:Nat) (r:AV) (σ:List (Nat×AO)):AV×List (Nat×AO) :=
 match r with
 |.sm l ver off n sz=>match zaF σ l with
  |some (.cells cs true)=>if Nat.blt l N=false∧off=0∧n*sz<ver∧cs.length=ver then (.sm (mx N (za2 σ)) (n*sz) 0 n sz,za0 (zhX σ l) (mx N (za2 σ)) (.cells (cs.take (n*sz)) true)) else (r,σ)
  |_=>(r,σ)
 |_=>(r,σ)
theorem AC.truncW {j:Nat} {args:List AV} {R R':AV→AS→Prop} (h:AC P inv w0 M N j args σ R) (hr:∀ r σ',R r σ'→R' (cutW N r σ').1 (cutW N r σ').2):AC P inv w0 M N j args σ R':=by
 intro g hg β w vs hm hv
 refine (h g hg β w vs hm hv).mono ?_
 rintro e w' ⟨v,r,σ',β',k1,k2,k3,k4,k5⟩
 have h1:=hr r σ' k2
 unfold cutW at h1
 split at h1
 ·rename_i l ver off n sz
  split at h1
  ·rename_i cs hgl
   split at h1
   ·rename_i hc
    obtain ⟨_,rfl,c1,c2⟩:=hc
    have ht:=k3.truncW (l:=l) (l':=mx N (za2 σ')) (k:=n*sz) hgl (zay _ _) (by omega) (N1:=N) (zaU _ _)
    refine ⟨v,_,_,_,k1,h1,ht.1,k4.trans ht.2.1, ?_⟩
    have hlive:zbQ σ' l ver:=by unfold zbQ;rw[hgl];exact c2
    obtain ⟨p,ad,cap,hp,hv',hb,rfl,hcap,hreal⟩:=zdh hlive k5
    have hpe:p=⟨β' l,cs.length,zaR w' (β' l),true⟩:=by unfold zao at hp;rw[hgl]at hp;cases hp;rfl
    subst hpe
    simp only[if_true]at hreal
    simp only[rel]
    refine ⟨rfl,fun p' hp'=>?_⟩
    have:p'=⟨β' l,n*sz,zaR w' (β' l),true⟩:=by have:=(show zao _ _ _ _=some p' from hp').symm.trans ht.2.2;simpa using this
    subst this
    exact ⟨Nat.le_refl _,fun _=>⟨by omega,ad,cap,rfl,hcap,by simpa using hreal⟩⟩
   ·exact ⟨v,_,σ',β',k1,h1,k3,k4,k5⟩
  ·exact ⟨v,_,σ',β',k1,h1,k3,k4,k5⟩
 ·exact ⟨v,_,σ',β',k1,h1,k3,k4,k5⟩
theorem PO.trunc {j:Nat} {args:List AV} {ver k sz:Nat} {cs:List AV} (h:PO P inv j args (.sm 0 ver 0 k sz) [(0,.cells cs true)]) (hb:zag cs=0) (hl:cs.length=ver) (hlt:k*sz<ver) :
  PO P inv j args (.sm 1 (k*sz) 0 k sz) [(1,.cells (cs.take (k*sz)) true)]:=by
 intro w0 M hM
 refine (AC.truncW (R':=fun r σ=>r=.sm 1 (k*sz) 0 k sz∧σ=[(1,.cells (cs.take (k*sz)) true)]) (h w0 M hM) ?_)
 rintro r σ' ⟨rfl,rfl⟩
 have hs:mx 0 (za2 [(0,AO.cells cs true)])=1:=by simp[za2,AO.bound,hb,mx]
 simp only[cutW,zaF,if_true]
 rw[if_pos ⟨by trivial,by trivial,hlt,hl⟩,hs]
 exact ⟨rfl,by simp[zhX,za0]⟩
theorem Mem.recell {β:Nat→Nat} {w:World} {k:Nat} {cs cs':List AV} {r:Bool} (hm:Mem inv w0 M σ β w) (hg:zaF σ k=some (.cells cs r)) (hlen:cs'.length=cs.length) (hrel:r=true→∀ ys,relCs (ctx inv M σ β w) cs ys→relCs (ctx inv M σ β w) cs' ys) :
  Mem inv w0 M (za0 σ k (.cells cs' r)) β w∧ctx inv M (za0 σ k (.cells cs' r)) β w=ctx inv M σ β w:=by
 have hpl:zao β w (za0 σ k (.cells cs' r))=zao β w σ:=by
  funext l
  unfold zao
  rw[zam]
  by_cases h:l=k
  ·subst h;rw[if_pos rfl,hg];cases r<;>simp only[hlen]
  ·rw[if_neg h]
 have hav:avoid M (za0 σ k (.cells cs' r)) β=avoid M σ β:=by
  funext b
  apply propext
  constructor
  ·rintro (h|⟨l,o,e,hr,hb⟩)
   ·exact .inl h
   ·rw[zam]at e
    split at e
    ·rename_i h;subst h
     simp only[Option.some.injEq]at e;subst e
     exact .inr ⟨l,_,hg,by cases r<;>(first|exact hr|(simp[AO.real]at hr;done)|simp[AO.real]),hb⟩
    ·exact .inr ⟨l,o,e,hr,hb⟩
  ·rintro (h|⟨l,o,e,hr,hb⟩)
   ·exact .inl h
   ·by_cases h:l=k
    ·subst h
     rw[hg]at e
     simp only[Option.some.injEq]at e;subst e
     exact .inr ⟨l,.cells cs' r,by rw[zam,if_pos rfl],by cases r<;>(first|exact hr|(simp[AO.real]at hr;done)|simp[AO.real]),hb⟩
    ·exact .inr ⟨l,o,by rw[zam,if_neg h];exact e,hr,hb⟩
 have hctx:ctx inv M (za0 σ k (.cells cs' r)) β w=ctx inv M σ β w:=by unfold ctx;rw[hpl,hav]
 have hback:∀ l o,zaF (za0 σ k (.cells cs' r)) l=some o→o.real=true→∃ o',zaF σ l=some o'∧o'.real=true:=by
  intro l o e hr
  rw[zam]at e
  split at e
  ·rename_i h;subst h
   simp only[Option.some.injEq]at e;subst e
   exact ⟨_,hg,by cases r<;>(first|exact hr|(simp[AO.real]at hr;done)|simp[AO.real])⟩
  ·exact ⟨o,e,hr⟩
 refine ⟨⟨hm.below,fun l l' o o' e e' hr hr' hb=>?_,fun l o e hr=>?_,fun l cs1 e=>?_,fun l cs1 e=>?_,fun l kvs e=>?_⟩,hctx⟩
 ·obtain ⟨o1,e1,r1⟩:=hback l o e hr
  obtain ⟨o2,e2,r2⟩:=hback l' o' e' hr'
  exact hm.inj l l' o1 o2 e1 e2 r1 r2 hb
 ·obtain ⟨o1,e1,r1⟩:=hback l o e hr
  exact hm.own l o1 e1 r1
 ·rw[hctx]
  rw[zam]at e
  split at e
  ·rename_i h;subst h
   simp only[Option.some.injEq,AO.cells.injEq]at e
   obtain ⟨rfl,rfl⟩:=e
   obtain ⟨xs,ty,h1,h2,h3⟩:=hm.cells _ cs hg
   exact ⟨xs,ty,h1,by omega,by rw[hlen];exact hrel rfl _ h3⟩
  ·exact hm.cells l cs1 e
 ·rw[zam]at e
  split at e
  ·rename_i h;subst h
   simp only[Option.some.injEq,AO.cells.injEq]at e
   obtain ⟨rfl,rfl⟩:=e
   have:=hm.ghost _ cs hg
   subst this
   exact List.length_eq_zero_iff.1 hlen
  ·exact hm.ghost l cs1 e
 ·rw[zam]at e
  split at e
  ·cases e
  ·exact hm.maps l kvs e
theorem zgL {c:Ctx} {x0 x:AV} (hx:∀ y,rel c x0 y→rel c x y):∀ {cs:List AV} {ys:List Value} {i:Nat},cs[i]?=some x0→relCs c cs ys→relCs c (cs.set i x) ys
 |[],_,_,h,_=>by simp at h
 |z::cs,ys,0,h,r=>by
  simp only[List.getElem?_cons_zero,Option.some.injEq]at h
  subst h
  simp only[relCs,List.set_cons_zero]at r ⊢
  obtain ⟨y,ys',e,ho,r1,r2⟩:=r
  exact ⟨y,ys',e,ho,hx y r1,r2⟩
 |z::cs,ys,i+1,h,r=>by
  simp only[List.getElem?_cons_succ]at h
  simp only[relCs,List.set_cons_succ]at r ⊢
  obtain ⟨y,ys',e,ho,r1,r2⟩:=r
  exact ⟨y,ys',e,ho,r1,zgL hx h r2⟩
theorem zdd {c:ACode} {Q:Exit→AF→AS→Prop} (k i l sz:Nat) {cs:List AV} {r:Bool} (hk:zaF σ k=some (.cells cs r)) (hi:cs[i]?=some (.s0 sz)) (h1:N≤l) (h2:zaN φ≤l) (h3:za2 σ≤l)
  (h:AWp P inv w0 M N n c Q φ (za0 (za0 σ l (.cells [] false)) k (.cells (cs.set i (.sm l 0 0 0 sz)) r))):AWp P inv w0 M N n c Q φ σ:=by
 intro c₀ hc β a w hs
 obtain ⟨hm,hx⟩:=hs.mem.empty h3
 have hkl:k≠l:=fun e=>by have:=(zaG σ k _ hk).1;omega
 have hg:zaF (za0 σ l (.cells [] false)) k=some (.cells cs r):=by rw[zam,if_neg hkl];exact hk
 obtain ⟨hm2,hctx⟩:=hm.recell (cs':=cs.set i (.sm l 0 0 0 sz)) hg (by simp) (fun _ ys hr=>zgL (x0:=.s0 sz) (fun y hy=>by
  have hy':rel (ctx inv M σ β w) (.s0 sz) y:=by simpa only[rel] using hy
  exact zgF hy') hi hr)
 refine Code.wp_mono ?_ (h c₀ hc β a w ⟨⟨fun j=>?_,hm2⟩,hs.size,hs.defers⟩)
 ·rintro e a' w' ⟨φ2,σ2,β2,q2,hst2,hext2⟩
  rw[hctx]at hext2
  exact ⟨φ2,σ2,β2,q2,hst2,(hx N h1).trans hext2⟩
 ·rw[hctx]
  exact (hx l (Nat.le_refl _)).rel (zaJ _ (Nat.le_trans (zbq φ j) h2)) (hs.slots j)
theorem zax {j:Nat} {F:AFn} (hF:Has P inv j F) {args:List AV} {R:AV→AS→Prop} (hl:args.length≤F.ntmps)
  (h:∀ Q:Exit→AF→AS→Prop,(∀ φ σ r,zeg φ σ F.res=some r→R r σ→Q .ret φ σ)→(∀ φ σ,Q .ret φ σ→Q .normal φ σ)→AWp P inv w0 M N F.ntmps F.body Q (zmV 0 args) σ):AC P inv w0 M N j args σ R :=
 AC.body hF hl (h _ (fun _ _ r h1 h2=>⟨r,h1,h2⟩) fun _ _ h=>h)
def midK (A:Prop) (φ1:List (Nat×AV)) (σ1:List (Nat×AO)):List (Nat×AV)→List (Nat×AO)→Prop:=fun φ σ=>A∧(zhL φ1 φ∧zge σ1 σ)
theorem midK_app (A:Prop) (φ1:List (Nat×AV)) (σ1:List (Nat×AO)) (φ:List (Nat×AV)) (σ:List (Nat×AO)):midK A φ1 σ1 φ σ=(A∧(zhL φ1 φ∧zge σ1 σ)):=rfl
attribute [go_sem] midK_app
theorem AWp.mid (ks:List Nat) (A:Prop) {x y:ACode} {Q:Exit→AF→AS→Prop} (h1:AWp P inv w0 M N n x (Then (midK A (zfF ks φ) σ) Q) φ σ) (h2:A→AWp P inv w0 M N n y Q (zfF ks φ) σ):AWp P inv w0 M N n (.seq x y) Q φ σ :=
 AWp.seq fun K hK=>by
  refine AWp.mono ?_ h1
  intro e φ' σ' q
  cases e with
  |normal=>exact hK _ _ ((h2 q.1).sub q.2.1 q.2.2)
  |exit id=>exact q
  |goto l=>exact q
  |ret=>exact q
  |panic ch=>exact q
  |outgrown=>exact q
end
end Go.Eng
namespace Go.Lev
open Go.Eng
set_option maxRecDepth 10000
set_option maxHeartbeats 4000000
variable {P:Program} {inv:Nat→Option Nat}
structure Track where
 id:Int
 is:Int
 deriving DecidableEq,Inhabited
def Track.c (t:Track):List AV:=[.n t.id,.i .u8 t.is]
instance:Cells Track.c 2:=⟨fun _=>rfl,fun _=>rfl⟩
structure Switch where
 id:Int
 lie:Int
 call:Int
 deriving DecidableEq,Inhabited
def Switch.c (t:Switch):List AV:=[.n t.id,.n t.lie,.n t.call]
instance:Cells Switch.c 3:=⟨fun _=>rfl,fun _=>rfl⟩
structure Lock where
 id:Int
 phase:Int
 gone:Int
 left:Int
 deriving DecidableEq,Inhabited
def Lock.c (t:Lock):List AV:=[.n t.id,.i .u8 t.phase,.n t.gone,.n t.left]
instance:Cells Lock.c 4:=⟨fun _=>rfl,fun _=>rfl⟩
attribute [go_sem] Track.c Switch.c Lock.c
structure State where
 tracks:List Track
 switches:List Switch
 locks:List Lock
 deriving DecidableEq,Inhabited
def State.c (s:State):List AV:=[.sl 2 (s.tracks.map Track.c),.sl 3 (s.switches.map Switch.c),.sl 4 (s.locks.map Lock.c)]
instance:Cells State.c 3:=⟨fun _=>rfl,fun _=>rfl⟩
attribute [go_sem] State.c
def zaK {α β:Type} (p:α→β→Bool):List α→List β→Bool
 |[],[]=>true
 |x::xs,y::ys=>p x y&&zaK p xs ys
 |_,_=>false
theorem zbM {α β:Type} {p:α→β→Bool}:∀ {a:List α} {b:List β},zaK p a b=true→a.length=b.length
 |[],[],_=>rfl
 |x::xs,y::ys,h=>by simp only[zaK,Bool.and_eq_true]at h;simp[zbM h.2]
 |[],_::_,h=>by simp[zaK]at h
 |_::_,[],h=>by simp[zaK]at h
def zf7 (s:State):Bool:=decide (200<(s.tracks.length:Int))||decide (200<(s.switches.length:Int))||decide (200<(s.locks.length:Int))
theorem zdE (hH:HasAll P inv) (s:State):PC P inv 8 [.agg s.c] (·=.b (zf7 s)):=by
 refine zae (F:=cd8) (hH.has _ _ rfl) (Nat.le_of_ble_eq_true rfl) fun w0 M Q hM hQ hR=>?_;have hE:=hH.callable;dsimp only[cd8,qm,ql,qf,qi,qb,qc,qp,qv,qN,qT,qF,qt]at hQ ⊢
 repeat' (first|refine zaa [0,1,2] fun K hK=>?_|refine AWp.block ?_|(refine hK.go ?_;clear hK K)|refine Cont.go (by assumption) ?_|(refine cnd2 rfl (fun h=>?_) (fun h=>?_)<;>(try first|exact h.elim|obtain rfl:(_:Bool)=true:=h|obtain rfl:(_:Bool)=false:=h)<;>first|(exfalso;omega)|skip)|((first|refine AWp.reg hE hM ?_|refine AWp.regd hE hM ?_|refine AWp.ret ?_|refine AWp.skip ?_|refine AWp.exit ?_|(refine pk2 (fun h=>?_) (fun h=>?_)<;>(try first|exact h.elim|obtain rfl:(_:Bool)=true:=h|obtain rfl:(_:Bool)=false:=h))|refine zab (fun h=>?_) ?_|(refine hQ _ _ _ rfl ?_;clear hQ hR hE hM)|(refine hR _ _ (hQ _ _ _ rfl ?_);clear hQ hR hE hM)|(refine zaf ?_ ?_;focus first|omega|(refine zad ?_;(refine no_implicit_lambda% (st ?_);try with_reducible exact True.intro);done)))<;>try (refine no_implicit_lambda% (st ?_);try with_reducible exact True.intro)))
 all_goals (first|rfl|(grind[zf7])|(simp[zf7, *];done)|(simp_all [zf7];done)|(simp_all [zf7]<;>first|omega|((repeat' split)<;>first|rfl|(exfalso;omega))))
theorem zi0 (hH:HasAll P inv) (l:List Track) (h:l.length≤1000000):PO P inv 31 [.sl 2 (l.map Track.c)] (.sm 0 (l.length*2) 0 l.length 2) [(0,.cells (l.map Track.c).flatten (decide (0<l.length)))]:=by
 refine zbA (F:=cd31) (hH.has _ _ rfl) (Nat.le_of_ble_eq_true rfl) fun w0 M Q hM hQ hR=>?_;have hE:=hH.callable;dsimp only[cd31,qm,ql,qf,qi,qb,qc,qp,qv,qN,qT,qF,qt]at hQ ⊢
 repeat' (first|refine zaa [0,2,4] fun K hK=>?_|refine AWp.block ?_|(refine hK.go ?_;clear hK K)|refine Cont.go (by assumption) ?_|(refine cnd2 rfl (fun h=>?_) (fun h=>?_)<;>(try first|exact h.elim|obtain rfl:(_:Bool)=true:=h|obtain rfl:(_:Bool)=false:=h)<;>first|(exfalso;omega)|skip)|((first|refine AWp.reg hE hM ?_|refine AWp.regd hE hM ?_|refine AWp.ret ?_|refine AWp.skip ?_|refine AWp.exit ?_|(refine pk2 (fun h=>?_) (fun h=>?_)<;>(try first|exact h.elim|obtain rfl:(_:Bool)=true:=h|obtain rfl:(_:Bool)=false:=h))|refine zab (fun h=>?_) ?_|(refine zaf ?_ ?_;focus first|omega|(refine zad ?_;(refine no_implicit_lambda% (st ?_);try with_reducible exact True.intro);done)))<;>try (refine no_implicit_lambda% (st ?_);try with_reducible exact True.intro))|(refine hQ _ _ _ rfl ?_;clear hQ hR hE hM)|(refine hR _ _ (hQ _ _ _ rfl ?_);clear hQ hR hE hM))
 ·right
  have h0:l.length=0:=by assumption
  obtain rfl:=List.length_eq_zero_iff.1 h0
  exact ⟨2,rfl,by simp,by simp⟩
 ·left
  constructor
  ·(refine no_implicit_lambda% (st ?_);try with_reducible exact True.intro)
  ·(refine no_implicit_lambda% (st ?_);try with_reducible exact True.intro)
theorem zhO (hH:HasAll P inv) (l:List Switch) (h:l.length≤1000000):PO P inv 32 [.sl 3 (l.map Switch.c)] (.sm 0 (l.length*3) 0 l.length 3) [(0,.cells (l.map Switch.c).flatten (decide (0<l.length)))]:=by
 refine zbA (F:=cd32) (hH.has _ _ rfl) (Nat.le_of_ble_eq_true rfl) fun w0 M Q hM hQ hR=>?_;have hE:=hH.callable;dsimp only[cd32,qm,ql,qf,qi,qb,qc,qp,qv,qN,qT,qF,qt]at hQ ⊢
 repeat' (first|refine zaa [0,2,4] fun K hK=>?_|refine AWp.block ?_|(refine hK.go ?_;clear hK K)|refine Cont.go (by assumption) ?_|(refine cnd2 rfl (fun h=>?_) (fun h=>?_)<;>(try first|exact h.elim|obtain rfl:(_:Bool)=true:=h|obtain rfl:(_:Bool)=false:=h)<;>first|(exfalso;omega)|skip)|((first|refine AWp.reg hE hM ?_|refine AWp.regd hE hM ?_|refine AWp.ret ?_|refine AWp.skip ?_|refine AWp.exit ?_|(refine pk2 (fun h=>?_) (fun h=>?_)<;>(try first|exact h.elim|obtain rfl:(_:Bool)=true:=h|obtain rfl:(_:Bool)=false:=h))|refine zab (fun h=>?_) ?_|(refine zaf ?_ ?_;focus first|omega|(refine zad ?_;(refine no_implicit_lambda% (st ?_);try with_reducible exact True.intro);done)))<;>try (refine no_implicit_lambda% (st ?_);try with_reducible exact True.intro))|(refine hQ _ _ _ rfl ?_;clear hQ hR hE hM)|(refine hR _ _ (hQ _ _ _ rfl ?_);clear hQ hR hE hM))
 ·right
  have h0:l.length=0:=by assumption
  obtain rfl:=List.length_eq_zero_iff.1 h0
  exact ⟨3,rfl,by simp,by simp⟩
 ·left
  constructor
  ·(refine no_implicit_lambda% (st ?_);try with_reducible exact True.intro)
  ·(refine no_implicit_lambda% (st ?_);try with_reducible exact True.intro)
theorem zka (hH:HasAll P inv) (l:List Lock) (h:l.length≤1000000):PO P inv 33 [.sl 4 (l.map Lock.c)] (.sm 0 (l.length*4) 0 l.length 4) [(0,.cells (l.map Lock.c).flatten (decide (0<l.length)))]:=by
 refine zbA (F:=cd33) (hH.has _ _ rfl) (Nat.le_of_ble_eq_true rfl) fun w0 M Q hM hQ hR=>?_;have hE:=hH.callable;dsimp only[cd33,qm,ql,qf,qi,qb,qc,qp,qv,qN,qT,qF,qt]at hQ ⊢
 repeat' (first|refine zaa [0,2,4] fun K hK=>?_|refine AWp.block ?_|(refine hK.go ?_;clear hK K)|refine Cont.go (by assumption) ?_|(refine cnd2 rfl (fun h=>?_) (fun h=>?_)<;>(try first|exact h.elim|obtain rfl:(_:Bool)=true:=h|obtain rfl:(_:Bool)=false:=h)<;>first|(exfalso;omega)|skip)|((first|refine AWp.reg hE hM ?_|refine AWp.regd hE hM ?_|refine AWp.ret ?_|refine AWp.skip ?_|refine AWp.exit ?_|(refine pk2 (fun h=>?_) (fun h=>?_)<;>(try first|exact h.elim|obtain rfl:(_:Bool)=true:=h|obtain rfl:(_:Bool)=false:=h))|refine zab (fun h=>?_) ?_|(refine zaf ?_ ?_;focus first|omega|(refine zad ?_;(refine no_implicit_lambda% (st ?_);try with_reducible exact True.intro);done)))<;>try (refine no_implicit_lambda% (st ?_);try with_reducible exact True.intro))|(refine hQ _ _ _ rfl ?_;clear hQ hR hE hM)|(refine hR _ _ (hQ _ _ _ rfl ?_);clear hQ hR hE hM))
 ·right
  have h0:l.length=0:=by assumption
  obtain rfl:=List.length_eq_zero_iff.1 h0
  exact ⟨4,rfl,by simp,by simp⟩
 ·left
  constructor
  ·(refine no_implicit_lambda% (st ?_);try with_reducible exact True.intro)
  ·(refine no_implicit_lambda% (st ?_);try with_reducible exact True.intro)
def keptSw (x y:Switch):Bool:=decide (x.id=y.id)&&decide (x.call=y.call)
def keptLk (x y:Lock):Bool:=decide (x.id=y.id)&&decide (x.phase=y.phase)&&decide (x.gone=y.gone)
end Go.Lev
namespace Go.Lev
open Go.Eng
set_option maxRecDepth 10000
set_option maxHeartbeats 4000000
variable {P:Program} {inv:Nat→Option Nat}
def zcc {α:Type} (p:α→Bool):Int→List α→Int
 |_,[]=>-1
 |k,x::r=>if p x=true then k else zcc p (k+1) r
theorem idx_rte (hH:HasAll P inv) {jc:Nat} {caps:List AV} {p:Rte→Bool} (l:List Rte) (hc:∀ x∈l,PC P inv jc ([.agg x.c]++caps) (·=.b (p x))) (hl:l.length≤1000000000):PC P inv 138 [.sl 7 (l.map Rte.c),.fn jc caps] (·=.n (zcc p 0 l)):=by
 refine zae (F:=cd138) (hH.has _ _ rfl) (Nat.le_of_ble_eq_true rfl) fun w0 M Q hM hQ hR=>?_;have hE:=hH.callable;dsimp only[cd138,qm,ql,qf,qi,qb,qc,qp,qv,qN,qT,qF,qt]at hQ ⊢
 repeat' (first|refine zaa [0,1,4,5,7,8,9,16] fun K hK=>?_|refine AWp.block ?_|(refine hK.go ?_;clear hK K)|refine Cont.go (by assumption) ?_|(refine cnd2 rfl (fun h=>?_) (fun h=>?_)<;>(try first|exact h.elim|obtain rfl:(_:Bool)=true:=h|obtain rfl:(_:Bool)=false:=h)<;>first|(exfalso;omega)|skip)|((first|refine AWp.reg hE hM ?_|refine AWp.regd hE hM ?_|refine AWp.ret ?_|refine AWp.skip ?_|refine AWp.exit ?_|(refine pk2 (fun h=>?_) (fun h=>?_)<;>(try first|exact h.elim|obtain rfl:(_:Bool)=true:=h|obtain rfl:(_:Bool)=false:=h))|refine zab (fun h=>?_) ?_|(refine hQ _ _ _ rfl ?_;clear hQ hR hE hM)|(refine hR _ _ (hQ _ _ _ rfl ?_);clear hQ hR hE hM)|(refine zaf ?_ ?_;focus first|omega|(refine zad ?_;(refine no_implicit_lambda% (st ?_);try with_reducible exact True.intro);done)))<;>try (refine no_implicit_lambda% (st ?_);try with_reducible exact True.intro)))
 refine zaW (fun k:Nat=>[(0,.sl 7 (l.map Rte.c)),(1,.fn jc caps),(7,.n l.length),(8,.n k)]) (fun k:Nat=>[]) (fun k:Nat=>k≤l.length∧zcc p k (l.drop k)=zcc p 0 l) (fun k=>l.length-k) 0 ⟨Nat.zero_le _,by first|rfl|simp⟩ (by (try dsimp only);(refine no_implicit_lambda% (st ?_);try with_reducible exact True.intro)<;>omega) (by (try dsimp only);(refine no_implicit_lambda% (st ?_);try with_reducible exact True.intro)<;>omega) ?_;rintro k ⟨hk,hg⟩;rcases Nat.lt_or_ge k l.length with hlt|hge
 ·rw[zap hlt]at hg
  rw[zcc]at hg
  repeat' (first|refine zaa [0,1,4,5,7,8,9,16] fun K hK=>?_|refine AWp.block ?_|(refine hK.go ?_;clear hK K)|refine Cont.go (by assumption) ?_|(refine cnd2 rfl (fun h=>?_) (fun h=>?_)<;>(try first|exact h.elim|obtain rfl:(_:Bool)=true:=h|obtain rfl:(_:Bool)=false:=h)<;>first|(exfalso;omega)|skip)|((first|refine AWp.reg hE hM ?_|refine AWp.regd hE hM ?_|refine AWp.ret ?_|refine AWp.skip ?_|refine AWp.exit ?_|(refine pk2 (fun h=>?_) (fun h=>?_)<;>(try first|exact h.elim|obtain rfl:(_:Bool)=true:=h|obtain rfl:(_:Bool)=false:=h))|refine zab (fun h=>?_) ?_|refine zac hM (hc _ (zal hlt)) ?_|(refine hQ _ _ _ rfl ?_;clear hQ hR hE hM)|(refine hR _ _ (hQ _ _ _ rfl ?_);clear hQ hR hE hM)|(refine zaf ?_ ?_;focus first|omega|(refine zad ?_;(refine no_implicit_lambda% (st ?_);try with_reducible exact True.intro);done)))<;>try (refine no_implicit_lambda% (st ?_);try with_reducible exact True.intro)))
  ·rw[←hg,if_pos h]
  ·exact ⟨k+1,by omega,⟨by omega,by rw[←hg,if_neg (by rw[h];simp)];rfl⟩,(by (try dsimp only);(first|omega|(simp;done)|(simp;omega)))⟩
 ·rw[List.drop_eq_nil_of_le hge]at hg
  repeat' (first|refine zaa [0,1,4,5,7,8,9,16] fun K hK=>?_|refine AWp.block ?_|(refine hK.go ?_;clear hK K)|refine Cont.go (by assumption) ?_|(refine cnd2 rfl (fun h=>?_) (fun h=>?_)<;>(try first|exact h.elim|obtain rfl:(_:Bool)=true:=h|obtain rfl:(_:Bool)=false:=h)<;>first|(exfalso;omega)|skip)|((first|refine AWp.reg hE hM ?_|refine AWp.regd hE hM ?_|refine AWp.ret ?_|refine AWp.skip ?_|refine AWp.exit ?_|(refine pk2 (fun h=>?_) (fun h=>?_)<;>(try first|exact h.elim|obtain rfl:(_:Bool)=true:=h|obtain rfl:(_:Bool)=false:=h))|refine zab (fun h=>?_) ?_|(refine hQ _ _ _ rfl ?_;clear hQ hR hE hM)|(refine hR _ _ (hQ _ _ _ rfl ?_);clear hQ hR hE hM)|(refine zaf ?_ ?_;focus first|omega|(refine zad ?_;(refine no_implicit_lambda% (st ?_);try with_reducible exact True.intro);done)))<;>try (refine no_implicit_lambda% (st ?_);try with_reducible exact True.intro)))
  rw[←hg];rfl
theorem zhc (hH:HasAll P inv) {jc:Nat} {caps:List AV} {p:Pnt→Bool} (l:List Pnt) (hc:∀ x∈l,PC P inv jc ([.agg x.c]++caps) (·=.b (p x))) (hl:l.length≤1000000000):PC P inv 109 [.sl 2 (l.map Pnt.c),.fn jc caps] (·=.n (zcc p 0 l)):=by
 refine zae (F:=cd109) (hH.has _ _ rfl) (Nat.le_of_ble_eq_true rfl) fun w0 M Q hM hQ hR=>?_;have hE:=hH.callable;dsimp only[cd109,qm,ql,qf,qi,qb,qc,qp,qv,qN,qT,qF,qt]at hQ ⊢
 repeat' (first|refine zaa [0,1,4,5,7,8,9,16] fun K hK=>?_|refine AWp.block ?_|(refine hK.go ?_;clear hK K)|refine Cont.go (by assumption) ?_|(refine cnd2 rfl (fun h=>?_) (fun h=>?_)<;>(try first|exact h.elim|obtain rfl:(_:Bool)=true:=h|obtain rfl:(_:Bool)=false:=h)<;>first|(exfalso;omega)|skip)|((first|refine AWp.reg hE hM ?_|refine AWp.regd hE hM ?_|refine AWp.ret ?_|refine AWp.skip ?_|refine AWp.exit ?_|(refine pk2 (fun h=>?_) (fun h=>?_)<;>(try first|exact h.elim|obtain rfl:(_:Bool)=true:=h|obtain rfl:(_:Bool)=false:=h))|refine zab (fun h=>?_) ?_|(refine hQ _ _ _ rfl ?_;clear hQ hR hE hM)|(refine hR _ _ (hQ _ _ _ rfl ?_);clear hQ hR hE hM)|(refine zaf ?_ ?_;focus first|omega|(refine zad ?_;(refine no_implicit_lambda% (st ?_);try with_reducible exact True.intro);done)))<;>try (refine no_implicit_lambda% (st ?_);try with_reducible exact True.intro)))
 refine zaW (fun k:Nat=>[(0,.sl 2 (l.map Pnt.c)),(1,.fn jc caps),(7,.n l.length),(8,.n k)]) (fun k:Nat=>[]) (fun k:Nat=>k≤l.length∧zcc p k (l.drop k)=zcc p 0 l) (fun k=>l.length-k) 0 ⟨Nat.zero_le _,by first|rfl|simp⟩ (by (try dsimp only);(refine no_implicit_lambda% (st ?_);try with_reducible exact True.intro)<;>omega) (by (try dsimp only);(refine no_implicit_lambda% (st ?_);try with_reducible exact True.intro)<;>omega) ?_;rintro k ⟨hk,hg⟩;rcases Nat.lt_or_ge k l.length with hlt|hge
 ·rw[zap hlt]at hg
  rw[zcc]at hg
  repeat' (first|refine zaa [0,1,4,5,7,8,9,16] fun K hK=>?_|refine AWp.block ?_|(refine hK.go ?_;clear hK K)|refine Cont.go (by assumption) ?_|(refine cnd2 rfl (fun h=>?_) (fun h=>?_)<;>(try first|exact h.elim|obtain rfl:(_:Bool)=true:=h|obtain rfl:(_:Bool)=false:=h)<;>first|(exfalso;omega)|skip)|((first|refine AWp.reg hE hM ?_|refine AWp.regd hE hM ?_|refine AWp.ret ?_|refine AWp.skip ?_|refine AWp.exit ?_|(refine pk2 (fun h=>?_) (fun h=>?_)<;>(try first|exact h.elim|obtain rfl:(_:Bool)=true:=h|obtain rfl:(_:Bool)=false:=h))|refine zab (fun h=>?_) ?_|refine zac hM (hc _ (zal hlt)) ?_|(refine hQ _ _ _ rfl ?_;clear hQ hR hE hM)|(refine hR _ _ (hQ _ _ _ rfl ?_);clear hQ hR hE hM)|(refine zaf ?_ ?_;focus first|omega|(refine zad ?_;(refine no_implicit_lambda% (st ?_);try with_reducible exact True.intro);done)))<;>try (refine no_implicit_lambda% (st ?_);try with_reducible exact True.intro)))
  ·rw[←hg,if_pos h]
  ·exact ⟨k+1,by omega,⟨by omega,by rw[←hg,if_neg (by rw[h];simp)];rfl⟩,(by (try dsimp only);(first|omega|(simp;done)|(simp;omega)))⟩
 ·rw[List.drop_eq_nil_of_le hge]at hg
  repeat' (first|refine zaa [0,1,4,5,7,8,9,16] fun K hK=>?_|refine AWp.block ?_|(refine hK.go ?_;clear hK K)|refine Cont.go (by assumption) ?_|(refine cnd2 rfl (fun h=>?_) (fun h=>?_)<;>(try first|exact h.elim|obtain rfl:(_:Bool)=true:=h|obtain rfl:(_:Bool)=false:=h)<;>first|(exfalso;omega)|skip)|((first|refine AWp.reg hE hM ?_|refine AWp.regd hE hM ?_|refine AWp.ret ?_|refine AWp.skip ?_|refine AWp.exit ?_|(refine pk2 (fun h=>?_) (fun h=>?_)<;>(try first|exact h.elim|obtain rfl:(_:Bool)=true:=h|obtain rfl:(_:Bool)=false:=h))|refine zab (fun h=>?_) ?_|(refine hQ _ _ _ rfl ?_;clear hQ hR hE hM)|(refine hR _ _ (hQ _ _ _ rfl ?_);clear hQ hR hE hM)|(refine zaf ?_ ?_;focus first|omega|(refine zad ?_;(refine no_implicit_lambda% (st ?_);try with_reducible exact True.intro);done)))<;>try (refine no_implicit_lambda% (st ?_);try with_reducible exact True.intro)))
  rw[←hg];rfl
theorem idx_sgn (hH:HasAll P inv) {jc:Nat} {caps:List AV} {p:Sgn→Bool} (l:List Sgn) (hc:∀ x∈l,PC P inv jc ([.agg x.c]++caps) (·=.b (p x))) (hl:l.length≤1000000000):PC P inv 143 [.sl 3 (l.map Sgn.c),.fn jc caps] (·=.n (zcc p 0 l)):=by
 refine zae (F:=cd143) (hH.has _ _ rfl) (Nat.le_of_ble_eq_true rfl) fun w0 M Q hM hQ hR=>?_;have hE:=hH.callable;dsimp only[cd143,qm,ql,qf,qi,qb,qc,qp,qv,qN,qT,qF,qt]at hQ ⊢
 repeat' (first|refine zaa [0,1,4,5,7,8,9,16] fun K hK=>?_|refine AWp.block ?_|(refine hK.go ?_;clear hK K)|refine Cont.go (by assumption) ?_|(refine cnd2 rfl (fun h=>?_) (fun h=>?_)<;>(try first|exact h.elim|obtain rfl:(_:Bool)=true:=h|obtain rfl:(_:Bool)=false:=h)<;>first|(exfalso;omega)|skip)|((first|refine AWp.reg hE hM ?_|refine AWp.regd hE hM ?_|refine AWp.ret ?_|refine AWp.skip ?_|refine AWp.exit ?_|(refine pk2 (fun h=>?_) (fun h=>?_)<;>(try first|exact h.elim|obtain rfl:(_:Bool)=true:=h|obtain rfl:(_:Bool)=false:=h))|refine zab (fun h=>?_) ?_|(refine hQ _ _ _ rfl ?_;clear hQ hR hE hM)|(refine hR _ _ (hQ _ _ _ rfl ?_);clear hQ hR hE hM)|(refine zaf ?_ ?_;focus first|omega|(refine zad ?_;(refine no_implicit_lambda% (st ?_);try with_reducible exact True.intro);done)))<;>try (refine no_implicit_lambda% (st ?_);try with_reducible exact True.intro)))
 refine zaW (fun k:Nat=>[(0,.sl 3 (l.map Sgn.c)),(1,.fn jc caps),(7,.n l.length),(8,.n k)]) (fun k:Nat=>[]) (fun k:Nat=>k≤l.length∧zcc p k (l.drop k)=zcc p 0 l) (fun k=>l.length-k) 0 ⟨Nat.zero_le _,by first|rfl|simp⟩ (by (try dsimp only);(refine no_implicit_lambda% (st ?_);try with_reducible exact True.intro)<;>omega) (by (try dsimp only);(refine no_implicit_lambda% (st ?_);try with_reducible exact True.intro)<;>omega) ?_;rintro k ⟨hk,hg⟩;rcases Nat.lt_or_ge k l.length with hlt|hge
 ·rw[zap hlt]at hg
  rw[zcc]at hg
  repeat' (first|refine zaa [0,1,4,5,7,8,9,16] fun K hK=>?_|refine AWp.block ?_|(refine hK.go ?_;clear hK K)|refine Cont.go (by assumption) ?_|(refine cnd2 rfl (fun h=>?_) (fun h=>?_)<;>(try first|exact h.elim|obtain rfl:(_:Bool)=true:=h|obtain rfl:(_:Bool)=false:=h)<;>first|(exfalso;omega)|skip)|((first|refine AWp.reg hE hM ?_|refine AWp.regd hE hM ?_|refine AWp.ret ?_|refine AWp.skip ?_|refine AWp.exit ?_|(refine pk2 (fun h=>?_) (fun h=>?_)<;>(try first|exact h.elim|obtain rfl:(_:Bool)=true:=h|obtain rfl:(_:Bool)=false:=h))|refine zab (fun h=>?_) ?_|refine zac hM (hc _ (zal hlt)) ?_|(refine hQ _ _ _ rfl ?_;clear hQ hR hE hM)|(refine hR _ _ (hQ _ _ _ rfl ?_);clear hQ hR hE hM)|(refine zaf ?_ ?_;focus first|omega|(refine zad ?_;(refine no_implicit_lambda% (st ?_);try with_reducible exact True.intro);done)))<;>try (refine no_implicit_lambda% (st ?_);try with_reducible exact True.intro)))
  ·rw[←hg,if_pos h]
  ·exact ⟨k+1,by omega,⟨by omega,by rw[←hg,if_neg (by rw[h];simp)];rfl⟩,(by (try dsimp only);(first|omega|(simp;done)|(simp;omega)))⟩
 ·rw[List.drop_eq_nil_of_le hge]at hg
  repeat' (first|refine zaa [0,1,4,5,7,8,9,16] fun K hK=>?_|refine AWp.block ?_|(refine hK.go ?_;clear hK K)|refine Cont.go (by assumption) ?_|(refine cnd2 rfl (fun h=>?_) (fun h=>?_)<;>(try first|exact h.elim|obtain rfl:(_:Bool)=true:=h|obtain rfl:(_:Bool)=false:=h)<;>first|(exfalso;omega)|skip)|((first|refine AWp.reg hE hM ?_|refine AWp.regd hE hM ?_|refine AWp.ret ?_|refine AWp.skip ?_|refine AWp.exit ?_|(refine pk2 (fun h=>?_) (fun h=>?_)<;>(try first|exact h.elim|obtain rfl:(_:Bool)=true:=h|obtain rfl:(_:Bool)=false:=h))|refine zab (fun h=>?_) ?_|(refine hQ _ _ _ rfl ?_;clear hQ hR hE hM)|(refine hR _ _ (hQ _ _ _ rfl ?_);clear hQ hR hE hM)|(refine zaf ?_ ?_;focus first|omega|(refine zad ?_;(refine no_implicit_lambda% (st ?_);try with_reducible exact True.intro);done)))<;>try (refine no_implicit_lambda% (st ?_);try with_reducible exact True.intro)))
  rw[←hg];rfl
theorem zhb (hH:HasAll P inv) {jc:Nat} {caps:List AV} {p:Section→Bool} (l:List Section) (hc:∀ x∈l,PC P inv jc ([.agg x.c]++caps) (·=.b (p x))) (hl:l.length≤1000000000):PC P inv 94 [.sl 3 (l.map Section.c),.fn jc caps] (·=.n (zcc p 0 l)):=by
 refine zae (F:=cd94) (hH.has _ _ rfl) (Nat.le_of_ble_eq_true rfl) fun w0 M Q hM hQ hR=>?_;have hE:=hH.callable;dsimp only[cd94,qm,ql,qf,qi,qb,qc,qp,qv,qN,qT,qF,qt]at hQ ⊢
 repeat' (first|refine zaa [0,1,4,5,7,8,9,16] fun K hK=>?_|refine AWp.block ?_|(refine hK.go ?_;clear hK K)|refine Cont.go (by assumption) ?_|(refine cnd2 rfl (fun h=>?_) (fun h=>?_)<;>(try first|exact h.elim|obtain rfl:(_:Bool)=true:=h|obtain rfl:(_:Bool)=false:=h)<;>first|(exfalso;omega)|skip)|((first|refine AWp.reg hE hM ?_|refine AWp.regd hE hM ?_|refine AWp.ret ?_|refine AWp.skip ?_|refine AWp.exit ?_|(refine pk2 (fun h=>?_) (fun h=>?_)<;>(try first|exact h.elim|obtain rfl:(_:Bool)=true:=h|obtain rfl:(_:Bool)=false:=h))|refine zab (fun h=>?_) ?_|(refine hQ _ _ _ rfl ?_;clear hQ hR hE hM)|(refine hR _ _ (hQ _ _ _ rfl ?_);clear hQ hR hE hM)|(refine zaf ?_ ?_;focus first|omega|(refine zad ?_;(refine no_implicit_lambda% (st ?_);try with_reducible exact True.intro);done)))<;>try (refine no_implicit_lambda% (st ?_);try with_reducible exact True.intro)))
 refine zaW (fun k:Nat=>[(0,.sl 3 (l.map Section.c)),(1,.fn jc caps),(7,.n l.length),(8,.n k)]) (fun k:Nat=>[]) (fun k:Nat=>k≤l.length∧zcc p k (l.drop k)=zcc p 0 l) (fun k=>l.length-k) 0 ⟨Nat.zero_le _,by first|rfl|simp⟩ (by (try dsimp only);(refine no_implicit_lambda% (st ?_);try with_reducible exact True.intro)<;>omega) (by (try dsimp only);(refine no_implicit_lambda% (st ?_);try with_reducible exact True.intro)<;>omega) ?_;rintro k ⟨hk,hg⟩;rcases Nat.lt_or_ge k l.length with hlt|hge
 ·rw[zap hlt]at hg
  rw[zcc]at hg
  repeat' (first|refine zaa [0,1,4,5,7,8,9,16] fun K hK=>?_|refine AWp.block ?_|(refine hK.go ?_;clear hK K)|refine Cont.go (by assumption) ?_|(refine cnd2 rfl (fun h=>?_) (fun h=>?_)<;>(try first|exact h.elim|obtain rfl:(_:Bool)=true:=h|obtain rfl:(_:Bool)=false:=h)<;>first|(exfalso;omega)|skip)|((first|refine AWp.reg hE hM ?_|refine AWp.regd hE hM ?_|refine AWp.ret ?_|refine AWp.skip ?_|refine AWp.exit ?_|(refine pk2 (fun h=>?_) (fun h=>?_)<;>(try first|exact h.elim|obtain rfl:(_:Bool)=true:=h|obtain rfl:(_:Bool)=false:=h))|refine zab (fun h=>?_) ?_|refine zac hM (hc _ (zal hlt)) ?_|(refine hQ _ _ _ rfl ?_;clear hQ hR hE hM)|(refine hR _ _ (hQ _ _ _ rfl ?_);clear hQ hR hE hM)|(refine zaf ?_ ?_;focus first|omega|(refine zad ?_;(refine no_implicit_lambda% (st ?_);try with_reducible exact True.intro);done)))<;>try (refine no_implicit_lambda% (st ?_);try with_reducible exact True.intro)))
  ·rw[←hg,if_pos h]
  ·exact ⟨k+1,by omega,⟨by omega,by rw[←hg,if_neg (by rw[h];simp)];rfl⟩,(by (try dsimp only);(first|omega|(simp;done)|(simp;omega)))⟩
 ·rw[List.drop_eq_nil_of_le hge]at hg
  repeat' (first|refine zaa [0,1,4,5,7,8,9,16] fun K hK=>?_|refine AWp.block ?_|(refine hK.go ?_;clear hK K)|refine Cont.go (by assumption) ?_|(refine cnd2 rfl (fun h=>?_) (fun h=>?_)<;>(try first|exact h.elim|obtain rfl:(_:Bool)=true:=h|obtain rfl:(_:Bool)=false:=h)<;>first|(exfalso;omega)|skip)|((first|refine AWp.reg hE hM ?_|refine AWp.regd hE hM ?_|refine AWp.ret ?_|refine AWp.skip ?_|refine AWp.exit ?_|(refine pk2 (fun h=>?_) (fun h=>?_)<;>(try first|exact h.elim|obtain rfl:(_:Bool)=true:=h|obtain rfl:(_:Bool)=false:=h))|refine zab (fun h=>?_) ?_|(refine hQ _ _ _ rfl ?_;clear hQ hR hE hM)|(refine hR _ _ (hQ _ _ _ rfl ?_);clear hQ hR hE hM)|(refine zaf ?_ ?_;focus first|omega|(refine zad ?_;(refine no_implicit_lambda% (st ?_);try with_reducible exact True.intro);done)))<;>try (refine no_implicit_lambda% (st ?_);try with_reducible exact True.intro)))
  rw[←hg];rfl
theorem zkY (hH:HasAll P inv) {jc:Nat} {caps:List AV} {p:Switch→Bool} (l:List Switch) (hc:∀ x∈l,PC P inv jc ([.agg x.c]++caps) (·=.b (p x))) (hl:l.length≤1000000000):PC P inv 97 [.sl 3 (l.map Switch.c),.fn jc caps] (·=.n (zcc p 0 l)):=by
 refine zae (F:=cd97) (hH.has _ _ rfl) (Nat.le_of_ble_eq_true rfl) fun w0 M Q hM hQ hR=>?_;have hE:=hH.callable;dsimp only[cd97,qm,ql,qf,qi,qb,qc,qp,qv,qN,qT,qF,qt]at hQ ⊢
 repeat' (first|refine zaa [0,1,4,5,7,8,9,16] fun K hK=>?_|refine AWp.block ?_|(refine hK.go ?_;clear hK K)|refine Cont.go (by assumption) ?_|(refine cnd2 rfl (fun h=>?_) (fun h=>?_)<;>(try first|exact h.elim|obtain rfl:(_:Bool)=true:=h|obtain rfl:(_:Bool)=false:=h)<;>first|(exfalso;omega)|skip)|((first|refine AWp.reg hE hM ?_|refine AWp.regd hE hM ?_|refine AWp.ret ?_|refine AWp.skip ?_|refine AWp.exit ?_|(refine pk2 (fun h=>?_) (fun h=>?_)<;>(try first|exact h.elim|obtain rfl:(_:Bool)=true:=h|obtain rfl:(_:Bool)=false:=h))|refine zab (fun h=>?_) ?_|(refine hQ _ _ _ rfl ?_;clear hQ hR hE hM)|(refine hR _ _ (hQ _ _ _ rfl ?_);clear hQ hR hE hM)|(refine zaf ?_ ?_;focus first|omega|(refine zad ?_;(refine no_implicit_lambda% (st ?_);try with_reducible exact True.intro);done)))<;>try (refine no_implicit_lambda% (st ?_);try with_reducible exact True.intro)))
 refine zaW (fun k:Nat=>[(0,.sl 3 (l.map Switch.c)),(1,.fn jc caps),(7,.n l.length),(8,.n k)]) (fun k:Nat=>[]) (fun k:Nat=>k≤l.length∧zcc p k (l.drop k)=zcc p 0 l) (fun k=>l.length-k) 0 ⟨Nat.zero_le _,by first|rfl|simp⟩ (by (try dsimp only);(refine no_implicit_lambda% (st ?_);try with_reducible exact True.intro)<;>omega) (by (try dsimp only);(refine no_implicit_lambda% (st ?_);try with_reducible exact True.intro)<;>omega) ?_;rintro k ⟨hk,hg⟩;rcases Nat.lt_or_ge k l.length with hlt|hge
 ·rw[zap hlt]at hg
  rw[zcc]at hg
  repeat' (first|refine zaa [0,1,4,5,7,8,9,16] fun K hK=>?_|refine AWp.block ?_|(refine hK.go ?_;clear hK K)|refine Cont.go (by assumption) ?_|(refine cnd2 rfl (fun h=>?_) (fun h=>?_)<;>(try first|exact h.elim|obtain rfl:(_:Bool)=true:=h|obtain rfl:(_:Bool)=false:=h)<;>first|(exfalso;omega)|skip)|((first|refine AWp.reg hE hM ?_|refine AWp.regd hE hM ?_|refine AWp.ret ?_|refine AWp.skip ?_|refine AWp.exit ?_|(refine pk2 (fun h=>?_) (fun h=>?_)<;>(try first|exact h.elim|obtain rfl:(_:Bool)=true:=h|obtain rfl:(_:Bool)=false:=h))|refine zab (fun h=>?_) ?_|refine zac hM (hc _ (zal hlt)) ?_|(refine hQ _ _ _ rfl ?_;clear hQ hR hE hM)|(refine hR _ _ (hQ _ _ _ rfl ?_);clear hQ hR hE hM)|(refine zaf ?_ ?_;focus first|omega|(refine zad ?_;(refine no_implicit_lambda% (st ?_);try with_reducible exact True.intro);done)))<;>try (refine no_implicit_lambda% (st ?_);try with_reducible exact True.intro)))
  ·rw[←hg,if_pos h]
  ·exact ⟨k+1,by omega,⟨by omega,by rw[←hg,if_neg (by rw[h];simp)];rfl⟩,(by (try dsimp only);(first|omega|(simp;done)|(simp;omega)))⟩
 ·rw[List.drop_eq_nil_of_le hge]at hg
  repeat' (first|refine zaa [0,1,4,5,7,8,9,16] fun K hK=>?_|refine AWp.block ?_|(refine hK.go ?_;clear hK K)|refine Cont.go (by assumption) ?_|(refine cnd2 rfl (fun h=>?_) (fun h=>?_)<;>(try first|exact h.elim|obtain rfl:(_:Bool)=true:=h|obtain rfl:(_:Bool)=false:=h)<;>first|(exfalso;omega)|skip)|((first|refine AWp.reg hE hM ?_|refine AWp.regd hE hM ?_|refine AWp.ret ?_|refine AWp.skip ?_|refine AWp.exit ?_|(refine pk2 (fun h=>?_) (fun h=>?_)<;>(try first|exact h.elim|obtain rfl:(_:Bool)=true:=h|obtain rfl:(_:Bool)=false:=h))|refine zab (fun h=>?_) ?_|(refine hQ _ _ _ rfl ?_;clear hQ hR hE hM)|(refine hR _ _ (hQ _ _ _ rfl ?_);clear hQ hR hE hM)|(refine zaf ?_ ?_;focus first|omega|(refine zad ?_;(refine no_implicit_lambda% (st ?_);try with_reducible exact True.intro);done)))<;>try (refine no_implicit_lambda% (st ?_);try with_reducible exact True.intro)))
  rw[←hg];rfl
end Go.Lev
namespace Go.Lev
open Go.Eng
set_option maxRecDepth 10000
set_option maxHeartbeats 4000000
variable {P:Program} {inv:Nat→Option Nat}
theorem zbX {α:Type} [Inhabited α] (p:α→Bool):∀ (l:List α) (k:Int),(zcc p k l=-1∧l.find? p=none)∨∃ i:Nat,i<l.length∧zcc p k l=k+i∧l.find? p=some (nth l i)
 |[],k=>.inl ⟨rfl,rfl⟩
 |x::r,k=>by
  simp only[zcc,List.find?_cons]
  cases h:p x with
  |true=>exact .inr ⟨0,by simp,by simp,rfl⟩
  |false =>
   rcases zbX p r (k+1) with ⟨h1,h2⟩|⟨i,h1,h2,h3⟩
   ·exact .inl ⟨by simpa using h1,h2⟩
   ·exact .inr ⟨i+1,by simp;omega,by simp[h2];omega,by simp only[h3];rfl⟩
theorem is_rte (hH:HasAll P inv) (hI:HasIds P inv) (n:Int) (x:Rte):PC P inv 139 ([.agg x.c]++[.ip 1 [[.n n]] 0 0]) (·=.b (decide (x.id=n))):=by
 refine zae (F:=cd139) (hH.has _ _ rfl) (Nat.le_of_ble_eq_true rfl) fun w0 M Q hM hQ hR=>?_;have hE:=hH.callable;dsimp only[cd139,qm,ql,qf,qi,qb,qc,qp,qv,qN,qT,qF,qt]at hQ ⊢
 repeat' (first|refine zaa [0,1,2,3] fun K hK=>?_|refine AWp.block ?_|(refine hK.go ?_;clear hK K)|refine Cont.go (by assumption) ?_|(refine cnd2 rfl (fun h=>?_) (fun h=>?_)<;>(try first|exact h.elim|obtain rfl:(_:Bool)=true:=h|obtain rfl:(_:Bool)=false:=h)<;>first|(exfalso;omega)|skip)|((first|refine AWp.reg hE hM ?_|refine AWp.regd hE hM ?_|refine AWp.ret ?_|refine AWp.skip ?_|refine AWp.exit ?_|(refine pk2 (fun h=>?_) (fun h=>?_)<;>(try first|exact h.elim|obtain rfl:(_:Bool)=true:=h|obtain rfl:(_:Bool)=false:=h))|refine zab (fun h=>?_) ?_|refine zac hM (hI.rte _) ?_|(refine hQ _ _ _ rfl ?_;clear hQ hR hE hM)|(refine hR _ _ (hQ _ _ _ rfl ?_);clear hQ hR hE hM)|(refine zaf ?_ ?_;focus first|omega|(refine zad ?_;(refine no_implicit_lambda% (st ?_);try with_reducible exact True.intro);done)))<;>try (refine no_implicit_lambda% (st ?_);try with_reducible exact True.intro)))
 all_goals (first|rfl|(grind[])|(simp[ *];done)|(simp_all [];done)|(simp_all []<;>first|omega|((repeat' split)<;>first|rfl|(exfalso;omega))))
def Rte.z:Rte:=⟨0,0,0,[],[],[],0⟩
theorem find_rte (hH:HasAll P inv) (hI:HasIds P inv) (l:List Rte) (hl:l.length≤1000000000) (n:Int):PC P inv 127 [.sl 7 (l.map Rte.c),.n n] (·=.tup [.agg ((l.find? fun x=>decide (x.id=n)).getD Rte.z).c,.b (l.find? fun x=>decide (x.id=n)).isSome]):=by
 have hs:=zbX (fun x:Rte=>decide (x.id=n)) l 0
 refine zae (F:=cd127) (hH.has _ _ rfl) (Nat.le_of_ble_eq_true rfl) fun w0 M Q hM hQ hR=>?_;have hE:=hH.callable;dsimp only[cd127,qm,ql,qf,qi,qb,qc,qp,qv,qN,qT,qF,qt]at hQ ⊢
 repeat' (first|refine zaa [0,1,3,4,5,6,7,12] fun K hK=>?_|refine AWp.block ?_|(refine hK.go ?_;clear hK K)|refine Cont.go (by assumption) ?_|(refine cnd2 rfl (fun h=>?_) (fun h=>?_)<;>(try first|exact h.elim|obtain rfl:(_:Bool)=true:=h|obtain rfl:(_:Bool)=false:=h)<;>first|(exfalso;omega)|skip)|((first|refine AWp.reg hE hM ?_|refine AWp.regd hE hM ?_|refine AWp.ret ?_|refine AWp.skip ?_|refine AWp.exit ?_|(refine pk2 (fun h=>?_) (fun h=>?_)<;>(try first|exact h.elim|obtain rfl:(_:Bool)=true:=h|obtain rfl:(_:Bool)=false:=h))|refine zab (fun h=>?_) ?_|(refine zau hM 4 ( idx_rte hH l (fun x _=>is_rte hH hI n x) hl) ?_ rfl ?_;(focus ((refine no_implicit_lambda% (st ?_);try with_reducible exact True.intro)<;>fail)))|(refine hQ _ _ _ rfl ?_;clear hQ hR hE hM)|(refine hR _ _ (hQ _ _ _ rfl ?_);clear hQ hR hE hM)|(refine zaf ?_ ?_;focus first|omega|(refine zad ?_;(refine no_implicit_lambda% (st ?_);try with_reducible exact True.intro);done)))<;>try (refine no_implicit_lambda% (st ?_);try with_reducible exact True.intro)))
 ·rcases hs with ⟨h1,h2⟩|⟨i,h1,h2,h3⟩
  ·rw[h2];rfl
  ·omega
 ·rcases hs with ⟨h1,_⟩|⟨i,h1,h2,h3⟩
  ·omega
  ·rw[show (zcc (fun x:Rte=>decide (x.id=n)) 0 l).toNat=i by omega]
   (refine no_implicit_lambda% (st ?_);try with_reducible exact True.intro)
   repeat' (first|refine zaa [0,1,3,4,5,6,7,12] fun K hK=>?_|refine AWp.block ?_|(refine hK.go ?_;clear hK K)|refine Cont.go (by assumption) ?_|(refine cnd2 rfl (fun h=>?_) (fun h=>?_)<;>(try first|exact h.elim|obtain rfl:(_:Bool)=true:=h|obtain rfl:(_:Bool)=false:=h)<;>first|(exfalso;omega)|skip)|((first|refine AWp.reg hE hM ?_|refine AWp.regd hE hM ?_|refine AWp.ret ?_|refine AWp.skip ?_|refine AWp.exit ?_|(refine pk2 (fun h=>?_) (fun h=>?_)<;>(try first|exact h.elim|obtain rfl:(_:Bool)=true:=h|obtain rfl:(_:Bool)=false:=h))|refine zab (fun h=>?_) ?_|(refine hQ _ _ _ rfl ?_;clear hQ hR hE hM)|(refine hR _ _ (hQ _ _ _ rfl ?_);clear hQ hR hE hM)|(refine zaf ?_ ?_;focus first|omega|(refine zad ?_;(refine no_implicit_lambda% (st ?_);try with_reducible exact True.intro);done)))<;>try (refine no_implicit_lambda% (st ?_);try with_reducible exact True.intro)))
   rw[h3];rfl
theorem is_sgn (hH:HasAll P inv) (hI:HasIds P inv) (n:Int) (x:Sgn):PC P inv 144 ([.agg x.c]++[.ip 1 [[.n n]] 0 0]) (·=.b (decide (x.id=n))):=by
 refine zae (F:=cd144) (hH.has _ _ rfl) (Nat.le_of_ble_eq_true rfl) fun w0 M Q hM hQ hR=>?_;have hE:=hH.callable;dsimp only[cd144,qm,ql,qf,qi,qb,qc,qp,qv,qN,qT,qF,qt]at hQ ⊢
 repeat' (first|refine zaa [0,1,2,3] fun K hK=>?_|refine AWp.block ?_|(refine hK.go ?_;clear hK K)|refine Cont.go (by assumption) ?_|(refine cnd2 rfl (fun h=>?_) (fun h=>?_)<;>(try first|exact h.elim|obtain rfl:(_:Bool)=true:=h|obtain rfl:(_:Bool)=false:=h)<;>first|(exfalso;omega)|skip)|((first|refine AWp.reg hE hM ?_|refine AWp.regd hE hM ?_|refine AWp.ret ?_|refine AWp.skip ?_|refine AWp.exit ?_|(refine pk2 (fun h=>?_) (fun h=>?_)<;>(try first|exact h.elim|obtain rfl:(_:Bool)=true:=h|obtain rfl:(_:Bool)=false:=h))|refine zab (fun h=>?_) ?_|refine zac hM (hI.sgn _) ?_|(refine hQ _ _ _ rfl ?_;clear hQ hR hE hM)|(refine hR _ _ (hQ _ _ _ rfl ?_);clear hQ hR hE hM)|(refine zaf ?_ ?_;focus first|omega|(refine zad ?_;(refine no_implicit_lambda% (st ?_);try with_reducible exact True.intro);done)))<;>try (refine no_implicit_lambda% (st ?_);try with_reducible exact True.intro)))
 all_goals (first|rfl|(grind[])|(simp[ *];done)|(simp_all [];done)|(simp_all []<;>first|omega|((repeat' split)<;>first|rfl|(exfalso;omega))))
def Sgn.z:Sgn:=⟨0,0,0⟩
theorem zlW (hH:HasAll P inv) (hI:HasIds P inv) (l:List Sgn) (hl:l.length≤1000000000) (n:Int):PC P inv 136 [.sl 3 (l.map Sgn.c),.n n] (·=.tup [.agg ((l.find? fun x=>decide (x.id=n)).getD Sgn.z).c,.b (l.find? fun x=>decide (x.id=n)).isSome]):=by
 have hs:=zbX (fun x:Sgn=>decide (x.id=n)) l 0
 refine zae (F:=cd136) (hH.has _ _ rfl) (Nat.le_of_ble_eq_true rfl) fun w0 M Q hM hQ hR=>?_;have hE:=hH.callable;dsimp only[cd136,qm,ql,qf,qi,qb,qc,qp,qv,qN,qT,qF,qt]at hQ ⊢
 repeat' (first|refine zaa [0,1,3,4,5,6,7,12] fun K hK=>?_|refine AWp.block ?_|(refine hK.go ?_;clear hK K)|refine Cont.go (by assumption) ?_|(refine cnd2 rfl (fun h=>?_) (fun h=>?_)<;>(try first|exact h.elim|obtain rfl:(_:Bool)=true:=h|obtain rfl:(_:Bool)=false:=h)<;>first|(exfalso;omega)|skip)|((first|refine AWp.reg hE hM ?_|refine AWp.regd hE hM ?_|refine AWp.ret ?_|refine AWp.skip ?_|refine AWp.exit ?_|(refine pk2 (fun h=>?_) (fun h=>?_)<;>(try first|exact h.elim|obtain rfl:(_:Bool)=true:=h|obtain rfl:(_:Bool)=false:=h))|refine zab (fun h=>?_) ?_|(refine zau hM 4 ( idx_sgn hH l (fun x _=>is_sgn hH hI n x) hl) ?_ rfl ?_;(focus ((refine no_implicit_lambda% (st ?_);try with_reducible exact True.intro)<;>fail)))|(refine hQ _ _ _ rfl ?_;clear hQ hR hE hM)|(refine hR _ _ (hQ _ _ _ rfl ?_);clear hQ hR hE hM)|(refine zaf ?_ ?_;focus first|omega|(refine zad ?_;(refine no_implicit_lambda% (st ?_);try with_reducible exact True.intro);done)))<;>try (refine no_implicit_lambda% (st ?_);try with_reducible exact True.intro)))
 ·rcases hs with ⟨h1,h2⟩|⟨i,h1,h2,h3⟩
  ·rw[h2];rfl
  ·omega
 ·rcases hs with ⟨h1,_⟩|⟨i,h1,h2,h3⟩
  ·omega
  ·rw[show (zcc (fun x:Sgn=>decide (x.id=n)) 0 l).toNat=i by omega]
   (refine no_implicit_lambda% (st ?_);try with_reducible exact True.intro)
   repeat' (first|refine zaa [0,1,3,4,5,6,7,12] fun K hK=>?_|refine AWp.block ?_|(refine hK.go ?_;clear hK K)|refine Cont.go (by assumption) ?_|(refine cnd2 rfl (fun h=>?_) (fun h=>?_)<;>(try first|exact h.elim|obtain rfl:(_:Bool)=true:=h|obtain rfl:(_:Bool)=false:=h)<;>first|(exfalso;omega)|skip)|((first|refine AWp.reg hE hM ?_|refine AWp.regd hE hM ?_|refine AWp.ret ?_|refine AWp.skip ?_|refine AWp.exit ?_|(refine pk2 (fun h=>?_) (fun h=>?_)<;>(try first|exact h.elim|obtain rfl:(_:Bool)=true:=h|obtain rfl:(_:Bool)=false:=h))|refine zab (fun h=>?_) ?_|(refine hQ _ _ _ rfl ?_;clear hQ hR hE hM)|(refine hR _ _ (hQ _ _ _ rfl ?_);clear hQ hR hE hM)|(refine zaf ?_ ?_;focus first|omega|(refine zad ?_;(refine no_implicit_lambda% (st ?_);try with_reducible exact True.intro);done)))<;>try (refine no_implicit_lambda% (st ?_);try with_reducible exact True.intro)))
   rw[h3];rfl
theorem is_pnt (hH:HasAll P inv) (hI:HasIds P inv) (n:Int) (x:Pnt):PC P inv 145 ([.agg x.c]++[.ip 1 [[.n n]] 0 0]) (·=.b (decide (x.id=n))):=by
 refine zae (F:=cd145) (hH.has _ _ rfl) (Nat.le_of_ble_eq_true rfl) fun w0 M Q hM hQ hR=>?_;have hE:=hH.callable;dsimp only[cd145,qm,ql,qf,qi,qb,qc,qp,qv,qN,qT,qF,qt]at hQ ⊢
 repeat' (first|refine zaa [0,1,2,3] fun K hK=>?_|refine AWp.block ?_|(refine hK.go ?_;clear hK K)|refine Cont.go (by assumption) ?_|(refine cnd2 rfl (fun h=>?_) (fun h=>?_)<;>(try first|exact h.elim|obtain rfl:(_:Bool)=true:=h|obtain rfl:(_:Bool)=false:=h)<;>first|(exfalso;omega)|skip)|((first|refine AWp.reg hE hM ?_|refine AWp.regd hE hM ?_|refine AWp.ret ?_|refine AWp.skip ?_|refine AWp.exit ?_|(refine pk2 (fun h=>?_) (fun h=>?_)<;>(try first|exact h.elim|obtain rfl:(_:Bool)=true:=h|obtain rfl:(_:Bool)=false:=h))|refine zab (fun h=>?_) ?_|refine zac hM (hI.pnt _) ?_|(refine hQ _ _ _ rfl ?_;clear hQ hR hE hM)|(refine hR _ _ (hQ _ _ _ rfl ?_);clear hQ hR hE hM)|(refine zaf ?_ ?_;focus first|omega|(refine zad ?_;(refine no_implicit_lambda% (st ?_);try with_reducible exact True.intro);done)))<;>try (refine no_implicit_lambda% (st ?_);try with_reducible exact True.intro)))
 all_goals (first|rfl|(grind[])|(simp[ *];done)|(simp_all [];done)|(simp_all []<;>first|omega|((repeat' split)<;>first|rfl|(exfalso;omega))))
def Pnt.z:Pnt:=⟨0,0⟩
theorem find_pnt (hH:HasAll P inv) (hI:HasIds P inv) (l:List Pnt) (hl:l.length≤1000000000) (n:Int):PC P inv 137 [.sl 2 (l.map Pnt.c),.n n] (·=.tup [.agg ((l.find? fun x=>decide (x.id=n)).getD Pnt.z).c,.b (l.find? fun x=>decide (x.id=n)).isSome]):=by
 have hs:=zbX (fun x:Pnt=>decide (x.id=n)) l 0
 refine zae (F:=cd137) (hH.has _ _ rfl) (Nat.le_of_ble_eq_true rfl) fun w0 M Q hM hQ hR=>?_;have hE:=hH.callable;dsimp only[cd137,qm,ql,qf,qi,qb,qc,qp,qv,qN,qT,qF,qt]at hQ ⊢
 repeat' (first|refine zaa [0,1,3,4,5,6,7,12] fun K hK=>?_|refine AWp.block ?_|(refine hK.go ?_;clear hK K)|refine Cont.go (by assumption) ?_|(refine cnd2 rfl (fun h=>?_) (fun h=>?_)<;>(try first|exact h.elim|obtain rfl:(_:Bool)=true:=h|obtain rfl:(_:Bool)=false:=h)<;>first|(exfalso;omega)|skip)|((first|refine AWp.reg hE hM ?_|refine AWp.regd hE hM ?_|refine AWp.ret ?_|refine AWp.skip ?_|refine AWp.exit ?_|(refine pk2 (fun h=>?_) (fun h=>?_)<;>(try first|exact h.elim|obtain rfl:(_:Bool)=true:=h|obtain rfl:(_:Bool)=false:=h))|refine zab (fun h=>?_) ?_|(refine zau hM 4 ( zhc hH l (fun x _=>is_pnt hH hI n x) hl) ?_ rfl ?_;(focus ((refine no_implicit_lambda% (st ?_);try with_reducible exact True.intro)<;>fail)))|(refine hQ _ _ _ rfl ?_;clear hQ hR hE hM)|(refine hR _ _ (hQ _ _ _ rfl ?_);clear hQ hR hE hM)|(refine zaf ?_ ?_;focus first|omega|(refine zad ?_;(refine no_implicit_lambda% (st ?_);try with_reducible exact True.intro);done)))<;>try (refine no_implicit_lambda% (st ?_);try with_reducible exact True.intro)))
 ·rcases hs with ⟨h1,h2⟩|⟨i,h1,h2,h3⟩
  ·rw[h2];rfl
  ·omega
 ·rcases hs with ⟨h1,_⟩|⟨i,h1,h2,h3⟩
  ·omega
  ·rw[show (zcc (fun x:Pnt=>decide (x.id=n)) 0 l).toNat=i by omega]
   (refine no_implicit_lambda% (st ?_);try with_reducible exact True.intro)
   repeat' (first|refine zaa [0,1,3,4,5,6,7,12] fun K hK=>?_|refine AWp.block ?_|(refine hK.go ?_;clear hK K)|refine Cont.go (by assumption) ?_|(refine cnd2 rfl (fun h=>?_) (fun h=>?_)<;>(try first|exact h.elim|obtain rfl:(_:Bool)=true:=h|obtain rfl:(_:Bool)=false:=h)<;>first|(exfalso;omega)|skip)|((first|refine AWp.reg hE hM ?_|refine AWp.regd hE hM ?_|refine AWp.ret ?_|refine AWp.skip ?_|refine AWp.exit ?_|(refine pk2 (fun h=>?_) (fun h=>?_)<;>(try first|exact h.elim|obtain rfl:(_:Bool)=true:=h|obtain rfl:(_:Bool)=false:=h))|refine zab (fun h=>?_) ?_|(refine hQ _ _ _ rfl ?_;clear hQ hR hE hM)|(refine hR _ _ (hQ _ _ _ rfl ?_);clear hQ hR hE hM)|(refine zaf ?_ ?_;focus first|omega|(refine zad ?_;(refine no_implicit_lambda% (st ?_);try with_reducible exact True.intro);done)))<;>try (refine no_implicit_lambda% (st ?_);try with_reducible exact True.intro)))
   rw[h3];rfl
end Go.Lev
namespace Go.Lev
open Go.Eng
set_option maxRecDepth 10000
set_option maxHeartbeats 4000000
variable {P:Program} {inv:Nat→Option Nat}
theorem zos (f:Nat→Option (List AV)) (k:IntKind) (l:List Int):zbP f (l.map (AV.i k))=l.map (AV.i k):=zca f _ (zcE k l)
theorem zoX (f:Nat→Option (List AV)) (l:List Bool):zbP f (l.map AV.b)=l.map AV.b:=zca f _ (zec l)
attribute [go_sem] zos zoX
theorem idxG_any {α:Type} [Inhabited α] (p:α→Bool) (l:List α):decide (0≤zcc p 0 l)=l.any p:=by
 have h:∀ (l:List α) (k:Int),0≤k→(0≤zcc p k l↔l.any p=true):=by
  intro l
  induction l with
  |nil=>intro k _;simp[zcc]
  |cons x r ih =>
   intro k hk
   rw[zcc,List.any_cons]
   cases h:p x with
   |true=>simp[hk]
   |false=>simpa using ih (k+1) (by omega)
 have:=h l 0 (by omega)
 grind
theorem any_pnt (hH:HasAll P inv) {jc:Nat} {caps:List AV} {p:Pnt→Bool} (l:List Pnt) (hc:∀ x∈l,PC P inv jc ([.agg x.c]++caps) (·=.b (p x))) (hl:l.length≤1000000000):PC P inv 91 [.sl 2 (l.map Pnt.c),.fn jc caps] (·=.b (l.any p)):=by
 rw[←idxG_any]
 refine zae (F:=cd91) (hH.has _ _ rfl) (Nat.le_of_ble_eq_true rfl) fun w0 M Q hM hQ hR=>?_;have hE:=hH.callable;dsimp only[cd91,qm,ql,qf,qi,qb,qc,qp,qv,qN,qT,qF,qt]at hQ ⊢
 repeat' (first|refine zaa [0,1,4] fun K hK=>?_|refine AWp.block ?_|(refine hK.go ?_;clear hK K)|refine Cont.go (by assumption) ?_|(refine cnd2 rfl (fun h=>?_) (fun h=>?_)<;>(try first|exact h.elim|obtain rfl:(_:Bool)=true:=h|obtain rfl:(_:Bool)=false:=h)<;>first|(exfalso;omega)|skip)|((first|refine AWp.reg hE hM ?_|refine AWp.regd hE hM ?_|refine AWp.ret ?_|refine AWp.skip ?_|refine AWp.exit ?_|(refine pk2 (fun h=>?_) (fun h=>?_)<;>(try first|exact h.elim|obtain rfl:(_:Bool)=true:=h|obtain rfl:(_:Bool)=false:=h))|refine zab (fun h=>?_) ?_|refine zac hM (zhc hH l hc hl) ?_|(refine hQ _ _ _ rfl ?_;clear hQ hR hE hM)|(refine hR _ _ (hQ _ _ _ rfl ?_);clear hQ hR hE hM)|(refine zaf ?_ ?_;focus first|omega|(refine zad ?_;(refine no_implicit_lambda% (st ?_);try with_reducible exact True.intro);done)))<;>try (refine no_implicit_lambda% (st ?_);try with_reducible exact True.intro)))
end Go.Lev
namespace Go.Lev
open Go.Eng
set_option maxRecDepth 10000
set_option maxHeartbeats 4000000
variable {P:Program} {inv:Nat→Option Nat}
def zbW (i:Int):Bool:=decide (1≤i)&&decide (i≤99)
theorem zey (hH:HasAll P inv) (i:Int):PC P inv 50 [.n i] (·=.b (zbW i)):=by
 refine zae (F:=cd50) (hH.has _ _ rfl) (Nat.le_of_ble_eq_true rfl) fun w0 M Q hM hQ hR=>?_;have hE:=hH.callable;dsimp only[cd50,qm,ql,qf,qi,qb,qc,qp,qv,qN,qT,qF,qt]at hQ ⊢
 repeat' (first|refine zaa [0,2] fun K hK=>?_|refine AWp.block ?_|(refine hK.go ?_;clear hK K)|refine Cont.go (by assumption) ?_|(refine cnd2 rfl (fun h=>?_) (fun h=>?_)<;>(try first|exact h.elim|obtain rfl:(_:Bool)=true:=h|obtain rfl:(_:Bool)=false:=h)<;>first|(exfalso;omega)|skip)|((first|refine AWp.reg hE hM ?_|refine AWp.regd hE hM ?_|refine AWp.ret ?_|refine AWp.skip ?_|refine AWp.exit ?_|(refine pk2 (fun h=>?_) (fun h=>?_)<;>(try first|exact h.elim|obtain rfl:(_:Bool)=true:=h|obtain rfl:(_:Bool)=false:=h))|refine zab (fun h=>?_) ?_|(refine hQ _ _ _ rfl ?_;clear hQ hR hE hM)|(refine hR _ _ (hQ _ _ _ rfl ?_);clear hQ hR hE hM)|(refine zaf ?_ ?_;focus first|omega|(refine zad ?_;(refine no_implicit_lambda% (st ?_);try with_reducible exact True.intro);done)))<;>try (refine no_implicit_lambda% (st ?_);try with_reducible exact True.intro)))
 all_goals (first|rfl|(grind[zbW])|(simp[zbW, *];done)|(simp_all [zbW];done)|(simp_all [zbW]<;>first|omega|((repeat' split)<;>first|rfl|(exfalso;omega))))
def zcn (s:Section):Bool:=(decide (s.pt=0)&&decide ((s.ends.length:Int)=2))||(zbW s.pt&&decide ((s.ends.length:Int)=3))
theorem zjn (hH:HasAll P inv) (s:Section):PC P inv 41 [.agg s.c] (·=.b (zcn s)):=by
 refine zae (F:=cd41) (hH.has _ _ rfl) (Nat.le_of_ble_eq_true rfl) fun w0 M Q hM hQ hR=>?_;have hE:=hH.callable;dsimp only[cd41,qm,ql,qf,qi,qb,qc,qp,qv,qN,qT,qF,qt]at hQ ⊢
 repeat' (first|refine zaa [0,1,2] fun K hK=>?_|refine AWp.block ?_|(refine hK.go ?_;clear hK K)|refine Cont.go (by assumption) ?_|(refine cnd2 rfl (fun h=>?_) (fun h=>?_)<;>(try first|exact h.elim|obtain rfl:(_:Bool)=true:=h|obtain rfl:(_:Bool)=false:=h)<;>first|(exfalso;omega)|skip)|((first|refine AWp.reg hE hM ?_|refine AWp.regd hE hM ?_|refine AWp.ret ?_|refine AWp.skip ?_|refine AWp.exit ?_|(refine pk2 (fun h=>?_) (fun h=>?_)<;>(try first|exact h.elim|obtain rfl:(_:Bool)=true:=h|obtain rfl:(_:Bool)=false:=h))|refine zab (fun h=>?_) ?_|refine zac hM (zey hH _) ?_|(refine hQ _ _ _ rfl ?_;clear hQ hR hE hM)|(refine hR _ _ (hQ _ _ _ rfl ?_);clear hQ hR hE hM)|(refine zaf ?_ ?_;focus first|omega|(refine zad ?_;(refine no_implicit_lambda% (st ?_);try with_reducible exact True.intro);done)))<;>try (refine no_implicit_lambda% (st ?_);try with_reducible exact True.intro)))
 all_goals (first|rfl|(grind[zcn])|(simp[zcn, *];done)|(simp_all [zcn];done)|(simp_all [zcn]<;>first|omega|((repeat' split)<;>first|rfl|(exfalso;omega))))
theorem isNaN_pc (hH:HasAll P inv) (i:Int):PC P inv 55 [.n i] (·=.b false):=by
 refine zae (F:=cd55) (hH.has _ _ rfl) (Nat.le_of_ble_eq_true rfl) fun w0 M Q hM hQ hR=>?_;have hE:=hH.callable;dsimp only[cd55,qm,ql,qf,qi,qb,qc,qp,qv,qN,qT,qF,qt]at hQ ⊢
 repeat' (first|refine zaa [0,2] fun K hK=>?_|refine AWp.block ?_|(refine hK.go ?_;clear hK K)|refine Cont.go (by assumption) ?_|(refine cnd2 rfl (fun h=>?_) (fun h=>?_)<;>(try first|exact h.elim|obtain rfl:(_:Bool)=true:=h|obtain rfl:(_:Bool)=false:=h)<;>first|(exfalso;omega)|skip)|((first|refine AWp.reg hE hM ?_|refine AWp.regd hE hM ?_|refine AWp.ret ?_|refine AWp.skip ?_|refine AWp.exit ?_|(refine pk2 (fun h=>?_) (fun h=>?_)<;>(try first|exact h.elim|obtain rfl:(_:Bool)=true:=h|obtain rfl:(_:Bool)=false:=h))|refine zab (fun h=>?_) ?_|(refine hQ _ _ _ rfl ?_;clear hQ hR hE hM)|(refine hR _ _ (hQ _ _ _ rfl ?_);clear hQ hR hE hM)|(refine zaf ?_ ?_;focus first|omega|(refine zad ?_;(refine no_implicit_lambda% (st ?_);try with_reducible exact True.intro);done)))<;>try (refine no_implicit_lambda% (st ?_);try with_reducible exact True.intro)))
 all_goals (first|rfl|(grind[])|(simp[ *];done)|(simp_all [];done)|(simp_all []<;>first|omega|((repeat' split)<;>first|rfl|(exfalso;omega))))
def zj9 (a b:Int):Int:=if a<b then -1 else if b<a then 1 else 0
theorem cmp_pc (hH:HasAll P inv) (a b:Int):PC P inv 53 [.n a,.n b] (·=.n (zj9 a b)):=by
 refine zae (F:=cd53) (hH.has _ _ rfl) (Nat.le_of_ble_eq_true rfl) fun w0 M Q hM hQ hR=>?_;have hE:=hH.callable;dsimp only[cd53,qm,ql,qf,qi,qb,qc,qp,qv,qN,qT,qF,qt]at hQ ⊢
 repeat' (first|refine zaa [0,1,4,5,6,11,12,13,16,19] fun K hK=>?_|refine AWp.block ?_|(refine hK.go ?_;clear hK K)|refine Cont.go (by assumption) ?_|(refine cnd2 rfl (fun h=>?_) (fun h=>?_)<;>(try first|exact h.elim|obtain rfl:(_:Bool)=true:=h|obtain rfl:(_:Bool)=false:=h)<;>first|(exfalso;omega)|skip)|((first|refine AWp.reg hE hM ?_|refine AWp.regd hE hM ?_|refine AWp.ret ?_|refine AWp.skip ?_|refine AWp.exit ?_|(refine pk2 (fun h=>?_) (fun h=>?_)<;>(try first|exact h.elim|obtain rfl:(_:Bool)=true:=h|obtain rfl:(_:Bool)=false:=h))|refine zab (fun h=>?_) ?_|refine zac hM (isNaN_pc hH _) ?_|(refine hQ _ _ _ rfl ?_;clear hQ hR hE hM)|(refine hR _ _ (hQ _ _ _ rfl ?_);clear hQ hR hE hM)|(refine zaf ?_ ?_;focus first|omega|(refine zad ?_;(refine no_implicit_lambda% (st ?_);try with_reducible exact True.intro);done)))<;>try (refine no_implicit_lambda% (st ?_);try with_reducible exact True.intro)))
 all_goals (first|rfl|(grind[zj9])|(simp[zj9, *];done)|(simp_all [zj9];done)|(simp_all [zj9]<;>first|omega|((repeat' split)<;>first|rfl|(exfalso;omega))))
theorem zjI (hH:HasAll P inv) (s:Section) (b:Int):PC P inv 52 [.agg s.c,.n b] (·=.n (zj9 s.id b)):=by
 refine zae (F:=cd52) (hH.has _ _ rfl) (Nat.le_of_ble_eq_true rfl) fun w0 M Q hM hQ hR=>?_;have hE:=hH.callable;dsimp only[cd52,qm,ql,qf,qi,qb,qc,qp,qv,qN,qT,qF,qt]at hQ ⊢
 repeat' (first|refine zaa [0,1,2,4] fun K hK=>?_|refine AWp.block ?_|(refine hK.go ?_;clear hK K)|refine Cont.go (by assumption) ?_|(refine cnd2 rfl (fun h=>?_) (fun h=>?_)<;>(try first|exact h.elim|obtain rfl:(_:Bool)=true:=h|obtain rfl:(_:Bool)=false:=h)<;>first|(exfalso;omega)|skip)|((first|refine AWp.reg hE hM ?_|refine AWp.regd hE hM ?_|refine AWp.ret ?_|refine AWp.skip ?_|refine AWp.exit ?_|(refine pk2 (fun h=>?_) (fun h=>?_)<;>(try first|exact h.elim|obtain rfl:(_:Bool)=true:=h|obtain rfl:(_:Bool)=false:=h))|refine zab (fun h=>?_) ?_|refine zac hM (cmp_pc hH _ _) ?_|(refine hQ _ _ _ rfl ?_;clear hQ hR hE hM)|(refine hR _ _ (hQ _ _ _ rfl ?_);clear hQ hR hE hM)|(refine zaf ?_ ?_;focus first|omega|(refine zad ?_;(refine no_implicit_lambda% (st ?_);try with_reducible exact True.intro);done)))<;>try (refine no_implicit_lambda% (st ?_);try with_reducible exact True.intro)))
 all_goals (first|rfl|(grind[zj9])|(simp[zj9, *];done)|(simp_all [zj9];done)|(simp_all [zj9]<;>first|omega|((repeat' split)<;>first|rfl|(exfalso;omega))))
def zgn (l:List Section) (id:Int) (i j:Nat):Nat :=
 if _h:i<j then if zj9 (nth l ((i+j) / 2)).id id<0 then zgn l id ((i+j) / 2+1) j else zgn l id i ((i+j) / 2) else i
termination_by j-i
def zao (l:List Section) (id:Int):Nat×Bool :=
 (zgn l id 0 l.length,decide (zgn l id 0 l.length<l.length)&&decide (zj9 (nth l (zgn l id 0 l.length)).id id=0))
theorem zkc {l:List Section} {id:Int} {i j:Nat} (h:i<j):zgn l id i j=if zj9 (nth l ((i+j) / 2)).id id<0 then zgn l id ((i+j) / 2+1) j else zgn l id i ((i+j) / 2):=by
 rw[zgn,dif_pos h]
theorem zi6 {l:List Section} {id:Int} {i:Nat}:zgn l id i i=i:=by rw[zgn,dif_neg (by omega)]
theorem zoW (l:List Section) (id:Int):∀ (n i j:Nat),j-i≤n→i≤j→i≤zgn l id i j∧zgn l id i j≤j:=by
 intro n
 induction n with
 |zero=>intro i j h hij;unfold zgn;rw[dif_neg (by omega)];omega
 |succ n ih =>
  intro i j h hij
  unfold zgn
  split
  ·split
   ·have:=ih ((i+j) / 2+1) j (by omega) (by omega);omega
   ·have:=ih i ((i+j) / 2) (by omega) (by omega);omega
  ·omega
theorem bs_pc (hH:HasAll P inv) (l:List Section) (id:Int) (hl:l.length≤1000000000):PC P inv 51 [.sl 3 (l.map Section.c),.n id,.fn 52 []] (·=.tup [.n (zao l id).1,.b (zao l id).2]):=by
 have hb:=zoW l id l.length 0 l.length (by omega) (by omega)
 refine zae (F:=cd51) (hH.has _ _ rfl) (Nat.le_of_ble_eq_true rfl) fun w0 M Q hM hQ hR=>?_;have hE:=hH.callable;dsimp only[cd51,qm,ql,qf,qi,qb,qc,qp,qv,qN,qT,qF,qt]at hQ ⊢
 repeat' (first|refine zaa [0,1,2,6,7,8,9,10,11,17,31] fun K hK=>?_|refine AWp.block ?_|(refine hK.go ?_;clear hK K)|refine Cont.go (by assumption) ?_|(refine cnd2 rfl (fun h=>?_) (fun h=>?_)<;>(try first|exact h.elim|obtain rfl:(_:Bool)=true:=h|obtain rfl:(_:Bool)=false:=h)<;>first|(exfalso;omega)|skip)|((first|refine AWp.reg hE hM ?_|refine AWp.regd hE hM ?_|refine AWp.ret ?_|refine AWp.skip ?_|refine AWp.exit ?_|(refine pk2 (fun h=>?_) (fun h=>?_)<;>(try first|exact h.elim|obtain rfl:(_:Bool)=true:=h|obtain rfl:(_:Bool)=false:=h))|refine zab (fun h=>?_) ?_|(refine hQ _ _ _ rfl ?_;clear hQ hR hE hM)|(refine hR _ _ (hQ _ _ _ rfl ?_);clear hQ hR hE hM)|(refine zaf ?_ ?_;focus first|omega|(refine zad ?_;(refine no_implicit_lambda% (st ?_);try with_reducible exact True.intro);done)))<;>try (refine no_implicit_lambda% (st ?_);try with_reducible exact True.intro)))
 refine zaW (ι:=Nat×Nat) (fun k=>[(0,.sl 3 (l.map Section.c)),(1,.n id),(2,.fn 52 []),(8,.n l.length),(9,.n k.1),(10,.n k.2)]) (fun _=>[]) (fun k=>k.1≤k.2∧k.2≤l.length∧zgn l id k.1 k.2=zgn l id 0 l.length) (fun k=>k.2-k.1) (0,l.length) ⟨by omega,by omega,rfl⟩ ?_ ?_ ?_
 ·(refine no_implicit_lambda% (st ?_);try with_reducible exact True.intro)
  rfl
 ·(refine no_implicit_lambda% (st ?_);try with_reducible exact True.intro)
 rintro ⟨i,j⟩ ⟨h1,h2,hg⟩
 dsimp only at h1 h2 hg ⊢
 rcases Nat.lt_or_ge i j with hlt|hge
 ·rw[zkc hlt]at hg
  have e1:(((i:Int)+j) / 2).toNat=(i+j) / 2:=by omega
  repeat' (first|refine zaa [0,1,2,6,7,8,9,10,11,17,31] fun K hK=>?_|refine AWp.block ?_|(refine hK.go ?_;clear hK K)|refine Cont.go (by assumption) ?_|(refine cnd2 rfl (fun h=>?_) (fun h=>?_)<;>(try first|exact h.elim|obtain rfl:(_:Bool)=true:=h|obtain rfl:(_:Bool)=false:=h)<;>first|(exfalso;omega)|skip)|((first|refine AWp.reg hE hM ?_|refine AWp.regd hE hM ?_|refine AWp.ret ?_|refine AWp.skip ?_|refine AWp.exit ?_|(refine pk2 (fun h=>?_) (fun h=>?_)<;>(try first|exact h.elim|obtain rfl:(_:Bool)=true:=h|obtain rfl:(_:Bool)=false:=h))|refine zab (fun h=>?_) ?_|refine zac hM (zjI hH _ _) ?_|(refine hQ _ _ _ rfl ?_;clear hQ hR hE hM)|(refine hR _ _ (hQ _ _ _ rfl ?_);clear hQ hR hE hM)|(refine zaf ?_ ?_;focus first|omega|(refine zad ?_;(refine no_implicit_lambda% (st ?_);try with_reducible exact True.intro);done)))<;>try (refine no_implicit_lambda% (st ?_);try with_reducible exact True.intro)))
  ·simp only[e1]at h
   rw[if_pos h]at hg
   exact ⟨((i+j) / 2+1,j),by dsimp only;omega,⟨by dsimp only;omega,h2,hg⟩,(by (try dsimp only);(first|omega|(simp;done)|(simp;omega)))⟩
  ·simp only[e1]at h
   rw[if_neg (by omega)]at hg
   exact ⟨(i,(i+j) / 2),by dsimp only;omega,⟨by dsimp only;omega,by dsimp only;omega,hg⟩,(by (try dsimp only);(first|omega|(simp;done)|(simp;omega)))⟩
 ·obtain rfl:i=j:=by omega
  rw[zi6]at hg
  repeat' (first|refine zaa [0,1,2,6,7,8,9,10,11,17,31] fun K hK=>?_|refine AWp.block ?_|(refine hK.go ?_;clear hK K)|refine Cont.go (by assumption) ?_|(refine cnd2 rfl (fun h=>?_) (fun h=>?_)<;>(try first|exact h.elim|obtain rfl:(_:Bool)=true:=h|obtain rfl:(_:Bool)=false:=h)<;>first|(exfalso;omega)|skip)|((first|refine AWp.reg hE hM ?_|refine AWp.regd hE hM ?_|refine AWp.ret ?_|refine AWp.skip ?_|refine AWp.exit ?_|(refine pk2 (fun h=>?_) (fun h=>?_)<;>(try first|exact h.elim|obtain rfl:(_:Bool)=true:=h|obtain rfl:(_:Bool)=false:=h))|refine zab (fun h=>?_) ?_|refine zac hM (zjI hH _ _) ?_|(refine hQ _ _ _ rfl ?_;clear hQ hR hE hM)|(refine hR _ _ (hQ _ _ _ rfl ?_);clear hQ hR hE hM)|(refine zaf ?_ ?_;focus first|omega|(refine zad ?_;(refine no_implicit_lambda% (st ?_);try with_reducible exact True.intro);done)))<;>try (refine no_implicit_lambda% (st ?_);try with_reducible exact True.intro)))
  ·have h':zgn l id 0 l.length<l.length:=by omega
   subst hg
   simp[zao,h']
  ·have h':¬zgn l id 0 l.length<l.length:=by omega
   subst hg
   simp[zao,h']
theorem place_pc (hH:HasAll P inv) (l:List Section) (id:Int) (hl:l.length≤1000000000):PC P inv 46 [.sl 3 (l.map Section.c),.n id] (·=.tup [.n (zao l id).1,.b (zao l id).2]):=by
 refine zae (F:=cd46) (hH.has _ _ rfl) (Nat.le_of_ble_eq_true rfl) fun w0 M Q hM hQ hR=>?_;have hE:=hH.callable;dsimp only[cd46,qm,ql,qf,qi,qb,qc,qp,qv,qN,qT,qF,qt]at hQ ⊢
 repeat' (first|refine zaa [0,1,4,5] fun K hK=>?_|refine AWp.block ?_|(refine hK.go ?_;clear hK K)|refine Cont.go (by assumption) ?_|(refine cnd2 rfl (fun h=>?_) (fun h=>?_)<;>(try first|exact h.elim|obtain rfl:(_:Bool)=true:=h|obtain rfl:(_:Bool)=false:=h)<;>first|(exfalso;omega)|skip)|((first|refine AWp.reg hE hM ?_|refine AWp.regd hE hM ?_|refine AWp.ret ?_|refine AWp.skip ?_|refine AWp.exit ?_|(refine pk2 (fun h=>?_) (fun h=>?_)<;>(try first|exact h.elim|obtain rfl:(_:Bool)=true:=h|obtain rfl:(_:Bool)=false:=h))|refine zab (fun h=>?_) ?_|refine zac hM (bs_pc hH _ _ (by omega)) ?_|(refine hQ _ _ _ rfl ?_;clear hQ hR hE hM)|(refine hR _ _ (hQ _ _ _ rfl ?_);clear hQ hR hE hM)|(refine zaf ?_ ?_;focus first|omega|(refine zad ?_;(refine no_implicit_lambda% (st ?_);try with_reducible exact True.intro);done)))<;>try (refine no_implicit_lambda% (st ?_);try with_reducible exact True.intro)))
def zkr (id:Int) (k:Nat):List Section→Int
 |[]=>-1
 |x::r=>if x.id=id then k else zkr id (k+1) r
end Go.Lev
namespace Go.Lev
open Go.Eng
set_option maxRecDepth 10000
set_option maxHeartbeats 4000000
variable {P:Program} {inv:Nat→Option Nat}
def zfq (pt:Int):List Int:=if pt=0 then [0,3,0,3,0,0,0,0,0] else [0,1,2,1,0,0,2,0,0]
theorem ways_pc (hH:HasAll P inv) (s:Section):PC P inv 42 [.agg s.c] (·=.agg ((zfq s.pt).map AV.n)):=by
 refine zae (F:=cd42) (hH.has _ _ rfl) (Nat.le_of_ble_eq_true rfl) fun w0 M Q hM hQ hR=>?_;have hE:=hH.callable;dsimp only[cd42,qm,ql,qf,qi,qb,qc,qp,qv,qN,qT,qF,qt]at hQ ⊢
 repeat' (first|refine zaa [0,1,2,5] fun K hK=>?_|refine AWp.block ?_|(refine hK.go ?_;clear hK K)|refine Cont.go (by assumption) ?_|(refine cnd2 rfl (fun h=>?_) (fun h=>?_)<;>(try first|exact h.elim|obtain rfl:(_:Bool)=true:=h|obtain rfl:(_:Bool)=false:=h)<;>first|(exfalso;omega)|skip)|((first|refine AWp.reg hE hM ?_|refine AWp.regd hE hM ?_|refine AWp.ret ?_|refine AWp.skip ?_|refine AWp.exit ?_|(refine pk2 (fun h=>?_) (fun h=>?_)<;>(try first|exact h.elim|obtain rfl:(_:Bool)=true:=h|obtain rfl:(_:Bool)=false:=h))|refine zab (fun h=>?_) ?_|(refine hQ _ _ _ rfl ?_;clear hQ hR hE hM)|(refine hR _ _ (hQ _ _ _ rfl ?_);clear hQ hR hE hM)|(refine zaf ?_ ?_;focus first|omega|(refine zad ?_;(refine no_implicit_lambda% (st ?_);try with_reducible exact True.intro);done)))<;>try (refine no_implicit_lambda% (st ?_);try with_reducible exact True.intro)))
 all_goals (first|rfl|(grind[zfq])|(simp[zfq, *];done)|(simp_all [zfq];done)|(simp_all [zfq]<;>first|omega|((repeat' split)<;>first|rfl|(exfalso;omega))))
def zb9 (s:Section):Bool:=if s.pt=0 then decide ((s.ends.length:Int)=2) else decide (1≤s.pt)&&decide (s.pt≤99)&&decide ((s.ends.length:Int)=3)
def rLie (s:Section) (f t:Int):Int:=if s.pt=0 then (if f=0∧t=1∨f=1∧t=0 then 0 else -1) else if f=0∧(t=1∨t=2) then t else if t=0∧(f=1∨f=2) then f else -1
def idxGo (v:Int) (k:Nat):List Int→Int
 |[]=>-1
 |x::r=>if v=x then k else idxGo v (k+1) r
end Go.Lev
namespace Go.Lev
open Go.Eng
set_option maxRecDepth 10000
set_option maxHeartbeats 4000000
variable {P:Program} {inv:Nat→Option Nat}
def rGreat (l:List Section):Bool:=(l.take 40).any (fun s=>decide (20<(s.ends.length:Int)))||decide (40<(l.length:Int))
def rSame (a b:Section):Bool:=decide (a.id=b.id)&&decide (a.pt=b.pt)&&decide (a.ends=b.ends)
def routGo (s:Section) (f lie:Int):Nat→Nat→AV
 |_,0=>.tup [.n 0,.n 2]
 |k,m+1=>if rLie s f k=lie then .tup [.n k,.n 0] else routGo s f lie (k+1) m
end Go.Lev
namespace Go.Lev
open Go.Eng
set_option maxRecDepth 10000
set_option maxHeartbeats 4000000
variable {P:Program} {inv:Nat→Option Nat}
def zcM (pt f t:Int):Int:=if pt=0 then (if f=0∧t=1∨f=1∧t=0 then 3 else 0) else if f=0∧(t=1∨t=2) then t else if t=0∧(f=1∨f=2) then f else 0
theorem zde {f:Int} (h:0≤f∧f≤2):f=0∨f=1∨f=2:=by omega
theorem seg_ways {pt f t:Int} (h:0≤f∧f≤2) (h':0≤t∧t≤2):(((((zfq pt).map AV.n).drop (f.toNat*3)).take 3))[t.toNat]?=some (.n (zcM pt f t)):=by
 rcases zde h with rfl|rfl|rfl<;>rcases zde h' with rfl|rfl|rfl<;>by_cases hp:pt=0<;>simp[zfq,zcM,hp]
theorem znz (pt:Int):(((zfq pt).map AV.n).take 3)=[zcM pt 0 0,zcM pt 0 1,zcM pt 0 2].map AV.n:=by by_cases hp:pt=0<;>simp[zfq,zcM,hp]
theorem zny (pt:Int):((((zfq pt).map AV.n).drop 3).take 3)=[zcM pt 1 0,zcM pt 1 1,zcM pt 1 2].map AV.n:=by by_cases hp:pt=0<;>simp[zfq,zcM,hp]
theorem znx (pt:Int):((((zfq pt).map AV.n).drop 6).take 3)=[zcM pt 2 0,zcM pt 2 1,zcM pt 2 2].map AV.n:=by by_cases hp:pt=0<;>simp[zfq,zcM,hp]
attribute [local go_sem] seg_ways znz zny znx
def zin (s:Section) (f t:Int):AV:=if zcn s=true then (if f<0∨2<f∨t<0∨2<t∨zcM s.pt f t=0 then .tup [.n 0,.n 2] else .tup [.n ((zcM s.pt f t).tmod 3),.n 0]) else .tup [.n 0,.n 8]
theorem zmb (hH:HasAll P inv) (s:Section) (f t:Int):PC P inv 16 [.agg s.c,.n f,.n t] (·=zin s f t):=by
 refine zae (F:=cd16) (hH.has _ _ rfl) (Nat.le_of_ble_eq_true rfl) fun w0 M Q hM hQ hR=>?_;have hE:=hH.callable;dsimp only[cd16,qm,ql,qf,qi,qb,qc,qp,qv,qN,qT,qF,qt]at hQ ⊢
 repeat' (first|refine zaa [0,1,2,3,6,7,10,33] fun K hK=>?_|refine AWp.block ?_|(refine hK.go ?_;clear hK K)|refine Cont.go (by assumption) ?_|(refine cnd2 rfl (fun h=>?_) (fun h=>?_)<;>(try first|exact h.elim|obtain rfl:(_:Bool)=true:=h|obtain rfl:(_:Bool)=false:=h)<;>first|(exfalso;omega)|skip)|((first|refine AWp.reg hE hM ?_|refine AWp.regd hE hM ?_|refine AWp.ret ?_|refine AWp.skip ?_|refine AWp.exit ?_|(refine pk2 (fun h=>?_) (fun h=>?_)<;>(try first|exact h.elim|obtain rfl:(_:Bool)=true:=h|obtain rfl:(_:Bool)=false:=h))|refine zab (fun h=>?_) ?_|refine zac hM (zjn hH _) ?_|refine zac hM (ways_pc hH _) ?_|(refine hQ _ _ _ rfl ?_;clear hQ hR hE hM)|(refine hR _ _ (hQ _ _ _ rfl ?_);clear hQ hR hE hM)|(refine zaf ?_ ?_;focus first|omega|(refine zad ?_;(refine no_implicit_lambda% (st ?_);try with_reducible exact True.intro);done)))<;>try (refine no_implicit_lambda% (st ?_);try with_reducible exact True.intro)))
 all_goals (unfold zin;simp only[*,if_true,if_false,true_or,or_true,reduceCtorEq,Bool.false_eq_true])
 rw[if_neg (by rintro (a|a|a|a|a)<;>first|omega|contradiction)]
def outL (s:Section) (f lie:Int):Int:=idxGo (if s.pt=0∧lie=0 then 3 else lie) 0 [zcM s.pt f 0,zcM s.pt f 1,zcM s.pt f 2]
def outV (s:Section) (f lie:Int):AV:=if zcn s=true then (if f<0∨2<f∨lie<0∨2<lie then .tup [.n 0,.n 2] else if (¬s.pt=0∧lie=0)∨outL s f lie<0 then .tup [.n 0,.n 2] else .tup [.n (outL s f lie),.n 0]) else .tup [.n 0,.n 8]
end Go.Lev
namespace Go.Lev
open Go.Eng
set_option maxRecDepth 10000
set_option maxHeartbeats 4000000
variable {P:Program} {inv:Nat→Option Nat}
def zgP (l:List Section) (s:Section) (e:Nat):Bool :=
 if (nth s.ends e).to=0∧(nth s.ends e).ed=0 then true
 else if zkr (nth s.ends e).to 0 l<0∨(nth s.ends e).ed<0∨((nth l (zkr (nth s.ends e).to 0 l).toNat).ends.length:Int)≤(nth s.ends e).ed∨((nth s.ends e).to=s.id∧(nth s.ends e).ed=(e:Int)) then false
 else decide ((nth (nth l (zkr (nth s.ends e).to 0 l).toNat).ends (nth s.ends e).ed.toNat).to=s.id)&&decide ((nth (nth l (zkr (nth s.ends e).to 0 l).toNat).ends (nth s.ends e).ed.toNat).ed=(e:Int))
end Go.Lev
