/-
  A part of the engine that walks the functions' codes, and of the functions' contracts. Conditions: those that each theorem names.
-/
import Derived.Test.YtibpmipffibbpaaGreatL1
import Derived.IntWalk
set_option linter.unusedSimpArgs false
set_option linter.unusedVariables false
set_option linter.unusedSectionVars false
namespace Go.Eng
open Go.RowKit
section
variable {P:Program} {inv:Nat→Option Nat} {w0:World} {M:Nat→Prop} {n N:Nat} {φ:AF} {σ:AS} {β:Nat→Nat} {a:Act} {w:World}
theorem Mem.empty (hm:Mem inv w0 M σ β w) {l:Nat} (hl:zbb σ≤l):Mem inv w0 M (za5 σ l (.cells [] false)) β w∧∀ K,K≤l→Ext K (ctx inv M σ β w) (ctx inv M (za5 σ l (.cells [] false)) β w):=by
 have hg:∀ k,k≠l→zaB (za5 σ l (.cells [] false)) k=zaB σ k:=fun k hk=>by rw[zaj,if_neg hk]
 have hgl:zaB (za5 σ l (.cells [] false)) l=some (.cells [] false):=by rw[zaj,if_pos rfl]
 have hreal:∀ k o,zaB (za5 σ l (.cells [] false)) k=some o→o.real=true→zaB σ k=some o:=by
  intro k o e hr
  by_cases hk:k=l
  ·subst hk;rw[hgl]at e;cases e;cases hr
  ·rw[hg k hk]at e;exact e
 have hav:∀ b,avoid M (za5 σ l (.cells [] false)) β b→avoid M σ β b:=by
  rintro b (h|⟨k,o,e,hr,hb⟩)
  ·exact .inl h
  ·exact .inr ⟨k,o,hreal k o e hr,hr,hb⟩
 have hx:∀ K,K≤l→Ext K (ctx inv M σ β w) (ctx inv M (za5 σ l (.cells [] false)) β w):=fun K hK =>
  ⟨⟨rfl,Nat.le_refl _,fun _ _ _=>rfl,fun b _ h=>hav b h⟩,fun k hk p' hp'=>⟨p',by
   have hp':zal β w (za5 σ l (.cells [] false)) k=some p':=hp'
   show zal β w σ k=some p'
   unfold zal at hp' ⊢
   rw[hg k (by omega)]at hp'
   exact hp',Nat.le_refl _,fun _=>rfl⟩⟩
 refine ⟨⟨hm.below,fun k k' o o' e e' hr hr' hb=>hm.inj k k' o o' (hreal k o e hr) (hreal k' o' e' hr') hr hr' hb,fun k o e hr=>hm.own k o (hreal k o e hr) hr,fun k cs e=>?_,fun k cs e=>?_,fun k kvs e=>?_⟩,hx⟩
 ·obtain ⟨xs,ty,e1,e2,e3⟩:=hm.cells k cs (hreal k _ e rfl)
  have hb:=(zaC σ k _ (hreal k _ e rfl)).2
  exact ⟨xs,ty,e1,e2,(hx l (Nat.le_refl _)).relCs (zas cs (Nat.le_trans hb hl)) e3⟩
 ·by_cases hk:k=l
  ·subst hk;rw[hgl]at e;cases e;rfl
  ·rw[hg k hk]at e;exact hm.ghost k cs e
 ·exact hm.maps k kvs (hreal k _ e rfl)
theorem zhw {l sz:Nat} {x:Value} (h:rel (ctx inv M σ β w) (.s0 sz) x):rel (ctx inv M (za5 σ l (.cells [] false)) β w) (.sm l 0 0 0 sz) x:=by
 simp only[rel]at h ⊢
 obtain ⟨ad,rfl⟩:=h
 refine ⟨rfl,fun p hp=>?_⟩
 have hp:zal β w (za5 σ l (.cells [] false)) l=some p:=hp
 unfold zal at hp
 rw[zaj,if_pos rfl]at hp
 simp only[Option.some.injEq]at hp
 subst hp
 exact ⟨Nat.le_refl _,fun _=>⟨by simp,ad,0,rfl,Nat.le_refl _,by simp⟩⟩
theorem AWp.empty {c:ACode} {Q:Exit→AF→AS→Prop} (t l sz:Nat) (ht:zbk φ t=.s0 sz) (h1:N≤l) (h2:zaL φ≤l) (h3:zbb σ≤l)
  (h:AWp P inv w0 M N n c Q (zbx φ t (.sm l 0 0 0 sz)) (za5 σ l (.cells [] false))):AWp P inv w0 M N n c Q φ σ:=by
 intro c₀ hc β a w hs
 obtain ⟨hm,hx⟩:=hs.mem.empty h3
 refine Code.wp_mono ?_ (h c₀ hc β a w ⟨⟨fun i=>?_,hm⟩,hs.size,hs.defers⟩)
 ·rintro e a' w' ⟨φ2,σ2,β2,q2,hst2,hext2⟩
  exact ⟨φ2,σ2,β2,q2,hst2,(hx N h1).trans hext2⟩
 ·rw[zbN]
  split
  ·rename_i e
   subst e
   have:=hs.slots i
   rw[ht]at this
   exact zhw this
  ·exact (hx l (Nat.le_refl _)).rel (zaG _ (Nat.le_trans (zbI φ i) h2)) (hs.slots i)
mutual
def rnV (f:Nat→Nat):AV→AV
 |.agg cs=>.agg (rnL f cs)
 |.tup cs=>.tup (rnL f cs)
 |.fn j cs=>.fn j (rnL f cs)
 |.ptr l ver off=>.ptr (f l) ver off
 |.sm l ver off n sz=>.sm (f l) ver off n sz
 |.mp l=>.mp (f l)
 |.i k n=>.i k n
 |.b t=>.b t
 |.v x=>.v x
 |.u=>.u
 |.s0 sz=>.s0 sz
 |.sl sz es=>.sl sz es
 |.ip sz es i k=>.ip sz es i k
 |.top=>.top
def rnL (f:Nat→Nat):List AV→List AV
 |[]=>[]
 |x::xs=>rnV f x::rnL f xs
end
def rnO (f:Nat→Nat):AO→AO
 |.cells cs r=>.cells (rnL f cs) r
 |.imap kvs=>.imap kvs
 |.rsv=>.rsv
def rnS (f:Nat→Nat):List (Nat×AO)→List (Nat×AO)
 |[]=>[]
 |(l,o)::r=>(f l,rnO f o)::rnS f r
def rnF (f:Nat→Nat):List (Nat×AV)→List (Nat×AV)
 |[]=>[]
 |(i,x)::r=>(i,rnV f x)::rnF f r
def swN (a b l:Nat):Nat:=if l=a then b else if l=b then a else l
theorem zoB (a b l:Nat):swN a b (swN a b l)=l:=by unfold swN;grind
theorem zev (f:Nat→Nat):∀ xs:List AV,(rnL f xs).length=xs.length
 |[]=>rfl
 |x::xs=>by simp[rnL,zev f xs]
theorem zjs (f:Nat→Nat) (o:AO):(rnO f o).real=o.real:=by cases o<;>rfl
theorem znj (f:Nat→Nat):∀ (φ:AF) (i:Nat),zbk (rnF f φ) i=rnV f (zbk φ i)
 |[],i=>rfl
 |(j,x)::r,i=>by
  simp only[rnF,zbk]
  split
  ·rfl
  ·exact znj f r i
theorem zmP {f:Nat→Nat} (hf:∀ l,f (f l)=l):∀ (σ:AS) (l:Nat),zaB (rnS f σ) (f l)=(zaB σ l).map (rnO f)
 |[],l=>rfl
 |(k,o)::r,l=>by
  simp only[rnS,zaB,zmP hf r l]
  by_cases h:l=k
  ·subst h;simp
  ·rw[if_neg (fun e=>h (by rw[←hf l,e,hf])),if_neg h]
mutual
theorem zo4 {c c':Ctx} (hle:c.Le c') (f:Nat→Nat) (hS:∀ l,c'.S (f l)=c.S l):∀ (x:AV) (y:Value),rel c x y→rel c' (rnV f x) y
 |.agg cs,y,r=>by
  simp only[rel,rnV]at r ⊢
  obtain ⟨xs,e,r⟩:=r
  exact ⟨xs,e,zjz hle f hS cs _ r⟩
 |.tup cs,y,r=>by
  simp only[rel,rnV]at r ⊢
  obtain ⟨xs,e,r⟩:=r
  exact ⟨xs,e,zlT hle f hS cs _ r⟩
 |.fn j cs,y,r=>by
  simp only[rel,rnV]at r ⊢
  obtain ⟨g,xs,e,hi,r⟩:=r
  exact ⟨g,xs,e,by rw[hle.inv];exact hi,zlT hle f hS cs _ r⟩
 |.ptr l ver off,y,r=>by
  simp only[rel,rnV]at r ⊢
  rw[hS];exact r
 |.sm l ver off n sz,y,r=>by
  simp only[rel,rnV]at r ⊢
  rw[hS];exact r
 |.mp l,y,r=>by
  simp only[rel,rnV]at r ⊢
  rw[hS];exact r
 |.i k n,y,r=>by simp only[rnV];exact zaS hle rfl r
 |.b t,y,r=>by simp only[rnV];exact zaS hle rfl r
 |.v x,y,r=>by simp only[rnV];exact zaS hle rfl r
 |.u,y,r=>by simp only[rnV];exact zaS hle rfl r
 |.s0 sz,y,r=>by simp only[rnV];exact zaS hle rfl r
 |.sl sz es,y,r=>by simp only[rnV];exact zaS hle rfl r
 |.ip sz es i k,y,r=>by simp only[rnV];exact zaS hle rfl r
 |.top,y,r=>by simp only[rnV,rel]
theorem zlT {c c':Ctx} (hle:c.Le c') (f:Nat→Nat) (hS:∀ l,c'.S (f l)=c.S l):∀ (xs:List AV) (ys:List Value),zbQ c xs ys→zbQ c' (rnL f xs) ys
 |[],ys,r=>by simpa only[rnL,zbQ] using r
 |x::xs,ys,r=>by
  simp only[rnL,zbQ]at r ⊢
  obtain ⟨y,ys',e,r1,r2⟩:=r
  exact ⟨y,ys',e,zo4 hle f hS x y r1,zlT hle f hS xs ys' r2⟩
theorem zjz {c c':Ctx} (hle:c.Le c') (f:Nat→Nat) (hS:∀ l,c'.S (f l)=c.S l):∀ (xs:List AV) (ys:List Value),relCs c xs ys→relCs c' (rnL f xs) ys
 |[],ys,r=>by simpa only[rnL,relCs] using r
 |x::xs,ys,r=>by
  simp only[rnL,relCs]at r ⊢
  obtain ⟨y,ys',e,ho,r1,r2⟩:=r
  exact ⟨y,ys',e,ho,zo4 hle f hS x y r1,zjz hle f hS xs ys' r2⟩
end
theorem Mem.rename {f:Nat→Nat} (hf:∀ l,f (f l)=l) (hm:Mem inv w0 M σ β w):Mem inv w0 M (rnS f σ) (fun l=>β (f l)) w∧(∀ K,(∀ l,l<K→f l=l)→Ext K (ctx inv M σ β w) (ctx inv M (rnS f σ) (fun l=>β (f l)) w)) ∧
  ∀ x y,rel (ctx inv M σ β w) x y→rel (ctx inv M (rnS f σ) (fun l=>β (f l)) w) (rnV f x) y:=by
 have hg:=zmP hf σ
 have hg':∀ l,zaB (rnS f σ) l=(zaB σ (f l)).map (rnO f):=fun l=>by rw[←hg (f l),hf]
 have hpl:∀ l,zal (fun l=>β (f l)) w (rnS f σ) (f l)=zal β w σ l:=fun l=>by
  unfold zal
  rw[hg l]
  cases e:zaB σ l with
  |none=>rfl
  |some o =>
   cases o with
   |rsv=>rfl
   |imap kvs=>simp only[Option.map_some,rnO,hf]
   |cells cs r=>cases r<;>simp only[Option.map_some,rnO,hf,zev]
 have hback:∀ l o,zaB (rnS f σ) l=some o→∃ o',zaB σ (f l)=some o'∧o=rnO f o':=fun l o e=>by
  rw[hg' l]at e
  obtain ⟨o',e',rfl⟩:=Option.map_eq_some_iff.1 e
  exact ⟨o',e',rfl⟩
 have hav:∀ b,avoid M (rnS f σ) (fun l=>β (f l)) b→avoid M σ β b:=by
  rintro b (h|⟨k,o,e,hr,hb⟩)
  ·exact .inl h
  ·obtain ⟨o',e',rfl⟩:=hback k o e
   exact .inr ⟨f k,o',e',by rw[zjs]at hr;exact hr,hb⟩
 have hle:(ctx inv M σ β w).Le (ctx inv M (rnS f σ) (fun l=>β (f l)) w):=⟨rfl,Nat.le_refl _,fun _ _ _=>rfl,fun b _ h=>hav b h⟩
 refine ⟨⟨hm.below,fun k k' o o' e e' hr hr' hb=>?_,fun k o e hr=>?_,fun k cs e=>?_,fun k cs e=>?_,fun k kvs e=>?_⟩,fun K hK=>⟨hle,fun l hl p' hp'=>?_⟩,zo4 hle f hpl⟩
 ·obtain ⟨o1,e1,rfl⟩:=hback k o e
  obtain ⟨o2,e2,rfl⟩:=hback k' o' e'
  rw[zjs]at hr hr'
  have:=hm.inj _ _ _ _ e1 e2 hr hr' hb
  rw[←hf k,this,hf]
 ·obtain ⟨o1,e1,rfl⟩:=hback k o e
  rw[zjs]at hr
  exact hm.own _ _ e1 hr
 ·obtain ⟨o1,e1,e2⟩:=hback k _ e
  cases o1 with
  |cells cs1 r1 =>
   simp only[rnO,AO.cells.injEq]at e2
   obtain ⟨rfl,rfl⟩:=e2
   obtain ⟨xs,ty,k1,k2,k3⟩:=hm.cells _ cs1 e1
   exact ⟨xs,ty,k1,by rw[zev];exact k2,by rw[zev];exact zjz hle f hpl cs1 _ k3⟩
  |imap kvs=>simp[rnO]at e2
  |rsv=>simp[rnO]at e2
 ·obtain ⟨o1,e1,e2⟩:=hback k _ e
  cases o1 with
  |cells cs1 r1 =>
   simp only[rnO,AO.cells.injEq]at e2
   obtain ⟨rfl,rfl⟩:=e2
   rw[hm.ghost _ cs1 e1];rfl
  |imap kvs=>simp[rnO]at e2
  |rsv=>simp[rnO]at e2
 ·obtain ⟨o1,e1,e2⟩:=hback k _ e
  cases o1 with
  |imap kvs1 =>
   simp only[rnO,AO.imap.injEq]at e2
   subst e2
   exact hm.maps _ kvs e1
  |cells cs1 r1=>simp[rnO]at e2
  |rsv=>simp[rnO]at e2
 ·have hp':zal (fun l=>β (f l)) w (rnS f σ) l=some p':=hp'
  have:zal (fun l=>β (f l)) w (rnS f σ) l=zal β w σ l:=by rw[←hpl l,hK l hl]
  refine ⟨p', ?_,Nat.le_refl _,fun _=>rfl⟩
  show zal β w σ l=some p'
  rw[←this]
  exact hp'
def swF:List (Nat×Nat)→List (Nat×AV)→List (Nat×AV)
 |[],φ=>φ
 |(a,b)::r,φ=>swF r (rnF (swN a b) φ)
def swS:List (Nat×Nat)→List (Nat×AO)→List (Nat×AO)
 |[],σ=>σ
 |(a,b)::r,σ=>swS r (rnS (swN a b) σ)
def swOk (N:Nat):List (Nat×Nat)→Prop
 |[]=>True
 |(a,b)::r=>(N≤a∧N≤b)∧swOk N r
theorem zqE (N:Nat):∀ (sw:List (Nat×Nat)) {φ:AF} {σ:AS} {β:Nat→Nat},swOk N sw→St inv w0 M n φ σ β a w→∃ β',St inv w0 M n (swF sw φ) (swS sw σ) β' a w∧Ext N (ctx inv M σ β w) (ctx inv M (swS sw σ) β' w)
 |[],φ,σ,β,_,hs=>⟨β,hs,.refl _ _⟩
 |(x,y)::r,φ,σ,β,hok,hs=>by
  obtain ⟨h1,h2,h3⟩:=hs.mem.rename (zoB x y)
  have hst:St inv w0 M n (rnF (swN x y) φ) (rnS (swN x y) σ) (fun l=>β (swN x y l)) a w:=⟨⟨fun i=>by rw[znj];exact h3 _ _ (hs.slots i),h1⟩,hs.size,hs.defers⟩
  obtain ⟨β',k1,k2⟩:=zqE N r hok.2 hst
  exact ⟨β',k1,(h2 N fun l hl=>by have:=hok.1;unfold swN;rw[if_neg (by omega),if_neg (by omega)]).trans k2⟩
def ends (N:Nat) (F:List (Nat×AV)) (S:List (Nat×AO)) (sw:List (Nat×Nat)) (φ:List (Nat×AV)) (σ:List (Nat×AO)):Prop:=swOk N sw∧zgT F (swF sw φ)∧zfe S (swS sw σ)
def lendR {ι:Type} (N:Nat) (F:ι→List (Nat×AV)) (S:ι→List (Nat×AO)) (Inv:ι→Prop) (μ:ι→Nat) (s:ι):List (Nat×AV)→List (Nat×AO)→Prop:=fun φ' σ'=>∃ s' sw,(μ s'<μ s∧Inv s')∧ends N (F s') (S s') sw φ' σ'
theorem zpz {ι:Type} (N:Nat) (F:ι→List (Nat×AV)) (S:ι→List (Nat×AO)) (Inv:ι→Prop) (μ:ι→Nat) (s:ι) (φ':List (Nat×AV)) (σ':List (Nat×AO)):lendR N F S Inv μ s φ' σ'=∃ s' sw,(μ s'<μ s∧Inv s')∧ends N (F s') (S s') sw φ' σ':=rfl
attribute [go_sem] zpz
theorem zqF {σ σ':AS} (h:zfe σ σ'):SLe σ σ':=fun l o e _=>zer h l o e
theorem zqG {j:Nat} {F:AFn} (hF:Has P inv j F) {args:List AV} {r0:AV} {σ0:AS} (hl:args.length≤F.ntmps)
  (h:∀ (w0:World) (M:Nat→Prop) (Q:Exit→AF→AS→Prop),(∀ b,M b→b<w0.heap.size)→(∀ φ σ r,zdW φ σ F.res=some r→(r=r0∧zfe σ0 σ)∨(∃ sz,r=.s0 sz∧r0=.sm 0 0 0 0 sz∧σ0=[(0,.cells [] false)])→Q .ret φ σ)→(∀ φ σ,Q .ret φ σ→Q .normal φ σ)→AWp P inv w0 M 0 F.ntmps F.body Q (zmu 0 args) []):PO P inv j args r0 σ0:=by
 intro w0 M hM g hg β w vs hm ha
 refine (AC.body hF hl (R:=fun r σ=>(r=r0∧zfe σ0 σ)∨(∃ sz,r=.s0 sz∧r0=.sm 0 0 0 0 sz∧σ0=[(0,.cells [] false)])) (h w0 M _ hM (fun φ σ r h1 h2=>⟨r,h1,h2⟩) fun _ _ h=>h) g hg β w vs hm ha).mono ?_
 rintro e w' ⟨v,r,σ',β',rfl,hR,hm',hx,hr⟩
 rcases hR with ⟨rfl,hs⟩|⟨sz,rfl,rfl,rfl⟩
 ·have hd:=fun N=>hm'.drop (zer hs) N
  exact ⟨v,r,σ0,β',rfl,⟨rfl,rfl⟩,(hd 0).1,hx.trans (hd 0).2,(hd r.bound).2.rel (zaG _ (Nat.le_refl _)) hr⟩
 ·have hd:=fun N=>hm'.drop (σ':=[]) (fun l o e=>by simp[zaB]at e) N
  obtain ⟨g1,g2⟩:=(hd 0).1.empty (l:=0) (Nat.le_refl _)
  have hr0:=(hd 0).2.rel (zaG (AV.s0 sz) (Nat.le_refl _)) hr
  exact ⟨v,_,[(0,.cells [] false)],β',rfl,⟨rfl,rfl⟩,g1,hx.trans ((hd 0).2.trans (g2 0 (Nat.le_refl _))),zhw hr0⟩
end
mutual
theorem plain_sh (b:Nat):∀ x:AV,x.plain=true→shV b x=x
 |.agg cs,h=>by simp only[AV.plain]at h;simp only[shV,zhJ b cs h]
 |.i _ _,_=>rfl|.b _,_=>rfl|.v _,_=>rfl|.sl _ _,_=>rfl|.ip _ _ _ _,_=>rfl
 |.tup _,h=>by simp[AV.plain]at h
 |.u,h=>by simp[AV.plain]at h
 |.s0 _,h=>by simp[AV.plain]at h
 |.ptr _ _ _,h=>by simp[AV.plain]at h
 |.sm _ _ _ _ _,h=>by simp[AV.plain]at h
 |.fn _ _,h=>by simp[AV.plain]at h
 |.mp _,h=>by simp[AV.plain]at h
 |.top,h=>by simp[AV.plain]at h
theorem zhJ (b:Nat):∀ xs:List AV,zay xs=true→shL b xs=xs
 |[],_=>rfl
 |x::xs,h=>by
  simp only[zay,Bool.and_eq_true]at h
  simp only[shL,plain_sh b x h.1,zhJ b xs h.2]
end
mutual
theorem plain_rn (f:Nat→Nat):∀ x:AV,x.plain=true→rnV f x=x
 |.agg cs,h=>by simp only[AV.plain]at h;simp only[rnV,zhK f cs h]
 |.i _ _,_=>rfl|.b _,_=>rfl|.v _,_=>rfl|.sl _ _,_=>rfl|.ip _ _ _ _,_=>rfl
 |.tup _,h=>by simp[AV.plain]at h
 |.u,h=>by simp[AV.plain]at h
 |.s0 _,h=>by simp[AV.plain]at h
 |.ptr _ _ _,h=>by simp[AV.plain]at h
 |.sm _ _ _ _ _,h=>by simp[AV.plain]at h
 |.fn _ _,h=>by simp[AV.plain]at h
 |.mp _,h=>by simp[AV.plain]at h
 |.top,h=>by simp[AV.plain]at h
theorem zhK (f:Nat→Nat):∀ xs:List AV,zay xs=true→rnL f xs=xs
 |[],_=>rfl
 |x::xs,h=>by
  simp only[zay,Bool.and_eq_true]at h
  simp only[rnL,plain_rn f x h.1,zhK f xs h.2]
end
section cells
variable {α:Type} {c:α→List AV} {sz:Nat} [h:Cells c sz]
include h
theorem flat_sh (b:Nat) (l:List α):shL b (l.map c).flatten=(l.map c).flatten:=zhJ b _ (zcv l)
theorem flat_rn (f:Nat→Nat) (l:List α):rnL f (l.map c).flatten=(l.map c).flatten:=zhK f _ (zcv l)
theorem zfH {l:List α} {k i:Nat} [Inhabited α] (hk:k<l.length) (hi:i<sz):(l.map c).flatten[k*sz+i]?=(c (nth l k))[i]?:=by
 have e:(l.map c).flatten[k*sz+i]?=((l.map c).flatten.drop (k*sz))[i]?:=by rw[List.getElem?_drop]
 rw[e,zh3 l k (by omega),zae hk,List.map_cons,List.flatten_cons,List.getElem?_append_left (by rw[h.len];exact hi)]
theorem zeG {l:List α} {k:Nat} [Inhabited α] (hk:k<l.length) (hs:0<sz):zcm (l.map c).flatten (k*sz) (some sz)=some (.agg (c (nth l k))):=by
 have hle:k*sz+sz≤(l.map c).flatten.length:=by
  rw[znh]
  have:(k+1)*sz≤l.length*sz:=Nat.mul_le_mul_right _ hk
  rw[Nat.add_mul,Nat.one_mul]at this
  exact this
 show (if 0<sz∧k*sz+sz≤(l.map c).flatten.length then some (AV.agg (seg (l.map c).flatten (k*sz) sz)) else none)=_
 rw[if_pos ⟨hs,hle⟩,flat_seg l k hk,zaE hk]
theorem zbt {l:List α} {k i:Nat} [Inhabited α] (hk:k<l.length) (hi:i<sz) (x:AV) (a:α) (ha:c a=(c (nth l k)).set i x):(l.map c).flatten.set (k*sz+i) x=((l.set k a).map c).flatten:=by
 induction l generalizing k with
 |nil=>simp at hk
 |cons y l ih =>
  cases k with
  |zero =>
   simp only[Nat.zero_mul,Nat.zero_add,List.map_cons,List.flatten_cons,List.set_cons_zero]
   rw[List.set_append_left _ _ (by rw[h.len];exact hi),ha]
   rfl
  |succ k =>
   simp only[List.map_cons,List.flatten_cons,List.set_cons_succ]
   rw[List.set_append_right _ _ (by rw[h.len,Nat.add_mul];omega),h.len,show (k+1)*sz+i-sz=k*sz+i by rw[Nat.add_mul];omega]
   rw[ih (by simpa using hk) (by simpa [nth] using ha)]
end cells
attribute [go_sem] flat_sh flat_rn Nat.zero_le
attribute [go_sem high] zeG
attribute [go_sem] shV shL shO shS zke rnV rnL rnO rnS rnF swN swF swS swOk ziG
theorem PO.fn {P:Program} {inv:Nat→Option Nat} (hH:HasAll P inv) {j:Nat} (F:AFn) {args:List AV} {r0:AV} {σ0:AS}
  (h:∀ (w0:World) (M:Nat→Prop) (Q:Exit→AF→AS→Prop),(∀ b,M b→b<w0.heap.size)→zbZ P inv→(∀ φ σ r,zdW φ σ F.res=some r→(r=r0∧zfe σ0 σ)∨(∃ sz,r=.s0 sz∧r0=.sm 0 0 0 0 sz∧σ0=[(0,.cells [] false)])→Q .ret φ σ)→(∀ φ σ,Q .ret φ σ→Q .normal φ σ)→AWp P inv w0 M 0 F.ntmps F.body Q (zmu 0 args) []) (hF:code j=some F:=by rfl) (hl:args.length≤F.ntmps:=by exact Nat.le_of_ble_eq_true rfl):PO P inv j args r0 σ0 :=
 zqG (hH.has _ _ hF) hl fun w0 M Q hM hQ hR=>h w0 M Q hM hH.callable hQ hR
end Go.Eng
namespace Go.Eng
open Go.RowKit
mutual
/-- The row l,whose cells are cs,as a slice that nobody writes. -/
def frV (l:Nat) (cs:List AV):AV→AV
 |.agg ds=>.agg (frL l cs ds)
 |.tup ds=>.tup (frL l cs ds)
 |.fn j ds=>.fn j (frL l cs ds)
 |.sm l' ver off n sz=>if l'=l∧ver=cs.length∧off=0 then .sl sz (zbS sz n cs) else .sm l' ver off n sz
 |.ptr l' ver off=>.ptr l' ver off
 |.mp l'=>.mp l'
 |.i k n=>.i k n
 |.b t=>.b t
 |.v x=>.v x
 |.u=>.u
 |.s0 sz=>.s0 sz
 |.sl sz es=>.sl sz es
 |.ip sz es i k=>.ip sz es i k
 |.top=>.top
def frL (l:Nat) (cs:List AV):List AV→List AV
 |[]=>[]
 |x::xs=>frV l cs x::frL l cs xs
end
def frO (l:Nat) (cs:List AV):AO→AO
 |.cells ds r=>.cells (frL l cs ds) r
 |.imap kvs=>.imap kvs
 |.rsv=>.rsv
def frS (l:Nat) (cs:List AV):List (Nat×AO)→List (Nat×AO)
 |[]=>[]
 |(k,o)::r=>(k,frO l cs o)::frS l cs r
def frF (l:Nat) (cs:List AV):List (Nat×AV)→List (Nat×AV)
 |[]=>[]
 |(i,x)::r=>(i,frV l cs x)::frF l cs r
mutual
theorem rel_fr {c c':Ctx} {l:Nat} {cs:List AV} (hle:c.Le c') (hS:∀ k p,c'.S k=some p→c.S k=some p) (hrow:∀ (n sz:Nat) (y:Value),rel c (.sm l cs.length 0 n sz) y→rel c' (.sl sz (zbS sz n cs)) y):∀ (x:AV) (y:Value),rel c x y→rel c' (frV l cs x) y
 |.agg ds,y,r=>by
  simp only[rel,frV]at r ⊢
  obtain ⟨xs,e,r⟩:=r
  exact ⟨xs,e,zmX hle hS hrow ds _ r⟩
 |.tup ds,y,r=>by
  simp only[rel,frV]at r ⊢
  obtain ⟨xs,e,r⟩:=r
  exact ⟨xs,e,zlV hle hS hrow ds _ r⟩
 |.fn j ds,y,r=>by
  simp only[rel,frV]at r ⊢
  obtain ⟨g,xs,e,hi,r⟩:=r
  exact ⟨g,xs,e,by rw[hle.inv];exact hi,zlV hle hS hrow ds _ r⟩
 |.sm l' ver off n sz,y,r=>by
  simp only[frV]
  split
  ·rename_i h
   obtain ⟨rfl,rfl,rfl⟩:=h
   exact hrow n sz y r
  ·simp only[rel]at r ⊢
   exact ⟨r.1,fun p hp=>r.2 p (hS _ _ hp)⟩
 |.ptr l' ver off,y,r=>by
  simp only[rel,frV]at r ⊢
  exact ⟨r.1,fun p hp=>r.2 p (hS _ _ hp)⟩
 |.mp l',y,r=>by
  simp only[rel,frV]at r ⊢
  exact ⟨r.1,fun p hp=>r.2 p (hS _ _ hp)⟩
 |.i k n,y,r=>by simp only[frV];exact zaS hle rfl r
 |.b t,y,r=>by simp only[frV];exact zaS hle rfl r
 |.v x,y,r=>by simp only[frV];exact zaS hle rfl r
 |.u,y,r=>by simp only[frV];exact zaS hle rfl r
 |.s0 sz,y,r=>by simp only[frV];exact zaS hle rfl r
 |.sl sz es,y,r=>by simp only[frV];exact zaS hle rfl r
 |.ip sz es i k,y,r=>by simp only[frV];exact zaS hle rfl r
 |.top,y,r=>by simp only[frV,rel]
theorem zlV {c c':Ctx} {l:Nat} {cs:List AV} (hle:c.Le c') (hS:∀ k p,c'.S k=some p→c.S k=some p) (hrow:∀ (n sz:Nat) (y:Value),rel c (.sm l cs.length 0 n sz) y→rel c' (.sl sz (zbS sz n cs)) y):∀ (xs:List AV) (ys:List Value),zbQ c xs ys→zbQ c' (frL l cs xs) ys
 |[],ys,r=>by simpa only[frL,zbQ] using r
 |x::xs,ys,r=>by
  simp only[frL,zbQ]at r ⊢
  obtain ⟨y,ys',e,r1,r2⟩:=r
  exact ⟨y,ys',e,rel_fr hle hS hrow x y r1,zlV hle hS hrow xs ys' r2⟩
theorem zmX {c c':Ctx} {l:Nat} {cs:List AV} (hle:c.Le c') (hS:∀ k p,c'.S k=some p→c.S k=some p) (hrow:∀ (n sz:Nat) (y:Value),rel c (.sm l cs.length 0 n sz) y→rel c' (.sl sz (zbS sz n cs)) y):∀ (xs:List AV) (ys:List Value),relCs c xs ys→relCs c' (frL l cs xs) ys
 |[],ys,r=>by simpa only[frL,relCs] using r
 |x::xs,ys,r=>by
  simp only[frL,relCs]at r ⊢
  obtain ⟨y,ys',e,ho,r1,r2⟩:=r
  exact ⟨y,ys',e,ho,rel_fr hle hS hrow x y r1,zmX hle hS hrow xs ys' r2⟩
end
section
variable {P:Program} {inv:Nat→Option Nat} {w0:World} {M:Nat→Prop} {n N:Nat} {φ:AF} {σ:AS}
end
section cells
variable {α:Type} {c:α→List AV} {sz:Nat} [h:Cells c sz]
include h
mutual
theorem plain_fr (l:Nat) (cs:List AV):∀ x:AV,x.plain=true→frV l cs x=x
 |.agg ds,h=>by simp only[AV.plain]at h;simp only[frV,zhL l cs ds h]
 |.i _ _,_=>by simp only[frV]
 |.b _,_=>by simp only[frV]
 |.v _,_=>by simp only[frV]
 |.sl _ _,_=>by simp only[frV]
 |.ip _ _ _ _,_=>by simp only[frV]
 |.tup _,h=>by simp[AV.plain]at h
 |.u,h=>by simp[AV.plain]at h
 |.s0 _,h=>by simp[AV.plain]at h
 |.ptr _ _ _,h=>by simp[AV.plain]at h
 |.sm _ _ _ _ _,h=>by simp[AV.plain]at h
 |.fn _ _,h=>by simp[AV.plain]at h
 |.mp _,h=>by simp[AV.plain]at h
 |.top,h=>by simp[AV.plain]at h
theorem zhL (l:Nat) (cs:List AV):∀ xs:List AV,zay xs=true→frL l cs xs=xs
 |[],_=>by simp only[frL]
 |x::xs,h=>by
  simp only[zay,Bool.and_eq_true]at h
  simp only[frL,plain_fr l cs x h.1,zhL l cs xs h.2]
end
theorem flat_fr (l':Nat) (cs:List AV) (l:List α):frL l' cs (l.map c).flatten=(l.map c).flatten:=zhL (c:=c) l' cs _ (zcv l)
end cells
attribute [go_sem] flat_fr
attribute [go_sem] frV frL frO frS frF
end Go.Eng
namespace Go.Eng
open Go.RowKit
def zh0:List (Nat×AV)→List (Nat×AV)→List (Nat×AV)
 |[],φ=>φ
 |(i,x)::r,φ=>zh0 r (zbx φ i x)
def zje:List (Nat×AO)→List (Nat×AO)→List (Nat×AO)
 |[],σ=>σ
 |(i,x)::r,σ=>zje r (za5 σ i x)
attribute [go_sem] zh0 zje
section
variable {P:Program} {inv:Nat→Option Nat} {w0:World} {M:Nat→Prop} {n N:Nat} {φ:AF} {σ:AS}
theorem zqL {ι:Type} {x:ACode} {Q:Exit→AF→AS→Prop} (ks:List Nat) (m:ι→List (Nat×AV)) (t:ι→List (Nat×AO)) (Inv:ι→Prop) (μ:ι→Nat) (s0:ι) (hi:Inv s0) (h1:zgT (zh0 (m s0) (zeP ks φ)) φ) (h2:zfe (zje (t s0) σ) σ)
  (hr:∀ s,Inv s→AWp P inv w0 M N n x (zor (lend (fun s=>zh0 (m s) (zeP ks φ)) (fun s=>zje (t s) σ) Inv μ s) Q) (zh0 (m s) (zeP ks φ)) (zje (t s) σ)):AWp P inv w0 M N n (.loop x) Q φ σ :=
 zcL (fun s=>zh0 (m s) (zeP ks φ)) (fun s=>zje (t s) σ) Inv μ s0 hi h1 h2 hr
theorem zai {ι:Type} {x:ACode} {Q:Exit→AF→AS→Prop} (ks:List Nat) (m:ι→List (Nat×AV)) (t:ι→List (Nat×AO)) (c:ι→Nat) (b:Nat) (Inv:ι→Prop) (s0:ι)
  (hr:∀ s,c s≤b∧Inv s→AWp P inv w0 M N n x (zor (lend (fun s=>zh0 (m s) (zeP ks φ)) (fun s=>zje (t s) σ) (fun s=>c s≤b∧Inv s) (fun s=>b-c s) s) Q) (zh0 (m s) (zeP ks φ)) (zje (t s) σ))
  (hi:c s0≤b∧Inv s0:=by ((try dsimp only);refine ⟨Nat.zero_le _, ?_⟩;(repeat' refine And.intro ?_ ?_)<;>first|exact wT|assumption|rfl|omega|(simp;done)|(simp;omega)|grind)) (h1:zgT (zh0 (m s0) (zeP ks φ)) φ:=by ((try dsimp only);refine wD ?_;first|with_reducible exact wT|omega|(simp;done))) (h2:zfe (zje (t s0) σ) σ:=by ((try dsimp only);refine wD ?_;first|with_reducible exact wT|omega|(simp;done))):AWp P inv w0 M N n (.loop x) Q φ σ :=
 zqL ks m t (fun s=>c s≤b∧Inv s) (fun s=>b-c s) s0 hi h1 h2 hr
theorem AWp.swap {c:ACode} {Q:Exit→AF→AS→Prop} (sw:List (Nat×Nat)) (hok:swOk N sw) (h:AWp P inv w0 M N n c Q (swF sw φ) (swS sw σ)):AWp P inv w0 M N n c Q φ σ:=by
 intro c₀ hc β a w hs
 obtain ⟨β',hst,hx⟩:=zqE N sw hok hs
 exact Code.wp_mono (fun _ _ _ ⟨φ2,σ2,β2,q2,hst2,hext2⟩=>⟨φ2,σ2,β2,q2,hst2,hx.trans hext2⟩) (h c₀ hc β' a w hst)
theorem PO.pc {j:Nat} {args:List AV} {r:AV} {σ0:AS} (h:PO P inv j args r σ0):PC P inv j args (·=zes 4 σ0 r):=by
 intro g hg M w vs hM ha
 have hm:=Mem.none (inv:=inv) (M:=M) w
 have hle:(⟨inv,w,M,fun _=>none⟩:Ctx).Le (ctx inv M [] (fun _=>0) w):=⟨rfl,Nat.le_refl _,fun _ _ _=>rfl,fun b _ h=>by
  rcases h with h|⟨l,o,e,_⟩
  ·exact h
  ·simp[zaB]at e⟩
 have hS:(ctx inv M [] (fun _=>0) w).S=fun _=>none:=by funext l;simp[ctx,zal,zaB]
 refine (h w M hM g hg (fun _=>0) w vs hm (zce (N:=0) hle _ _ (.inr hS) ha)).mono ?_
 rintro e w' ⟨v,r',σ',β',rfl,⟨rfl,rfl⟩,hm',_,hr⟩
 have hf:=zfg hm' hM (A':=M) (fun _ h=>h) 4
 exact ⟨v,_,rfl,rfl,hm'.below,zf2 hf _,zff hm' hM (fun _ h=>h) hf _ v hr⟩
theorem AC.mono {j:Nat} {args:List AV} {R R':AV→AS→Prop} (h:AC P inv w0 M N j args σ R) (hr:∀ r σ',R r σ'→R' r σ'):AC P inv w0 M N j args σ R' :=
 fun g hg β w vs hm ha=>(h g hg β w vs hm ha).mono fun _ _ ⟨v,r,σ',β',e,h1,h2⟩=>⟨v,r,σ',β',e,hr r σ' h1,h2⟩
theorem zeO (N':Nat) {j:Nat} {args:List AV} {r0:AV} {τ:AS} (h:AC P inv w0 M N' j args σ fun r σ'=>r=r0∧σ'=τ) (hN:N≤N') (hφ:zaL φ≤N') {K:AV→AS→Prop} (hk:K r0 τ):CallK P inv w0 M N φ σ j args K :=
 ⟨N',hN,hφ,h.mono fun _ _ ⟨e1,e2⟩=>e1▸e2▸hk⟩
theorem za2 {j:Nat} {F:AFn} (hF:Has P inv j F) {args:List AV} {r0:AV} {σ0 τ:AS} (hb:r0.bare=true) (hl:args.length≤F.ntmps)
  (h:∀ Q:Exit→AF→AS→Prop,(∀ φ σ r,zdW φ σ F.res=some r→(∃ sw,(r=r0∧swOk N sw)∧zfe τ (swS sw σ))→Q .ret φ σ)→(∀ φ σ,Q .ret φ σ→Q .normal φ σ)→AWp P inv w0 M N F.ntmps F.body Q (zmu 0 args) σ0) :
  AC P inv w0 M N j args σ0 fun r σ'=>r=r0∧σ'=τ:=by
 intro g hg β w vs hm ha
 refine (AC.body hF hl (R:=fun r σ=>∃ sw,(r=r0∧swOk N sw)∧zfe τ (swS sw σ)) (h _ (fun φ σ r h1 h2=>⟨r,h1,h2⟩) fun _ _ h=>h) g hg β w vs hm ha).mono ?_
 rintro e w' ⟨v,r,σ',β',rfl,⟨sw,⟨rfl,hok⟩,hs⟩,hm',hx,hr⟩
 have key:∀ (sw:List (Nat×Nat)) {σ:AS} {β:Nat→Nat},swOk N sw→Mem inv w0 M σ β w'→rel (ctx inv M σ β w') r v→∃ β',Mem inv w0 M (swS sw σ) β' w'∧Ext N (ctx inv M σ β w') (ctx inv M (swS sw σ) β' w')∧rel (ctx inv M (swS sw σ) β' w') r v:=by
  intro sw
  induction sw with
  |nil=>intro σ β _ hm hr;exact ⟨β,hm,.refl _ _,hr⟩
  |cons p sw ih =>
   obtain ⟨x,y⟩:=p
   intro σ β hok hm hr
   obtain ⟨h1,h2,h3⟩:=hm.rename (zoB x y)
   have hx:=h2 N fun l hl=>by have:=hok.1;unfold swN;rw[if_neg (by omega),if_neg (by omega)]
   obtain ⟨β',k1,k2,k3⟩:=ih hok.2 h1 ((h2 0 fun l hl=>absurd hl (Nat.not_lt_zero _)).rel (zaG r (by rw[zgo r hb];exact Nat.le_refl _)) hr)
   exact ⟨β',k1,hx.trans k2,k3⟩
 obtain ⟨β'',k1,k2,k3⟩:=key sw hok hm' hr
 have hd:=fun N=>k1.drop (zer hs) N
 exact ⟨v,r,τ,β'',rfl,⟨rfl,rfl⟩,(hd 0).1,hx.trans (k2.trans (hd N).2),(hd 0).2.rel (zaG r (by rw[zgo r hb];exact Nat.le_refl _)) k3⟩
theorem PC.pure1 (hM:∀ b,M b→b<w0.heap.size) {j:Nat} {args:List AV} {r:AV} (h:PC P inv j args (·=r)) {K:AV→Prop} (hk:K r):PureK P inv w0 M σ j args K :=
 ⟨r,fun _ _ _ _=>h.callK hM fun _ e=>⟨e,rfl⟩,hk⟩
end
end Go.Eng
namespace Go.Eng
open Go.RowKit
section
variable {P:Program} {inv:Nat→Option Nat} {w0:World} {M:Nat→Prop} {n N:Nat} {φ:AF} {σ:AS}
theorem Mem.truncW {β:Nat→Nat} {w:World} {l l' k:Nat} {cs:List AV} (h:Mem inv w0 M σ β w) (hg:zaB σ l=some (.cells cs true)) (hl:zbb σ≤l') (hk:k≤cs.length) {N1:Nat} (hN:N1≤l') :
  Mem inv w0 M (za5 (ziG σ l) l' (.cells (cs.take k) true)) (upd β l' (β l)) w∧Ext N1 (ctx inv M σ β w) (ctx inv M (za5 (ziG σ l) l' (.cells (cs.take k) true)) (upd β l' (β l)) w) ∧
   zal (upd β l' (β l)) w (za5 (ziG σ l) l' (.cells (cs.take k) true)) l'=some ⟨β l,k,zaT w (β l),true⟩:=by
 have hno:∀ l2 o,zaB σ l2=some o→l2≠l':=fun l2 o e e'=>by have:=(zaC σ l2 o e).1;omega
 have hget:∀ l2 o,l2≠l'→zaB (za5 (ziG σ l) l' (.cells (cs.take k) true)) l2=some o→l2≠l∧zaB σ l2=some o:=by
  intro l2 o hne e
  rw[zaj,if_neg hne,zfo]at e
  split at e
  ·cases e
  ·exact ⟨by assumption,e⟩
 have hself:zaB (za5 (ziG σ l) l' (.cells (cs.take k) true)) l'=some (.cells (cs.take k) true):=by rw[zaj,if_pos rfl]
 have hpl:zal (upd β l' (β l)) w (za5 (ziG σ l) l' (.cells (cs.take k) true)) l'=some ⟨β l,k,zaT w (β l),true⟩:=by
  unfold zal
  rw[hself]
  simp[za6,Nat.min_eq_left hk]
 have hx:∀ N1,N1≤l'→Ext N1 (ctx inv M σ β w) (ctx inv M (za5 (ziG σ l) l' (.cells (cs.take k) true)) (upd β l' (β l)) w):=by
  intro N1 hN
  refine ⟨⟨rfl,Nat.le_refl _,fun _ _ _=>rfl,fun b _ hA=>?_⟩,fun l2 hl2 p' hp'=>?_⟩
  ·rcases hA with hm|⟨l2,o,e,hr,hb⟩
   ·exact .inl hm
   ·by_cases hne:l2=l'
    ·subst hne
     rw[za6]at hb
     exact .inr ⟨l,_,hg,rfl,hb⟩
    ·rw[zaw β _ hne]at hb
     exact .inr ⟨l2,o,(hget l2 o hne e).2,hr,hb⟩
  ·have hne:l2≠l':=by omega
   refine ⟨p', ?_,Nat.le_refl _,fun _=>rfl⟩
   have hp2:zal (upd β l' (β l)) w (za5 (ziG σ l) l' (.cells (cs.take k) true)) l2=some p':=hp'
   show zal β w σ l2=some p'
   unfold zal at hp2 ⊢
   cases e:zaB (za5 (ziG σ l) l' (.cells (cs.take k) true)) l2 with
   |none=>rw[e]at hp2;cases hp2
   |some o=>rw[e]at hp2;rw[(hget l2 o hne e).2];simpa only[zaw β _ hne] using hp2
 refine ⟨⟨h.below,fun l1 l2 o1 o2 e1 e2 r1 r2 he=>?_,fun l1 o1 e1 r1=>?_,fun l1 cs1 e1=>?_,fun l1 cs1 e1=>?_,fun l1 kvs e1=>?_⟩,hx N1 hN,hpl⟩
 ·by_cases h1:l1=l'<;>by_cases h2:l2=l'
  ·rw[h1,h2]
  ·rw[h1,za6,zaw β _ h2]at he
   obtain ⟨q1,q2⟩:=hget l2 o2 h2 e2
   exact absurd (h.inj l l2 _ o2 hg q2 rfl r2 he).symm q1
  ·rw[h2,za6,zaw β _ h1]at he
   obtain ⟨q1,q2⟩:=hget l1 o1 h1 e1
   exact absurd (h.inj l1 l o1 _ q2 hg r1 rfl he) q1
  ·rw[zaw β _ h1,zaw β _ h2]at he
   exact h.inj l1 l2 o1 o2 (hget l1 o1 h1 e1).2 (hget l2 o2 h2 e2).2 r1 r2 he
 ·by_cases h1:l1=l'
  ·rw[h1,za6];exact h.own l _ hg rfl
  ·rw[zaw β _ h1];exact h.own l1 o1 (hget l1 o1 h1 e1).2 r1
 ·by_cases h1:l1=l'
  ·rw[h1,hself]at e1
   simp only[Option.some.injEq,AO.cells.injEq,and_true]at e1
   subst e1
   rw[h1,za6]
   obtain ⟨xs,ty,q1,q2,q3⟩:=h.cells l cs hg
   refine ⟨xs,ty,q1,by rw[List.length_take];omega, ?_⟩
   have hb:zac (cs.take k)≤l':=zen fun x hx=>Nat.le_trans (zdz (zaC σ l _ hg).2 x (List.mem_of_mem_take hx)) hl
   refine (hx l' (Nat.le_refl _)).relCs (zas _ hb) ?_
   have:=zcq k q3
   rw[List.take_take,Nat.min_eq_left hk]at this
   rw[List.length_take,Nat.min_eq_left hk]
   exact this
  ·rw[zaw β _ h1]
   obtain ⟨q1,q2⟩:=hget l1 _ h1 e1
   obtain ⟨xs,ty,q3,q4,q5⟩:=h.cells l1 cs1 q2
   exact ⟨xs,ty,q3,q4,(hx l' (Nat.le_refl _)).relCs (zas _ (Nat.le_trans (zaC σ l1 _ q2).2 hl)) q5⟩
 ·by_cases h1:l1=l'
  ·rw[h1,hself]at e1;simp at e1
  ·exact h.ghost l1 cs1 (hget l1 _ h1 e1).2
 ·by_cases h1:l1=l'
  ·rw[h1,hself]at e1;simp at e1
  ·rw[zaw β _ h1];exact h.maps l1 kvs (hget l1 _ h1 e1).2
def cutW (N:Nat) (r:AV) (σ:List (Nat×AO)):AV×List (Nat×AO) :=
 match r with
 |.sm l ver off n sz=>match zaB σ l with
  |some (.cells cs true)=>if Nat.blt l N=false∧off=0∧n*sz<ver∧cs.length=ver then (.sm (mx N (zbb σ)) (n*sz) 0 n sz,za5 (ziG σ l) (mx N (zbb σ)) (.cells (cs.take (n*sz)) true)) else (r,σ)
  |_=>(r,σ)
 |_=>(r,σ)
theorem AC.truncW {j:Nat} {args:List AV} {R R':AV→AS→Prop} (h:AC P inv w0 M N j args σ R) (hr:∀ r σ',R r σ'→R' (cutW N r σ').1 (cutW N r σ').2):AC P inv w0 M N j args σ R':=by
 intro g hg β w vs hm hv
 refine (h g hg β w vs hm hv).mono ?_
 rintro e w' ⟨v,r,σ',β',k1,k2,k3,k4,k5⟩
 have h1:=hr r σ' k2
 unfold cutW at h1
 split at h1
 ·rename_i l ver off n sz
  split at h1
  ·rename_i cs hgl
   split at h1
   ·rename_i hc
    obtain ⟨_,rfl,c1,c2⟩:=hc
    have ht:=k3.truncW (l:=l) (l':=mx N (zbb σ')) (k:=n*sz) hgl (zav _ _) (by omega) (N1:=N) (zaY _ _)
    refine ⟨v,_,_,_,k1,h1,ht.1,k4.trans ht.2.1, ?_⟩
    have hlive:zbY σ' l ver:=by unfold zbY;rw[hgl];exact c2
    obtain ⟨p,ad,cap,hp,hv',hb,rfl,hcap,hreal⟩:=zdE hlive k5
    have hpe:p=⟨β' l,cs.length,zaT w' (β' l),true⟩:=by unfold zal at hp;rw[hgl]at hp;cases hp;rfl
    subst hpe
    simp only[if_true]at hreal
    simp only[rel]
    refine ⟨rfl,fun p' hp'=>?_⟩
    have:p'=⟨β' l,n*sz,zaT w' (β' l),true⟩:=by have:=(show zal _ _ _ _=some p' from hp').symm.trans ht.2.2;simpa using this
    subst this
    exact ⟨Nat.le_refl _,fun _=>⟨by omega,ad,cap,rfl,hcap,by simpa using hreal⟩⟩
   ·exact ⟨v,_,σ',β',k1,h1,k3,k4,k5⟩
  ·exact ⟨v,_,σ',β',k1,h1,k3,k4,k5⟩
 ·exact ⟨v,_,σ',β',k1,h1,k3,k4,k5⟩
theorem PO.trunc {j:Nat} {args:List AV} {ver k sz:Nat} {cs:List AV} (h:PO P inv j args (.sm 0 ver 0 k sz) [(0,.cells cs true)]) (hb:zac cs=0) (hl:cs.length=ver) (hlt:k*sz<ver) :
  PO P inv j args (.sm 1 (k*sz) 0 k sz) [(1,.cells (cs.take (k*sz)) true)]:=by
 intro w0 M hM
 refine (AC.truncW (R':=fun r σ=>r=.sm 1 (k*sz) 0 k sz∧σ=[(1,.cells (cs.take (k*sz)) true)]) (h w0 M hM) ?_)
 rintro r σ' ⟨rfl,rfl⟩
 have hs:mx 0 (zbb [(0,AO.cells cs true)])=1:=by simp[zbb,AO.bound,hb,mx]
 simp only[cutW,zaB,if_true]
 rw[if_pos ⟨by trivial,by trivial,hlt,hl⟩,hs]
 exact ⟨rfl,by simp[ziG,za5]⟩
theorem Mem.recell {β:Nat→Nat} {w:World} {k:Nat} {cs cs':List AV} {r:Bool} (hm:Mem inv w0 M σ β w) (hg:zaB σ k=some (.cells cs r)) (hlen:cs'.length=cs.length) (hrel:r=true→∀ ys,relCs (ctx inv M σ β w) cs ys→relCs (ctx inv M σ β w) cs' ys) :
  Mem inv w0 M (za5 σ k (.cells cs' r)) β w∧ctx inv M (za5 σ k (.cells cs' r)) β w=ctx inv M σ β w:=by
 have hpl:zal β w (za5 σ k (.cells cs' r))=zal β w σ:=by
  funext l
  unfold zal
  rw[zaj]
  by_cases h:l=k
  ·subst h;rw[if_pos rfl,hg];cases r<;>simp only[hlen]
  ·rw[if_neg h]
 have hav:avoid M (za5 σ k (.cells cs' r)) β=avoid M σ β:=by
  funext b
  apply propext
  constructor
  ·rintro (h|⟨l,o,e,hr,hb⟩)
   ·exact .inl h
   ·rw[zaj]at e
    split at e
    ·rename_i h;subst h
     simp only[Option.some.injEq]at e;subst e
     exact .inr ⟨l,_,hg,by cases r<;>(first|exact hr|(simp[AO.real]at hr;done)|simp[AO.real]),hb⟩
    ·exact .inr ⟨l,o,e,hr,hb⟩
  ·rintro (h|⟨l,o,e,hr,hb⟩)
   ·exact .inl h
   ·by_cases h:l=k
    ·subst h
     rw[hg]at e
     simp only[Option.some.injEq]at e;subst e
     exact .inr ⟨l,.cells cs' r,by rw[zaj,if_pos rfl],by cases r<;>(first|exact hr|(simp[AO.real]at hr;done)|simp[AO.real]),hb⟩
    ·exact .inr ⟨l,o,by rw[zaj,if_neg h];exact e,hr,hb⟩
 have hctx:ctx inv M (za5 σ k (.cells cs' r)) β w=ctx inv M σ β w:=by unfold ctx;rw[hpl,hav]
 have hback:∀ l o,zaB (za5 σ k (.cells cs' r)) l=some o→o.real=true→∃ o',zaB σ l=some o'∧o'.real=true:=by
  intro l o e hr
  rw[zaj]at e
  split at e
  ·rename_i h;subst h
   simp only[Option.some.injEq]at e;subst e
   exact ⟨_,hg,by cases r<;>(first|exact hr|(simp[AO.real]at hr;done)|simp[AO.real])⟩
  ·exact ⟨o,e,hr⟩
 refine ⟨⟨hm.below,fun l l' o o' e e' hr hr' hb=>?_,fun l o e hr=>?_,fun l cs1 e=>?_,fun l cs1 e=>?_,fun l kvs e=>?_⟩,hctx⟩
 ·obtain ⟨o1,e1,r1⟩:=hback l o e hr
  obtain ⟨o2,e2,r2⟩:=hback l' o' e' hr'
  exact hm.inj l l' o1 o2 e1 e2 r1 r2 hb
 ·obtain ⟨o1,e1,r1⟩:=hback l o e hr
  exact hm.own l o1 e1 r1
 ·rw[hctx]
  rw[zaj]at e
  split at e
  ·rename_i h;subst h
   simp only[Option.some.injEq,AO.cells.injEq]at e
   obtain ⟨rfl,rfl⟩:=e
   obtain ⟨xs,ty,h1,h2,h3⟩:=hm.cells _ cs hg
   exact ⟨xs,ty,h1,by omega,by rw[hlen];exact hrel rfl _ h3⟩
  ·exact hm.cells l cs1 e
 ·rw[zaj]at e
  split at e
  ·rename_i h;subst h
   simp only[Option.some.injEq,AO.cells.injEq]at e
   obtain ⟨rfl,rfl⟩:=e
   have:=hm.ghost _ cs hg
   subst this
   exact List.length_eq_zero_iff.1 hlen
  ·exact hm.ghost l cs1 e
 ·rw[zaj]at e
  split at e
  ·cases e
  ·exact hm.maps l kvs e
theorem zhC {c:Ctx} {x0 x:AV} (hx:∀ y,rel c x0 y→rel c x y):∀ {cs:List AV} {ys:List Value} {i:Nat},cs[i]?=some x0→relCs c cs ys→relCs c (cs.set i x) ys
 |[],_,_,h,_=>by simp at h
 |z::cs,ys,0,h,r=>by
  simp only[List.getElem?_cons_zero,Option.some.injEq]at h
  subst h
  simp only[relCs,List.set_cons_zero]at r ⊢
  obtain ⟨y,ys',e,ho,r1,r2⟩:=r
  exact ⟨y,ys',e,ho,hx y r1,r2⟩
 |z::cs,ys,i+1,h,r=>by
  simp only[List.getElem?_cons_succ]at h
  simp only[relCs,List.set_cons_succ]at r ⊢
  obtain ⟨y,ys',e,ho,r1,r2⟩:=r
  exact ⟨y,ys',e,ho,r1,zhC hx h r2⟩
theorem zgr {c:ACode} {Q:Exit→AF→AS→Prop} (k i l sz:Nat) {cs:List AV} {r:Bool} (hk:zaB σ k=some (.cells cs r)) (hi:cs[i]?=some (.s0 sz)) (h1:N≤l) (h2:zaL φ≤l) (h3:zbb σ≤l)
  (h:AWp P inv w0 M N n c Q φ (za5 (za5 σ l (.cells [] false)) k (.cells (cs.set i (.sm l 0 0 0 sz)) r))):AWp P inv w0 M N n c Q φ σ:=by
 intro c₀ hc β a w hs
 obtain ⟨hm,hx⟩:=hs.mem.empty h3
 have hkl:k≠l:=fun e=>by have:=(zaC σ k _ hk).1;omega
 have hg:zaB (za5 σ l (.cells [] false)) k=some (.cells cs r):=by rw[zaj,if_neg hkl];exact hk
 obtain ⟨hm2,hctx⟩:=hm.recell (cs':=cs.set i (.sm l 0 0 0 sz)) hg (by simp) (fun _ ys hr=>zhC (x0:=.s0 sz) (fun y hy=>by
  have hy':rel (ctx inv M σ β w) (.s0 sz) y:=by simpa only[rel] using hy
  exact zhw hy') hi hr)
 refine Code.wp_mono ?_ (h c₀ hc β a w ⟨⟨fun j=>?_,hm2⟩,hs.size,hs.defers⟩)
 ·rintro e a' w' ⟨φ2,σ2,β2,q2,hst2,hext2⟩
  rw[hctx]at hext2
  exact ⟨φ2,σ2,β2,q2,hst2,(hx N h1).trans hext2⟩
 ·rw[hctx]
  exact (hx l (Nat.le_refl _)).rel (zaG _ (Nat.le_trans (zbI φ j) h2)) (hs.slots j)
theorem zaq {j:Nat} {F:AFn} (hF:Has P inv j F) {args:List AV} {R:AV→AS→Prop} (hl:args.length≤F.ntmps)
  (h:∀ Q:Exit→AF→AS→Prop,(∀ φ σ r,zdW φ σ F.res=some r→R r σ→Q .ret φ σ)→(∀ φ σ,Q .ret φ σ→Q .normal φ σ)→AWp P inv w0 M N F.ntmps F.body Q (zmu 0 args) σ):AC P inv w0 M N j args σ R :=
 AC.body hF hl (h _ (fun _ _ r h1 h2=>⟨r,h1,h2⟩) fun _ _ h=>h)
def midK (A:Prop) (φ1:List (Nat×AV)) (σ1:List (Nat×AO)):List (Nat×AV)→List (Nat×AO)→Prop:=fun φ σ=>A∧(zgT φ1 φ∧zfe σ1 σ)
theorem midK_app (A:Prop) (φ1:List (Nat×AV)) (σ1:List (Nat×AO)) (φ:List (Nat×AV)) (σ:List (Nat×AO)):midK A φ1 σ1 φ σ=(A∧(zgT φ1 φ∧zfe σ1 σ)):=rfl
attribute [go_sem] midK_app
theorem AWp.mid (ks:List Nat) (A:Prop) {x y:ACode} {Q:Exit→AF→AS→Prop} (h1:AWp P inv w0 M N n x (zor (midK A (zeP ks φ) σ) Q) φ σ) (h2:A→AWp P inv w0 M N n y Q (zeP ks φ) σ):AWp P inv w0 M N n (.seq x y) Q φ σ :=
 AWp.seq fun K hK=>by
  refine AWp.mono ?_ h1
  intro e φ' σ' q
  cases e with
  |normal=>exact hK _ _ ((h2 q.1).sub q.2.1 q.2.2)
  |exit id=>exact q
  |goto l=>exact q
  |ret=>exact q
  |panic ch=>exact q
  |outgrown=>exact q
end
end Go.Eng
namespace Go.Lev
open Go.Eng
set_option maxRecDepth 10000
set_option maxHeartbeats 4000000
variable {P:Program} {inv:Nat→Option Nat}
structure Track where
 id:Int
 is:Int
 deriving DecidableEq,Inhabited
def Track.c (t:Track):List AV:=[.n t.id,.i .u8 t.is]
instance:Cells Track.c 2:=⟨fun _=>rfl,fun _=>rfl⟩
theorem zgL (a b:Track):a=b↔a.id=b.id∧a.is=b.is:=by cases a;cases b;simp
structure Switch where
 id:Int
 lie:Int
 call:Int
 deriving DecidableEq,Inhabited
def Switch.c (t:Switch):List AV:=[.n t.id,.n t.lie,.n t.call]
instance:Cells Switch.c 3:=⟨fun _=>rfl,fun _=>rfl⟩
theorem zfU (a b:Switch):a=b↔a.id=b.id∧a.lie=b.lie∧a.call=b.call:=by cases a;cases b;simp
structure Lock where
 id:Int
 phase:Int
 gone:Int
 left:Int
 deriving DecidableEq,Inhabited
def Lock.c (t:Lock):List AV:=[.n t.id,.i .u8 t.phase,.n t.gone,.n t.left]
instance:Cells Lock.c 4:=⟨fun _=>rfl,fun _=>rfl⟩
theorem ze9 (a b:Lock):a=b↔a.id=b.id∧a.phase=b.phase∧a.gone=b.gone∧a.left=b.left:=by cases a;cases b;simp
attribute [go_sem] Track.c Switch.c Lock.c
structure State where
 tracks:List Track
 switches:List Switch
 locks:List Lock
 deriving DecidableEq,Inhabited
def State.c (s:State):List AV:=[.sl 2 (s.tracks.map Track.c),.sl 3 (s.switches.map Switch.c),.sl 4 (s.locks.map Lock.c)]
instance:Cells State.c 3:=⟨fun _=>rfl,fun _=>rfl⟩
theorem zcK (a b:State):a=b↔a.tracks=b.tracks∧a.switches=b.switches∧a.locks=b.locks:=by cases a;cases b;simp
attribute [go_sem] State.c
def zaP {α β:Type} (p:α→β→Bool):List α→List β→Bool
 |[],[]=>true
 |x::xs,y::ys=>p x y&&zaP p xs ys
 |_,_=>false
theorem zb3 {α β:Type} {p:α→β→Bool}:∀ {a:List α} {b:List β},zaP p a b=true→a.length=b.length
 |[],[],_=>rfl
 |x::xs,y::ys,h=>by simp only[zaP,Bool.and_eq_true]at h;simp[zb3 h.2]
 |[],_::_,h=>by simp[zaP]at h
 |_::_,[],h=>by simp[zaP]at h
def zjV (s:State):Bool:=decide (200<(s.tracks.length:Int))||decide (200<(s.switches.length:Int))||decide (200<(s.locks.length:Int))
theorem zkq (hH:HasAll P inv) (s:State):PC P inv 8 [.agg s.c] (·=.b (zjV s)):=by
 refine PC.fn hH cd8 fun w0 M Q hM hE hQ hR=>?_;dsimp only[cd8,qm,ql,qf,qi,qb,qc,qp,qv,qN,qT,qF,qt]at hQ ⊢
 (repeat' first|refine zaa [0,1,2] fun K hK=>?_|(refine hK.go ?_;clear hK K)|with_reducible exact wT|refine wA ?_|(refine wB (fun h=>?_) (fun h=>?_)<;>first|exact wN h|subst (h:(_:Bool)=_)|skip)|(refine wQ ?_;clear hQ hR hE hM)|fail)
 all_goals (first|rfl|(grind[zjV])|(simp[zjV, *];done)|(simp_all [zjV];done)|(simp_all [zjV]<;>first|omega|((repeat' split)<;>first|rfl|(exfalso;omega))))
theorem zj8 (hH:HasAll P inv) (l:List Track) (h:l.length≤1000000):PO P inv 31 [.sl 2 (l.map Track.c)] (.sm 0 (l.length*2) 0 l.length 2) [(0,.cells (l.map Track.c).flatten (decide (0<l.length)))]:=by
 refine PO.fn hH cd31 fun w0 M Q hM hE hQ hR=>?_;dsimp only[cd31,qm,ql,qf,qi,qb,qc,qp,qv,qN,qT,qF,qt]at hQ ⊢
 (repeat' first|refine zaa [0,2,4] fun K hK=>?_|(refine hK.go ?_;clear hK K)|with_reducible exact wT|refine wA ?_|(refine wB (fun h=>?_) (fun h=>?_)<;>first|exact wN h|subst (h:(_:Bool)=_)|skip)|(refine wR ?_;clear hQ hR hE hM)|fail)
 ·right
  have h0:l.length=0:=by assumption
  obtain rfl:=List.length_eq_zero_iff.1 h0
  exact ⟨2,rfl,by simp,by simp⟩
 ·left
  constructor
  ·(refine no_implicit_lambda% (st ?_);try with_reducible exact wT)
  ·(refine no_implicit_lambda% (st ?_);try with_reducible exact wT)
theorem zj4 (hH:HasAll P inv) (a b:List Track) (hl:a.length≤1000000000):PC P inv 34 [.sl 2 (a.map Track.c),.sl 2 (b.map Track.c)] (·=.b (decide (a=b))):=by
 refine PC.fn hH cd34 fun w0 M Q hM hE hQ hR=>?_;dsimp only[cd34,qm,ql,qf,qi,qb,qc,qp,qv,qN,qT,qF,qt]at hQ ⊢
 (repeat' first|refine zaa [0,1,4,5,10,12,13,14,24] fun K hK=>?_|(refine hK.go ?_;clear hK K)|with_reducible exact wT|refine wA ?_|(refine wB (fun h=>?_) (fun h=>?_)<;>first|exact wN h|subst (h:(_:Bool)=_)|skip)|(refine wQ ?_;clear hQ hR hE hM)|fail)
 ·have:¬a=b:=fun e=>h (by rw[e])
  simp[this]
 have hab:a.length=b.length:=by omega
 refine zb8 (fun k=>[(0,.sl 2 (a.map Track.c)),(1,.sl 2 (b.map Track.c)),(12,.n a.length),(13,.n k)]) (fun k=>[]) (a.length) (fun k=>((a.drop k=b.drop k)↔a=b)) ?_;rintro k ⟨hk,hg⟩;rcases Nat.lt_or_ge k a.length with hlt|hge
 ·rw[zae hlt,zae (l:=b) (i:=k) (by omega),List.cons.injEq,zgL]at hg
  (repeat' first|refine zaa [0,1,4,5,10,12,13,14,24] fun K hK=>?_|(refine hK.go ?_;clear hK K)|with_reducible exact wT|refine wA ?_|(refine wB (fun h=>?_) (fun h=>?_)<;>first|exact wN h|subst (h:(_:Bool)=_)|skip)|(refine wQ ?_;clear hQ hR hE hM)|fail)
  ·have:¬a=b:=by rw[←hg];grind
   simp[this]
  ·exact ⟨k+1,by omega,⟨by omega,by rw[←hg];grind⟩,(by (try dsimp only);(first|omega|(simp;done)|(simp;omega)))⟩
 ·rw[List.drop_eq_nil_of_le hge,List.drop_eq_nil_of_le (by omega)]at hg
  (repeat' first|refine zaa [0,1,4,5,10,12,13,14,24] fun K hK=>?_|(refine hK.go ?_;clear hK K)|with_reducible exact wT|refine wA ?_|(refine wB (fun h=>?_) (fun h=>?_)<;>first|exact wN h|subst (h:(_:Bool)=_)|skip)|(refine wQ ?_;clear hQ hR hE hM)|fail)
  simp[←hg]
theorem zix (hH:HasAll P inv) (l:List Switch) (h:l.length≤1000000):PO P inv 32 [.sl 3 (l.map Switch.c)] (.sm 0 (l.length*3) 0 l.length 3) [(0,.cells (l.map Switch.c).flatten (decide (0<l.length)))]:=by
 refine PO.fn hH cd32 fun w0 M Q hM hE hQ hR=>?_;dsimp only[cd32,qm,ql,qf,qi,qb,qc,qp,qv,qN,qT,qF,qt]at hQ ⊢
 (repeat' first|refine zaa [0,2,4] fun K hK=>?_|(refine hK.go ?_;clear hK K)|with_reducible exact wT|refine wA ?_|(refine wB (fun h=>?_) (fun h=>?_)<;>first|exact wN h|subst (h:(_:Bool)=_)|skip)|(refine wR ?_;clear hQ hR hE hM)|fail)
 ·right
  have h0:l.length=0:=by assumption
  obtain rfl:=List.length_eq_zero_iff.1 h0
  exact ⟨3,rfl,by simp,by simp⟩
 ·left
  constructor
  ·(refine no_implicit_lambda% (st ?_);try with_reducible exact wT)
  ·(refine no_implicit_lambda% (st ?_);try with_reducible exact wT)
theorem ziv (hH:HasAll P inv) (a b:List Switch) (hl:a.length≤1000000000):PC P inv 35 [.sl 3 (a.map Switch.c),.sl 3 (b.map Switch.c)] (·=.b (decide (a=b))):=by
 refine PC.fn hH cd35 fun w0 M Q hM hE hQ hR=>?_;dsimp only[cd35,qm,ql,qf,qi,qb,qc,qp,qv,qN,qT,qF,qt]at hQ ⊢
 (repeat' first|refine zaa [0,1,4,5,10,12,13,14,24] fun K hK=>?_|(refine hK.go ?_;clear hK K)|with_reducible exact wT|refine wA ?_|(refine wB (fun h=>?_) (fun h=>?_)<;>first|exact wN h|subst (h:(_:Bool)=_)|skip)|(refine wQ ?_;clear hQ hR hE hM)|fail)
 ·have:¬a=b:=fun e=>h (by rw[e])
  simp[this]
 have hab:a.length=b.length:=by omega
 refine zb8 (fun k=>[(0,.sl 3 (a.map Switch.c)),(1,.sl 3 (b.map Switch.c)),(12,.n a.length),(13,.n k)]) (fun k=>[]) (a.length) (fun k=>((a.drop k=b.drop k)↔a=b)) ?_;rintro k ⟨hk,hg⟩;rcases Nat.lt_or_ge k a.length with hlt|hge
 ·rw[zae hlt,zae (l:=b) (i:=k) (by omega),List.cons.injEq,zfU]at hg
  (repeat' first|refine zaa [0,1,4,5,10,12,13,14,24] fun K hK=>?_|(refine hK.go ?_;clear hK K)|with_reducible exact wT|refine wA ?_|(refine wB (fun h=>?_) (fun h=>?_)<;>first|exact wN h|subst (h:(_:Bool)=_)|skip)|(refine wQ ?_;clear hQ hR hE hM)|fail)
  ·have:¬a=b:=by rw[←hg];grind
   simp[this]
  ·exact ⟨k+1,by omega,⟨by omega,by rw[←hg];grind⟩,(by (try dsimp only);(first|omega|(simp;done)|(simp;omega)))⟩
 ·rw[List.drop_eq_nil_of_le hge,List.drop_eq_nil_of_le (by omega)]at hg
  (repeat' first|refine zaa [0,1,4,5,10,12,13,14,24] fun K hK=>?_|(refine hK.go ?_;clear hK K)|with_reducible exact wT|refine wA ?_|(refine wB (fun h=>?_) (fun h=>?_)<;>first|exact wN h|subst (h:(_:Bool)=_)|skip)|(refine wQ ?_;clear hQ hR hE hM)|fail)
  simp[←hg]
theorem zlh (hH:HasAll P inv) (l:List Lock) (h:l.length≤1000000):PO P inv 33 [.sl 4 (l.map Lock.c)] (.sm 0 (l.length*4) 0 l.length 4) [(0,.cells (l.map Lock.c).flatten (decide (0<l.length)))]:=by
 refine PO.fn hH cd33 fun w0 M Q hM hE hQ hR=>?_;dsimp only[cd33,qm,ql,qf,qi,qb,qc,qp,qv,qN,qT,qF,qt]at hQ ⊢
 (repeat' first|refine zaa [0,2,4] fun K hK=>?_|(refine hK.go ?_;clear hK K)|with_reducible exact wT|refine wA ?_|(refine wB (fun h=>?_) (fun h=>?_)<;>first|exact wN h|subst (h:(_:Bool)=_)|skip)|(refine wR ?_;clear hQ hR hE hM)|fail)
 ·right
  have h0:l.length=0:=by assumption
  obtain rfl:=List.length_eq_zero_iff.1 h0
  exact ⟨4,rfl,by simp,by simp⟩
 ·left
  constructor
  ·(refine no_implicit_lambda% (st ?_);try with_reducible exact wT)
  ·(refine no_implicit_lambda% (st ?_);try with_reducible exact wT)
theorem zk7 (hH:HasAll P inv) (a b:List Lock) (hl:a.length≤1000000000):PC P inv 36 [.sl 4 (a.map Lock.c),.sl 4 (b.map Lock.c)] (·=.b (decide (a=b))):=by
 refine PC.fn hH cd36 fun w0 M Q hM hE hQ hR=>?_;dsimp only[cd36,qm,ql,qf,qi,qb,qc,qp,qv,qN,qT,qF,qt]at hQ ⊢
 (repeat' first|refine zaa [0,1,4,5,10,12,13,14,24] fun K hK=>?_|(refine hK.go ?_;clear hK K)|with_reducible exact wT|refine wA ?_|(refine wB (fun h=>?_) (fun h=>?_)<;>first|exact wN h|subst (h:(_:Bool)=_)|skip)|(refine wQ ?_;clear hQ hR hE hM)|fail)
 ·have:¬a=b:=fun e=>h (by rw[e])
  simp[this]
 have hab:a.length=b.length:=by omega
 refine zb8 (fun k=>[(0,.sl 4 (a.map Lock.c)),(1,.sl 4 (b.map Lock.c)),(12,.n a.length),(13,.n k)]) (fun k=>[]) (a.length) (fun k=>((a.drop k=b.drop k)↔a=b)) ?_;rintro k ⟨hk,hg⟩;rcases Nat.lt_or_ge k a.length with hlt|hge
 ·rw[zae hlt,zae (l:=b) (i:=k) (by omega),List.cons.injEq,ze9]at hg
  (repeat' first|refine zaa [0,1,4,5,10,12,13,14,24] fun K hK=>?_|(refine hK.go ?_;clear hK K)|with_reducible exact wT|refine wA ?_|(refine wB (fun h=>?_) (fun h=>?_)<;>first|exact wN h|subst (h:(_:Bool)=_)|skip)|(refine wQ ?_;clear hQ hR hE hM)|fail)
  ·have:¬a=b:=by rw[←hg];grind
   simp[this]
  ·exact ⟨k+1,by omega,⟨by omega,by rw[←hg];grind⟩,(by (try dsimp only);(first|omega|(simp;done)|(simp;omega)))⟩
 ·rw[List.drop_eq_nil_of_le hge,List.drop_eq_nil_of_le (by omega)]at hg
  (repeat' first|refine zaa [0,1,4,5,10,12,13,14,24] fun K hK=>?_|(refine hK.go ?_;clear hK K)|with_reducible exact wT|refine wA ?_|(refine wB (fun h=>?_) (fun h=>?_)<;>first|exact wN h|subst (h:(_:Bool)=_)|skip)|(refine wQ ?_;clear hQ hR hE hM)|fail)
  simp[←hg]
def keptSw (x y:Switch):Bool:=decide (x.id=y.id)&&decide (x.call=y.call)
def keptLk (x y:Lock):Bool:=decide (x.id=y.id)&&decide (x.phase=y.phase)&&decide (x.gone=y.gone)
end Go.Lev
namespace Go.Lev
open Go.Eng
set_option maxRecDepth 10000
set_option maxHeartbeats 4000000
variable {P:Program} {inv:Nat→Option Nat}
def zaZ {α:Type} (p:α→Bool):Int→List α→Int
 |_,[]=>-1
 |k,x::r=>if p x=true then k else zaZ p (k+1) r
theorem idx_rte (hH:HasAll P inv) {jc:Nat} {caps:List AV} {p:Rte→Bool} (l:List Rte) (hc:∀ x∈l,PC P inv jc ([.agg x.c]++caps) (·=.b (p x))) (hl:l.length≤1000000000):PC P inv 138 [.sl 7 (l.map Rte.c),.fn jc caps] (·=.n (zaZ p 0 l)):=by
 refine PC.fn hH cd138 fun w0 M Q hM hE hQ hR=>?_;dsimp only[cd138,qm,ql,qf,qi,qb,qc,qp,qv,qN,qT,qF,qt]at hQ ⊢
 (repeat' first|refine zaa [0,1,4,5,7,8,9,16] fun K hK=>?_|(refine hK.go ?_;clear hK K)|with_reducible exact wT|refine wA ?_|(refine wB (fun h=>?_) (fun h=>?_)<;>first|exact wN h|subst (h:(_:Bool)=_)|skip)|(refine wQ ?_;clear hQ hR hE hM)|fail)
 refine zb8 (fun k=>[(0,.sl 7 (l.map Rte.c)),(1,.fn jc caps),(7,.n l.length),(8,.n k)]) (fun k=>[]) (l.length) (fun k=>zaZ p k (l.drop k)=zaZ p 0 l) ?_;rintro k ⟨hk,hg⟩;rcases Nat.lt_or_ge k l.length with hlt|hge
 ·rw[zae hlt]at hg
  rw[zaZ]at hg
  (repeat' first|refine zaa [0,1,4,5,7,8,9,16] fun K hK=>?_|(refine hK.go ?_;clear hK K)|with_reducible exact wT|refine wA ?_|(refine wB (fun h=>?_) (fun h=>?_)<;>first|exact wN h|subst (h:(_:Bool)=_)|skip)|(refine wQ ?_;clear hQ hR hE hM)|(refine zau hM (hc _ (zab hlt)) ?_;try (refine no_implicit_lambda% (st ?_);try with_reducible exact wT))|fail)
  ·rw[←hg,if_pos h]
  ·exact ⟨k+1,by omega,⟨by omega,by rw[←hg,if_neg (by rw[h];simp)];rfl⟩,(by (try dsimp only);(first|omega|(simp;done)|(simp;omega)))⟩
 ·rw[List.drop_eq_nil_of_le hge]at hg
  (repeat' first|refine zaa [0,1,4,5,7,8,9,16] fun K hK=>?_|(refine hK.go ?_;clear hK K)|with_reducible exact wT|refine wA ?_|(refine wB (fun h=>?_) (fun h=>?_)<;>first|exact wN h|subst (h:(_:Bool)=_)|skip)|(refine wQ ?_;clear hQ hR hE hM)|fail)
  rw[←hg];rfl
theorem zmb (hH:HasAll P inv) {jc:Nat} {caps:List AV} {p:Pnt→Bool} (l:List Pnt) (hc:∀ x∈l,PC P inv jc ([.agg x.c]++caps) (·=.b (p x))) (hl:l.length≤1000000000):PC P inv 109 [.sl 2 (l.map Pnt.c),.fn jc caps] (·=.n (zaZ p 0 l)):=by
 refine PC.fn hH cd109 fun w0 M Q hM hE hQ hR=>?_;dsimp only[cd109,qm,ql,qf,qi,qb,qc,qp,qv,qN,qT,qF,qt]at hQ ⊢
 (repeat' first|refine zaa [0,1,4,5,7,8,9,16] fun K hK=>?_|(refine hK.go ?_;clear hK K)|with_reducible exact wT|refine wA ?_|(refine wB (fun h=>?_) (fun h=>?_)<;>first|exact wN h|subst (h:(_:Bool)=_)|skip)|(refine wQ ?_;clear hQ hR hE hM)|fail)
 refine zb8 (fun k=>[(0,.sl 2 (l.map Pnt.c)),(1,.fn jc caps),(7,.n l.length),(8,.n k)]) (fun k=>[]) (l.length) (fun k=>zaZ p k (l.drop k)=zaZ p 0 l) ?_;rintro k ⟨hk,hg⟩;rcases Nat.lt_or_ge k l.length with hlt|hge
 ·rw[zae hlt]at hg
  rw[zaZ]at hg
  (repeat' first|refine zaa [0,1,4,5,7,8,9,16] fun K hK=>?_|(refine hK.go ?_;clear hK K)|with_reducible exact wT|refine wA ?_|(refine wB (fun h=>?_) (fun h=>?_)<;>first|exact wN h|subst (h:(_:Bool)=_)|skip)|(refine wQ ?_;clear hQ hR hE hM)|(refine zau hM (hc _ (zab hlt)) ?_;try (refine no_implicit_lambda% (st ?_);try with_reducible exact wT))|fail)
  ·rw[←hg,if_pos h]
  ·exact ⟨k+1,by omega,⟨by omega,by rw[←hg,if_neg (by rw[h];simp)];rfl⟩,(by (try dsimp only);(first|omega|(simp;done)|(simp;omega)))⟩
 ·rw[List.drop_eq_nil_of_le hge]at hg
  (repeat' first|refine zaa [0,1,4,5,7,8,9,16] fun K hK=>?_|(refine hK.go ?_;clear hK K)|with_reducible exact wT|refine wA ?_|(refine wB (fun h=>?_) (fun h=>?_)<;>first|exact wN h|subst (h:(_:Bool)=_)|skip)|(refine wQ ?_;clear hQ hR hE hM)|fail)
  rw[←hg];rfl
theorem idx_sgn (hH:HasAll P inv) {jc:Nat} {caps:List AV} {p:Sgn→Bool} (l:List Sgn) (hc:∀ x∈l,PC P inv jc ([.agg x.c]++caps) (·=.b (p x))) (hl:l.length≤1000000000):PC P inv 143 [.sl 3 (l.map Sgn.c),.fn jc caps] (·=.n (zaZ p 0 l)):=by
 refine PC.fn hH cd143 fun w0 M Q hM hE hQ hR=>?_;dsimp only[cd143,qm,ql,qf,qi,qb,qc,qp,qv,qN,qT,qF,qt]at hQ ⊢
 (repeat' first|refine zaa [0,1,4,5,7,8,9,16] fun K hK=>?_|(refine hK.go ?_;clear hK K)|with_reducible exact wT|refine wA ?_|(refine wB (fun h=>?_) (fun h=>?_)<;>first|exact wN h|subst (h:(_:Bool)=_)|skip)|(refine wQ ?_;clear hQ hR hE hM)|fail)
 refine zb8 (fun k=>[(0,.sl 3 (l.map Sgn.c)),(1,.fn jc caps),(7,.n l.length),(8,.n k)]) (fun k=>[]) (l.length) (fun k=>zaZ p k (l.drop k)=zaZ p 0 l) ?_;rintro k ⟨hk,hg⟩;rcases Nat.lt_or_ge k l.length with hlt|hge
 ·rw[zae hlt]at hg
  rw[zaZ]at hg
  (repeat' first|refine zaa [0,1,4,5,7,8,9,16] fun K hK=>?_|(refine hK.go ?_;clear hK K)|with_reducible exact wT|refine wA ?_|(refine wB (fun h=>?_) (fun h=>?_)<;>first|exact wN h|subst (h:(_:Bool)=_)|skip)|(refine wQ ?_;clear hQ hR hE hM)|(refine zau hM (hc _ (zab hlt)) ?_;try (refine no_implicit_lambda% (st ?_);try with_reducible exact wT))|fail)
  ·rw[←hg,if_pos h]
  ·exact ⟨k+1,by omega,⟨by omega,by rw[←hg,if_neg (by rw[h];simp)];rfl⟩,(by (try dsimp only);(first|omega|(simp;done)|(simp;omega)))⟩
 ·rw[List.drop_eq_nil_of_le hge]at hg
  (repeat' first|refine zaa [0,1,4,5,7,8,9,16] fun K hK=>?_|(refine hK.go ?_;clear hK K)|with_reducible exact wT|refine wA ?_|(refine wB (fun h=>?_) (fun h=>?_)<;>first|exact wN h|subst (h:(_:Bool)=_)|skip)|(refine wQ ?_;clear hQ hR hE hM)|fail)
  rw[←hg];rfl
theorem zjU (hH:HasAll P inv) {jc:Nat} {caps:List AV} {p:Section→Bool} (l:List Section) (hc:∀ x∈l,PC P inv jc ([.agg x.c]++caps) (·=.b (p x))) (hl:l.length≤1000000000):PC P inv 94 [.sl 3 (l.map Section.c),.fn jc caps] (·=.n (zaZ p 0 l)):=by
 refine PC.fn hH cd94 fun w0 M Q hM hE hQ hR=>?_;dsimp only[cd94,qm,ql,qf,qi,qb,qc,qp,qv,qN,qT,qF,qt]at hQ ⊢
 (repeat' first|refine zaa [0,1,4,5,7,8,9,16] fun K hK=>?_|(refine hK.go ?_;clear hK K)|with_reducible exact wT|refine wA ?_|(refine wB (fun h=>?_) (fun h=>?_)<;>first|exact wN h|subst (h:(_:Bool)=_)|skip)|(refine wQ ?_;clear hQ hR hE hM)|fail)
 refine zb8 (fun k=>[(0,.sl 3 (l.map Section.c)),(1,.fn jc caps),(7,.n l.length),(8,.n k)]) (fun k=>[]) (l.length) (fun k=>zaZ p k (l.drop k)=zaZ p 0 l) ?_;rintro k ⟨hk,hg⟩;rcases Nat.lt_or_ge k l.length with hlt|hge
 ·rw[zae hlt]at hg
  rw[zaZ]at hg
  (repeat' first|refine zaa [0,1,4,5,7,8,9,16] fun K hK=>?_|(refine hK.go ?_;clear hK K)|with_reducible exact wT|refine wA ?_|(refine wB (fun h=>?_) (fun h=>?_)<;>first|exact wN h|subst (h:(_:Bool)=_)|skip)|(refine wQ ?_;clear hQ hR hE hM)|(refine zau hM (hc _ (zab hlt)) ?_;try (refine no_implicit_lambda% (st ?_);try with_reducible exact wT))|fail)
  ·rw[←hg,if_pos h]
  ·exact ⟨k+1,by omega,⟨by omega,by rw[←hg,if_neg (by rw[h];simp)];rfl⟩,(by (try dsimp only);(first|omega|(simp;done)|(simp;omega)))⟩
 ·rw[List.drop_eq_nil_of_le hge]at hg
  (repeat' first|refine zaa [0,1,4,5,7,8,9,16] fun K hK=>?_|(refine hK.go ?_;clear hK K)|with_reducible exact wT|refine wA ?_|(refine wB (fun h=>?_) (fun h=>?_)<;>first|exact wN h|subst (h:(_:Bool)=_)|skip)|(refine wQ ?_;clear hQ hR hE hM)|fail)
  rw[←hg];rfl
theorem idx_int (hH:HasAll P inv) {jc:Nat} {caps:List AV} {p:Int→Bool} (l:List Int) (hc:∀ x∈l,PC P inv jc ([.n x]++caps) (·=.b (p x))) (hl:l.length≤1000000000):PC P inv 185 [.sl 1 (l.map zcP),.fn jc caps] (·=.n (zaZ p 0 l)):=by
 refine PC.fn hH cd185 fun w0 M Q hM hE hQ hR=>?_;dsimp only[cd185,qm,ql,qf,qi,qb,qc,qp,qv,qN,qT,qF,qt]at hQ ⊢
 (repeat' first|refine zaa [0,1,4,5,7,8,9,16] fun K hK=>?_|(refine hK.go ?_;clear hK K)|with_reducible exact wT|refine wA ?_|(refine wB (fun h=>?_) (fun h=>?_)<;>first|exact wN h|subst (h:(_:Bool)=_)|skip)|(refine wQ ?_;clear hQ hR hE hM)|fail)
 refine zb8 (fun k=>[(0,.sl 1 (l.map zcP)),(1,.fn jc caps),(7,.n l.length),(8,.n k)]) (fun k=>[]) (l.length) (fun k=>zaZ p k (l.drop k)=zaZ p 0 l) ?_;rintro k ⟨hk,hg⟩;rcases Nat.lt_or_ge k l.length with hlt|hge
 ·rw[zae hlt]at hg
  rw[zaZ]at hg
  (repeat' first|refine zaa [0,1,4,5,7,8,9,16] fun K hK=>?_|(refine hK.go ?_;clear hK K)|with_reducible exact wT|refine wA ?_|(refine wB (fun h=>?_) (fun h=>?_)<;>first|exact wN h|subst (h:(_:Bool)=_)|skip)|(refine wQ ?_;clear hQ hR hE hM)|(refine zau hM (hc _ (zab hlt)) ?_;try (refine no_implicit_lambda% (st ?_);try with_reducible exact wT))|fail)
  ·rw[←hg,if_pos h]
  ·exact ⟨k+1,by omega,⟨by omega,by rw[←hg,if_neg (by rw[h];simp)];rfl⟩,(by (try dsimp only);(first|omega|(simp;done)|(simp;omega)))⟩
 ·rw[List.drop_eq_nil_of_le hge]at hg
  (repeat' first|refine zaa [0,1,4,5,7,8,9,16] fun K hK=>?_|(refine hK.go ?_;clear hK K)|with_reducible exact wT|refine wA ?_|(refine wB (fun h=>?_) (fun h=>?_)<;>first|exact wN h|subst (h:(_:Bool)=_)|skip)|(refine wQ ?_;clear hQ hR hE hM)|fail)
  rw[←hg];rfl
end Go.Lev
namespace Go.Lev
open Go.Eng
set_option maxRecDepth 10000
set_option maxHeartbeats 4000000
variable {P:Program} {inv:Nat→Option Nat}
theorem zbW {α:Type} [Inhabited α] (p:α→Bool):∀ (l:List α) (k:Int),(zaZ p k l=-1∧l.find? p=none)∨∃ i:Nat,i<l.length∧zaZ p k l=k+i∧l.find? p=some (nth l i)
 |[],k=>.inl ⟨rfl,rfl⟩
 |x::r,k=>by
  simp only[zaZ,List.find?_cons]
  cases h:p x with
  |true=>exact .inr ⟨0,by simp,by simp,rfl⟩
  |false =>
   rcases zbW p r (k+1) with ⟨h1,h2⟩|⟨i,h1,h2,h3⟩
   ·exact .inl ⟨by simpa using h1,h2⟩
   ·exact .inr ⟨i+1,by simp;omega,by simp[h2];omega,by simp only[h3];rfl⟩
theorem is_rte (hH:HasAll P inv) (hI:HasIds P inv) (n:Int) (x:Rte):PC P inv 139 ([.agg x.c]++[.ip 1 [[.n n]] 0 0]) (·=.b (decide (x.id=n))):=by
 refine PC.fn hH cd139 fun w0 M Q hM hE hQ hR=>?_;dsimp only[cd139,qm,ql,qf,qi,qb,qc,qp,qv,qN,qT,qF,qt]at hQ ⊢
 (repeat' first|refine zaa [0,1,2,3] fun K hK=>?_|(refine hK.go ?_;clear hK K)|with_reducible exact wT|refine wA ?_|(refine wB (fun h=>?_) (fun h=>?_)<;>first|exact wN h|subst (h:(_:Bool)=_)|skip)|(refine wQ ?_;clear hQ hR hE hM)|(refine zau hM (hI.rte _) ?_;try (refine no_implicit_lambda% (st ?_);try with_reducible exact wT))|fail)
 all_goals (first|rfl|(grind[])|(simp[ *];done)|(simp_all [];done)|(simp_all []<;>first|omega|((repeat' split)<;>first|rfl|(exfalso;omega))))
def Rte.z:Rte:=⟨0,0,0,[],[],[],0⟩
theorem find_rte (hH:HasAll P inv) (hI:HasIds P inv) (l:List Rte) (hl:l.length≤1000000000) (n:Int):PC P inv 127 [.sl 7 (l.map Rte.c),.n n] (·=.tup [.agg ((l.find? fun x=>decide (x.id=n)).getD Rte.z).c,.b (l.find? fun x=>decide (x.id=n)).isSome]):=by
 have hs:=zbW (fun x:Rte=>decide (x.id=n)) l 0
 refine PC.fn hH cd127 fun w0 M Q hM hE hQ hR=>?_;dsimp only[cd127,qm,ql,qf,qi,qb,qc,qp,qv,qN,qT,qF,qt]at hQ ⊢
 (repeat' first|refine zaa [0,1,3,4,5,6,7,12] fun K hK=>?_|(refine hK.go ?_;clear hK K)|with_reducible exact wT|refine wA ?_|(refine wB (fun h=>?_) (fun h=>?_)<;>first|exact wN h|subst (h:(_:Bool)=_)|skip)|(refine wQ ?_;clear hQ hR hE hM)|(refine zeN hM 4 (idx_rte hH l (fun x _=>is_rte hH hI n x) hl) ?_ rfl ?_;(focus exact wF);try (refine no_implicit_lambda% (st ?_);try with_reducible exact wT))|fail)
 ·rcases hs with ⟨h1,h2⟩|⟨i,h1,h2,h3⟩
  ·rw[h2];rfl
  ·omega
 ·rcases hs with ⟨h1,_⟩|⟨i,h1,h2,h3⟩
  ·omega
  ·rw[show (zaZ (fun x:Rte=>decide (x.id=n)) 0 l).toNat=i by omega]
   (refine no_implicit_lambda% (st ?_);try with_reducible exact wT)
   (repeat' first|refine zaa [0,1,3,4,5,6,7,12] fun K hK=>?_|(refine hK.go ?_;clear hK K)|with_reducible exact wT|refine wA ?_|(refine wB (fun h=>?_) (fun h=>?_)<;>first|exact wN h|subst (h:(_:Bool)=_)|skip)|(refine wQ ?_;clear hQ hR hE hM)|fail)
   rw[h3];rfl
theorem is_sgn (hH:HasAll P inv) (hI:HasIds P inv) (n:Int) (x:Sgn):PC P inv 144 ([.agg x.c]++[.ip 1 [[.n n]] 0 0]) (·=.b (decide (x.id=n))):=by
 refine PC.fn hH cd144 fun w0 M Q hM hE hQ hR=>?_;dsimp only[cd144,qm,ql,qf,qi,qb,qc,qp,qv,qN,qT,qF,qt]at hQ ⊢
 (repeat' first|refine zaa [0,1,2,3] fun K hK=>?_|(refine hK.go ?_;clear hK K)|with_reducible exact wT|refine wA ?_|(refine wB (fun h=>?_) (fun h=>?_)<;>first|exact wN h|subst (h:(_:Bool)=_)|skip)|(refine wQ ?_;clear hQ hR hE hM)|(refine zau hM (hI.sgn _) ?_;try (refine no_implicit_lambda% (st ?_);try with_reducible exact wT))|fail)
 all_goals (first|rfl|(grind[])|(simp[ *];done)|(simp_all [];done)|(simp_all []<;>first|omega|((repeat' split)<;>first|rfl|(exfalso;omega))))
def Sgn.z:Sgn:=⟨0,0,0⟩
theorem zni (hH:HasAll P inv) (hI:HasIds P inv) (l:List Sgn) (hl:l.length≤1000000000) (n:Int):PC P inv 136 [.sl 3 (l.map Sgn.c),.n n] (·=.tup [.agg ((l.find? fun x=>decide (x.id=n)).getD Sgn.z).c,.b (l.find? fun x=>decide (x.id=n)).isSome]):=by
 have hs:=zbW (fun x:Sgn=>decide (x.id=n)) l 0
 refine PC.fn hH cd136 fun w0 M Q hM hE hQ hR=>?_;dsimp only[cd136,qm,ql,qf,qi,qb,qc,qp,qv,qN,qT,qF,qt]at hQ ⊢
 (repeat' first|refine zaa [0,1,3,4,5,6,7,12] fun K hK=>?_|(refine hK.go ?_;clear hK K)|with_reducible exact wT|refine wA ?_|(refine wB (fun h=>?_) (fun h=>?_)<;>first|exact wN h|subst (h:(_:Bool)=_)|skip)|(refine wQ ?_;clear hQ hR hE hM)|(refine zeN hM 4 (idx_sgn hH l (fun x _=>is_sgn hH hI n x) hl) ?_ rfl ?_;(focus exact wF);try (refine no_implicit_lambda% (st ?_);try with_reducible exact wT))|fail)
 ·rcases hs with ⟨h1,h2⟩|⟨i,h1,h2,h3⟩
  ·rw[h2];rfl
  ·omega
 ·rcases hs with ⟨h1,_⟩|⟨i,h1,h2,h3⟩
  ·omega
  ·rw[show (zaZ (fun x:Sgn=>decide (x.id=n)) 0 l).toNat=i by omega]
   (refine no_implicit_lambda% (st ?_);try with_reducible exact wT)
   (repeat' first|refine zaa [0,1,3,4,5,6,7,12] fun K hK=>?_|(refine hK.go ?_;clear hK K)|with_reducible exact wT|refine wA ?_|(refine wB (fun h=>?_) (fun h=>?_)<;>first|exact wN h|subst (h:(_:Bool)=_)|skip)|(refine wQ ?_;clear hQ hR hE hM)|fail)
   rw[h3];rfl
theorem is_pnt (hH:HasAll P inv) (hI:HasIds P inv) (n:Int) (x:Pnt):PC P inv 145 ([.agg x.c]++[.ip 1 [[.n n]] 0 0]) (·=.b (decide (x.id=n))):=by
 refine PC.fn hH cd145 fun w0 M Q hM hE hQ hR=>?_;dsimp only[cd145,qm,ql,qf,qi,qb,qc,qp,qv,qN,qT,qF,qt]at hQ ⊢
 (repeat' first|refine zaa [0,1,2,3] fun K hK=>?_|(refine hK.go ?_;clear hK K)|with_reducible exact wT|refine wA ?_|(refine wB (fun h=>?_) (fun h=>?_)<;>first|exact wN h|subst (h:(_:Bool)=_)|skip)|(refine wQ ?_;clear hQ hR hE hM)|(refine zau hM (hI.pnt _) ?_;try (refine no_implicit_lambda% (st ?_);try with_reducible exact wT))|fail)
 all_goals (first|rfl|(grind[])|(simp[ *];done)|(simp_all [];done)|(simp_all []<;>first|omega|((repeat' split)<;>first|rfl|(exfalso;omega))))
def Pnt.z:Pnt:=⟨0,0⟩
theorem find_pnt (hH:HasAll P inv) (hI:HasIds P inv) (l:List Pnt) (hl:l.length≤1000000000) (n:Int):PC P inv 137 [.sl 2 (l.map Pnt.c),.n n] (·=.tup [.agg ((l.find? fun x=>decide (x.id=n)).getD Pnt.z).c,.b (l.find? fun x=>decide (x.id=n)).isSome]):=by
 have hs:=zbW (fun x:Pnt=>decide (x.id=n)) l 0
 refine PC.fn hH cd137 fun w0 M Q hM hE hQ hR=>?_;dsimp only[cd137,qm,ql,qf,qi,qb,qc,qp,qv,qN,qT,qF,qt]at hQ ⊢
 (repeat' first|refine zaa [0,1,3,4,5,6,7,12] fun K hK=>?_|(refine hK.go ?_;clear hK K)|with_reducible exact wT|refine wA ?_|(refine wB (fun h=>?_) (fun h=>?_)<;>first|exact wN h|subst (h:(_:Bool)=_)|skip)|(refine wQ ?_;clear hQ hR hE hM)|(refine zeN hM 4 (zmb hH l (fun x _=>is_pnt hH hI n x) hl) ?_ rfl ?_;(focus exact wF);try (refine no_implicit_lambda% (st ?_);try with_reducible exact wT))|fail)
 ·rcases hs with ⟨h1,h2⟩|⟨i,h1,h2,h3⟩
  ·rw[h2];rfl
  ·omega
 ·rcases hs with ⟨h1,_⟩|⟨i,h1,h2,h3⟩
  ·omega
  ·rw[show (zaZ (fun x:Pnt=>decide (x.id=n)) 0 l).toNat=i by omega]
   (refine no_implicit_lambda% (st ?_);try with_reducible exact wT)
   (repeat' first|refine zaa [0,1,3,4,5,6,7,12] fun K hK=>?_|(refine hK.go ?_;clear hK K)|with_reducible exact wT|refine wA ?_|(refine wB (fun h=>?_) (fun h=>?_)<;>first|exact wN h|subst (h:(_:Bool)=_)|skip)|(refine wQ ?_;clear hQ hR hE hM)|fail)
   rw[h3];rfl
end Go.Lev
namespace Go.Lev
open Go.Eng
set_option maxRecDepth 10000
set_option maxHeartbeats 4000000
variable {P:Program} {inv:Nat→Option Nat}
theorem zpQ (f:Nat→Option (List AV)) (k:IntKind) (l:List Int):zca f (l.map (AV.i k))=l.map (AV.i k):=zcu f _ (zcW k l)
theorem zqt (f:Nat→Option (List AV)) (l:List Bool):zca f (l.map AV.b)=l.map AV.b:=zcu f _ (zeL l)
attribute [go_sem] zpQ zqt
theorem idxG_any {α:Type} [Inhabited α] (p:α→Bool) (l:List α):decide (0≤zaZ p 0 l)=l.any p:=by
 have h:∀ (l:List α) (k:Int),0≤k→(0≤zaZ p k l↔l.any p=true):=by
  intro l
  induction l with
  |nil=>intro k _;simp[zaZ]
  |cons x r ih =>
   intro k hk
   rw[zaZ,List.any_cons]
   cases h:p x with
   |true=>simp[hk]
   |false=>simpa using ih (k+1) (by omega)
 have:=h l 0 (by omega)
 grind
theorem any_pnt (hH:HasAll P inv) {jc:Nat} {caps:List AV} {p:Pnt→Bool} (l:List Pnt) (hc:∀ x∈l,PC P inv jc ([.agg x.c]++caps) (·=.b (p x))) (hl:l.length≤1000000000):PC P inv 91 [.sl 2 (l.map Pnt.c),.fn jc caps] (·=.b (l.any p)):=by
 rw[←idxG_any]
 refine PC.fn hH cd91 fun w0 M Q hM hE hQ hR=>?_;dsimp only[cd91,qm,ql,qf,qi,qb,qc,qp,qv,qN,qT,qF,qt]at hQ ⊢
 (repeat' first|refine zaa [0,1,4] fun K hK=>?_|(refine hK.go ?_;clear hK K)|with_reducible exact wT|refine wA ?_|(refine wB (fun h=>?_) (fun h=>?_)<;>first|exact wN h|subst (h:(_:Bool)=_)|skip)|(refine wQ ?_;clear hQ hR hE hM)|refine wC (zmb hH l hc hl) ?_|fail)
end Go.Lev
namespace Go.Lev
open Go.Eng
set_option maxRecDepth 10000
set_option maxHeartbeats 4000000
variable {P:Program} {inv:Nat→Option Nat}
def zcf (i:Int):Bool:=decide (1≤i)&&decide (i≤99)
theorem ze5 (hH:HasAll P inv) (i:Int):PC P inv 50 [.n i] (·=.b (zcf i)):=by
 refine PC.fn hH cd50 fun w0 M Q hM hE hQ hR=>?_;dsimp only[cd50,qm,ql,qf,qi,qb,qc,qp,qv,qN,qT,qF,qt]at hQ ⊢
 (repeat' first|refine zaa [0,2] fun K hK=>?_|(refine hK.go ?_;clear hK K)|with_reducible exact wT|refine wA ?_|(refine wB (fun h=>?_) (fun h=>?_)<;>first|exact wN h|subst (h:(_:Bool)=_)|skip)|(refine wQ ?_;clear hQ hR hE hM)|fail)
 all_goals (first|rfl|(grind[zcf])|(simp[zcf, *];done)|(simp_all [zcf];done)|(simp_all [zcf]<;>first|omega|((repeat' split)<;>first|rfl|(exfalso;omega))))
def zcC (s:Section):Bool:=(decide (s.pt=0)&&decide ((s.ends.length:Int)=2))||(zcf s.pt&&decide ((s.ends.length:Int)=3))
theorem zko (hH:HasAll P inv) (s:Section):PC P inv 41 [.agg s.c] (·=.b (zcC s)):=by
 refine PC.fn hH cd41 fun w0 M Q hM hE hQ hR=>?_;dsimp only[cd41,qm,ql,qf,qi,qb,qc,qp,qv,qN,qT,qF,qt]at hQ ⊢
 (repeat' first|refine zaa [0,1,2] fun K hK=>?_|(refine hK.go ?_;clear hK K)|with_reducible exact wT|refine wA ?_|(refine wB (fun h=>?_) (fun h=>?_)<;>first|exact wN h|subst (h:(_:Bool)=_)|skip)|(refine wQ ?_;clear hQ hR hE hM)|(refine zau hM (ze5 hH _) ?_;try (refine no_implicit_lambda% (st ?_);try with_reducible exact wT))|fail)
 all_goals (first|rfl|(grind[zcC])|(simp[zcC, *];done)|(simp_all [zcC];done)|(simp_all [zcC]<;>first|omega|((repeat' split)<;>first|rfl|(exfalso;omega))))
theorem isNaN_pc (hH:HasAll P inv) (i:Int):PC P inv 55 [.n i] (·=.b false):=by
 refine PC.fn hH cd55 fun w0 M Q hM hE hQ hR=>?_;dsimp only[cd55,qm,ql,qf,qi,qb,qc,qp,qv,qN,qT,qF,qt]at hQ ⊢
 (repeat' first|refine zaa [0,2] fun K hK=>?_|(refine hK.go ?_;clear hK K)|with_reducible exact wT|refine wA ?_|(refine wB (fun h=>?_) (fun h=>?_)<;>first|exact wN h|subst (h:(_:Bool)=_)|skip)|(refine wQ ?_;clear hQ hR hE hM)|fail)
 all_goals (first|rfl|(grind[])|(simp[ *];done)|(simp_all [];done)|(simp_all []<;>first|omega|((repeat' split)<;>first|rfl|(exfalso;omega))))
def zlg (a b:Int):Int:=if a<b then -1 else if b<a then 1 else 0
theorem cmp_pc (hH:HasAll P inv) (a b:Int):PC P inv 53 [.n a,.n b] (·=.n (zlg a b)):=by
 refine PC.fn hH cd53 fun w0 M Q hM hE hQ hR=>?_;dsimp only[cd53,qm,ql,qf,qi,qb,qc,qp,qv,qN,qT,qF,qt]at hQ ⊢
 (repeat' first|refine zaa [0,1,4,5,6,11,12,13,16,19] fun K hK=>?_|(refine hK.go ?_;clear hK K)|with_reducible exact wT|refine wA ?_|(refine wB (fun h=>?_) (fun h=>?_)<;>first|exact wN h|subst (h:(_:Bool)=_)|skip)|(refine wQ ?_;clear hQ hR hE hM)|(refine zau hM (isNaN_pc hH _) ?_;try (refine no_implicit_lambda% (st ?_);try with_reducible exact wT))|fail)
 all_goals (first|rfl|(grind[zlg])|(simp[zlg, *];done)|(simp_all [zlg];done)|(simp_all [zlg]<;>first|omega|((repeat' split)<;>first|rfl|(exfalso;omega))))
theorem zkL (hH:HasAll P inv) (s:Section) (b:Int):PC P inv 52 [.agg s.c,.n b] (·=.n (zlg s.id b)):=by
 refine PC.fn hH cd52 fun w0 M Q hM hE hQ hR=>?_;dsimp only[cd52,qm,ql,qf,qi,qb,qc,qp,qv,qN,qT,qF,qt]at hQ ⊢
 (repeat' first|refine zaa [0,1,2,4] fun K hK=>?_|(refine hK.go ?_;clear hK K)|with_reducible exact wT|refine wA ?_|(refine wB (fun h=>?_) (fun h=>?_)<;>first|exact wN h|subst (h:(_:Bool)=_)|skip)|(refine wQ ?_;clear hQ hR hE hM)|(refine zau hM (cmp_pc hH _ _) ?_;try (refine no_implicit_lambda% (st ?_);try with_reducible exact wT))|fail)
 all_goals (first|rfl|(grind[zlg])|(simp[zlg, *];done)|(simp_all [zlg];done)|(simp_all [zlg]<;>first|omega|((repeat' split)<;>first|rfl|(exfalso;omega))))
def zha (l:List Section) (id:Int) (i j:Nat):Nat :=
 if _h:i<j then if zlg (nth l ((i+j) / 2)).id id<0 then zha l id ((i+j) / 2+1) j else zha l id i ((i+j) / 2) else i
termination_by j-i
def zal (l:List Section) (id:Int):Nat×Bool :=
 (zha l id 0 l.length,decide (zha l id 0 l.length<l.length)&&decide (zlg (nth l (zha l id 0 l.length)).id id=0))
theorem zlm {l:List Section} {id:Int} {i j:Nat} (h:i<j):zha l id i j=if zlg (nth l ((i+j) / 2)).id id<0 then zha l id ((i+j) / 2+1) j else zha l id i ((i+j) / 2):=by
 rw[zha,dif_pos h]
theorem zkb {l:List Section} {id:Int} {i:Nat}:zha l id i i=i:=by rw[zha,dif_neg (by omega)]
theorem zqs (l:List Section) (id:Int):∀ (n i j:Nat),j-i≤n→i≤j→i≤zha l id i j∧zha l id i j≤j:=by
 intro n
 induction n with
 |zero=>intro i j h hij;unfold zha;rw[dif_neg (by omega)];omega
 |succ n ih =>
  intro i j h hij
  unfold zha
  split
  ·split
   ·have:=ih ((i+j) / 2+1) j (by omega) (by omega);omega
   ·have:=ih i ((i+j) / 2) (by omega) (by omega);omega
  ·omega
theorem bs_pc (hH:HasAll P inv) (l:List Section) (id:Int) (hl:l.length≤1000000000):PC P inv 51 [.sl 3 (l.map Section.c),.n id,.fn 52 []] (·=.tup [.n (zal l id).1,.b (zal l id).2]):=by
 have hb:=zqs l id l.length 0 l.length (by omega) (by omega)
 refine PC.fn hH cd51 fun w0 M Q hM hE hQ hR=>?_;dsimp only[cd51,qm,ql,qf,qi,qb,qc,qp,qv,qN,qT,qF,qt]at hQ ⊢
 (repeat' first|refine zaa [0,1,2,6,7,8,9,10,11,17,31] fun K hK=>?_|(refine hK.go ?_;clear hK K)|with_reducible exact wT|refine wA ?_|(refine wB (fun h=>?_) (fun h=>?_)<;>first|exact wN h|subst (h:(_:Bool)=_)|skip)|(refine wQ ?_;clear hQ hR hE hM)|fail)
 refine zcL (ι:=Nat×Nat) (fun k=>[(0,.sl 3 (l.map Section.c)),(1,.n id),(2,.fn 52 []),(8,.n l.length),(9,.n k.1),(10,.n k.2)]) (fun _=>[]) (fun k=>k.1≤k.2∧k.2≤l.length∧zha l id k.1 k.2=zha l id 0 l.length) (fun k=>k.2-k.1) (0,l.length) ⟨by omega,by omega,rfl⟩ ?_ ?_ ?_
 ·(refine no_implicit_lambda% (st ?_);try with_reducible exact wT)
  rfl
 ·(refine no_implicit_lambda% (st ?_);try with_reducible exact wT)
 rintro ⟨i,j⟩ ⟨h1,h2,hg⟩
 dsimp only at h1 h2 hg ⊢
 rcases Nat.lt_or_ge i j with hlt|hge
 ·rw[zlm hlt]at hg
  have e1:(((i:Int)+j) / 2).toNat=(i+j) / 2:=by omega
  (repeat' first|refine zaa [0,1,2,6,7,8,9,10,11,17,31] fun K hK=>?_|(refine hK.go ?_;clear hK K)|with_reducible exact wT|refine wA ?_|(refine wB (fun h=>?_) (fun h=>?_)<;>first|exact wN h|subst (h:(_:Bool)=_)|skip)|(refine wQ ?_;clear hQ hR hE hM)|(refine zau hM (zkL hH _ _) ?_;try (refine no_implicit_lambda% (st ?_);try with_reducible exact wT))|fail)
  ·simp only[e1]at h
   rw[if_pos h]at hg
   exact ⟨((i+j) / 2+1,j),by dsimp only;omega,⟨by dsimp only;omega,h2,hg⟩,(by (try dsimp only);(first|omega|(simp;done)|(simp;omega)))⟩
  ·simp only[e1]at h
   rw[if_neg (by omega)]at hg
   exact ⟨(i,(i+j) / 2),by dsimp only;omega,⟨by dsimp only;omega,by dsimp only;omega,hg⟩,(by (try dsimp only);(first|omega|(simp;done)|(simp;omega)))⟩
 ·obtain rfl:i=j:=by omega
  rw[zkb]at hg
  (repeat' first|refine zaa [0,1,2,6,7,8,9,10,11,17,31] fun K hK=>?_|(refine hK.go ?_;clear hK K)|with_reducible exact wT|refine wA ?_|(refine wB (fun h=>?_) (fun h=>?_)<;>first|exact wN h|subst (h:(_:Bool)=_)|skip)|(refine wQ ?_;clear hQ hR hE hM)|(refine zau hM (zkL hH _ _) ?_;try (refine no_implicit_lambda% (st ?_);try with_reducible exact wT))|fail)
  ·have h':zha l id 0 l.length<l.length:=by omega
   subst hg
   simp[zal,h']
  ·have h':¬zha l id 0 l.length<l.length:=by omega
   subst hg
   simp[zal,h']
theorem place_pc (hH:HasAll P inv) (l:List Section) (id:Int) (hl:l.length≤1000000000):PC P inv 46 [.sl 3 (l.map Section.c),.n id] (·=.tup [.n (zal l id).1,.b (zal l id).2]):=by
 refine PC.fn hH cd46 fun w0 M Q hM hE hQ hR=>?_;dsimp only[cd46,qm,ql,qf,qi,qb,qc,qp,qv,qN,qT,qF,qt]at hQ ⊢
 (repeat' first|refine zaa [0,1,4,5] fun K hK=>?_|(refine hK.go ?_;clear hK K)|with_reducible exact wT|refine wA ?_|(refine wB (fun h=>?_) (fun h=>?_)<;>first|exact wN h|subst (h:(_:Bool)=_)|skip)|(refine wQ ?_;clear hQ hR hE hM)|(refine zau hM (bs_pc hH _ _ (by omega)) ?_;try (refine no_implicit_lambda% (st ?_);try with_reducible exact wT))|fail)
def zdA (id:Int) (k:Nat):List Section→Int
 |[]=>-1
 |x::r=>if x.id=id then k else zdA id (k+1) r
theorem zlp (hH:HasAll P inv) (l:List Section) (id:Int) (hl:l.length≤1000000000):PC P inv 49 [.sl 3 (l.map Section.c),.n id] (·=.n (zdA id 0 l)):=by
 refine PC.fn hH cd49 fun w0 M Q hM hE hQ hR=>?_;dsimp only[cd49,qm,ql,qf,qi,qb,qc,qp,qv,qN,qT,qF,qt]at hQ ⊢
 (repeat' first|refine zaa [0,1,4,5,9,18] fun K hK=>?_|(refine hK.go ?_;clear hK K)|with_reducible exact wT|refine wA ?_|(refine wB (fun h=>?_) (fun h=>?_)<;>first|exact wN h|subst (h:(_:Bool)=_)|skip)|(refine wQ ?_;clear hQ hR hE hM)|fail)
 refine zcL (fun k:Nat=>[(0,.sl 3 (l.map Section.c)),(1,.n id),(5,.n k)]) (fun _=>[]) (fun k=>k≤l.length∧zdA id k (l.drop k)=zdA id 0 l) (fun k=>l.length-k) 0 ⟨Nat.zero_le _,rfl⟩ ?_ ?_ ?_
 ·(refine no_implicit_lambda% (st ?_);try with_reducible exact wT)
  rfl
 ·(refine no_implicit_lambda% (st ?_);try with_reducible exact wT)
 rintro k ⟨hk,hg⟩
 rcases Nat.lt_or_ge k l.length with hlt|hge
 ·rw[zae hlt]at hg
  rw[zdA]at hg
  (repeat' first|refine zaa [0,1,4,5,9,18] fun K hK=>?_|(refine hK.go ?_;clear hK K)|with_reducible exact wT|refine wA ?_|(refine wB (fun h=>?_) (fun h=>?_)<;>first|exact wN h|subst (h:(_:Bool)=_)|skip)|(refine wQ ?_;clear hQ hR hE hM)|fail)
  ·rw[if_pos h]at hg;exact hg
  ·rw[if_neg h]at hg;exact ⟨k+1,by omega,⟨by omega,hg⟩,by simp⟩
 ·obtain rfl:k=l.length:=by omega
  rw[List.drop_length]at hg
  (repeat' first|refine zaa [0,1,4,5,9,18] fun K hK=>?_|(refine hK.go ?_;clear hK K)|with_reducible exact wT|refine wA ?_|(refine wB (fun h=>?_) (fun h=>?_)<;>first|exact wN h|subst (h:(_:Bool)=_)|skip)|(refine wQ ?_;clear hQ hR hE hM)|fail)
  exact hg
end Go.Lev
namespace Go.Lev
open Go.Eng
set_option maxRecDepth 10000
set_option maxHeartbeats 4000000
variable {P:Program} {inv:Nat→Option Nat}
def zfY (pt:Int):List Int:=if pt=0 then [0,3,0,3,0,0,0,0,0] else [0,1,2,1,0,0,2,0,0]
theorem ways_pc (hH:HasAll P inv) (s:Section):PC P inv 42 [.agg s.c] (·=.agg ((zfY s.pt).map AV.n)):=by
 refine PC.fn hH cd42 fun w0 M Q hM hE hQ hR=>?_;dsimp only[cd42,qm,ql,qf,qi,qb,qc,qp,qv,qN,qT,qF,qt]at hQ ⊢
 (repeat' first|refine zaa [0,1,2,5] fun K hK=>?_|(refine hK.go ?_;clear hK K)|with_reducible exact wT|refine wA ?_|(refine wB (fun h=>?_) (fun h=>?_)<;>first|exact wN h|subst (h:(_:Bool)=_)|skip)|(refine wQ ?_;clear hQ hR hE hM)|fail)
 all_goals (first|rfl|(grind[zfY])|(simp[zfY, *];done)|(simp_all [zfY];done)|(simp_all [zfY]<;>first|omega|((repeat' split)<;>first|rfl|(exfalso;omega))))
def zbv (s:Section):Bool:=if s.pt=0 then decide ((s.ends.length:Int)=2) else decide (1≤s.pt)&&decide (s.pt≤99)&&decide ((s.ends.length:Int)=3)
theorem znG (hH:HasAll P inv) (s:Section):PC P inv 43 [.agg s.c] (·=.b (zbv s)):=by
 refine PC.fn hH cd43 fun w0 M Q hM hE hQ hR=>?_;dsimp only[cd43,qm,ql,qf,qi,qb,qc,qp,qv,qN,qT,qF,qt]at hQ ⊢
 (repeat' first|refine zaa [0,1,2,5] fun K hK=>?_|(refine hK.go ?_;clear hK K)|with_reducible exact wT|refine wA ?_|(refine wB (fun h=>?_) (fun h=>?_)<;>first|exact wN h|subst (h:(_:Bool)=_)|skip)|(refine wQ ?_;clear hQ hR hE hM)|fail)
 all_goals (first|rfl|(grind[zbv])|(simp[zbv, *];done)|(simp_all [zbv];done)|(simp_all [zbv]<;>first|omega|((repeat' split)<;>first|rfl|(exfalso;omega))))
def zhG (s:Section) (f t:Int):Int:=if s.pt=0 then (if f=0∧t=1∨f=1∧t=0 then 0 else -1) else if f=0∧(t=1∨t=2) then t else if t=0∧(f=1∨f=2) then f else -1
theorem zoY (hH:HasAll P inv) (s:Section) (f t:Int):PC P inv 44 [.agg s.c,.n f,.n t] (·=.n (zhG s f t)):=by
 refine PC.fn hH cd44 fun w0 M Q hM hE hQ hR=>?_;dsimp only[cd44,qm,ql,qf,qi,qb,qc,qp,qv,qN,qT,qF,qt]at hQ ⊢
 (repeat' first|refine zaa [0,1,2,3,6,9,23,33,44] fun K hK=>?_|(refine hK.go ?_;clear hK K)|with_reducible exact wT|refine wA ?_|(refine wB (fun h=>?_) (fun h=>?_)<;>first|exact wN h|subst (h:(_:Bool)=_)|skip)|(refine wQ ?_;clear hQ hR hE hM)|fail)
 all_goals (first|rfl|(grind[zhG])|(simp[zhG, *];done)|(simp_all [zhG];done)|(simp_all [zhG]<;>first|omega|((repeat' split)<;>first|rfl|(exfalso;omega))))
def idxGo (v:Int) (k:Nat):List Int→Int
 |[]=>-1
 |x::r=>if v=x then k else idxGo v (k+1) r
end Go.Lev
namespace Go.Lev
open Go.Eng
set_option maxRecDepth 10000
set_option maxHeartbeats 4000000
variable {P:Program} {inv:Nat→Option Nat}
def rGreat (l:List Section):Bool:=(l.take 40).any (fun s=>decide (20<(s.ends.length:Int)))||decide (40<(l.length:Int))
def rSame (a b:Section):Bool:=decide (a.id=b.id)&&decide (a.pt=b.pt)&&decide (a.ends=b.ends)
def routGo (s:Section) (f lie:Int):Nat→Nat→AV
 |_,0=>.tup [.n 0,.n 2]
 |k,m+1=>if zhG s f k=lie then .tup [.n k,.n 0] else routGo s f lie (k+1) m
end Go.Lev
namespace Go.Lev
open Go.Eng
set_option maxRecDepth 10000
set_option maxHeartbeats 4000000
variable {P:Program} {inv:Nat→Option Nat}
def zc4 (pt f t:Int):Int:=if pt=0 then (if f=0∧t=1∨f=1∧t=0 then 3 else 0) else if f=0∧(t=1∨t=2) then t else if t=0∧(f=1∨f=2) then f else 0
theorem zdD {f:Int} (h:0≤f∧f≤2):f=0∨f=1∨f=2:=by omega
theorem seg_ways {pt f t:Int} (h:0≤f∧f≤2) (h':0≤t∧t≤2):(((((zfY pt).map AV.n).drop (f.toNat*3)).take 3))[t.toNat]?=some (.n (zc4 pt f t)):=by
 rcases zdD h with rfl|rfl|rfl<;>rcases zdD h' with rfl|rfl|rfl<;>by_cases hp:pt=0<;>simp[zfY,zc4,hp]
theorem zoS (pt:Int):(((zfY pt).map AV.n).take 3)=[zc4 pt 0 0,zc4 pt 0 1,zc4 pt 0 2].map AV.n:=by by_cases hp:pt=0<;>simp[zfY,zc4,hp]
theorem zoR (pt:Int):((((zfY pt).map AV.n).drop 3).take 3)=[zc4 pt 1 0,zc4 pt 1 1,zc4 pt 1 2].map AV.n:=by by_cases hp:pt=0<;>simp[zfY,zc4,hp]
theorem zoQ (pt:Int):((((zfY pt).map AV.n).drop 6).take 3)=[zc4 pt 2 0,zc4 pt 2 1,zc4 pt 2 2].map AV.n:=by by_cases hp:pt=0<;>simp[zfY,zc4,hp]
attribute [local go_sem] seg_ways zoS zoR zoQ
def zja (s:Section) (f t:Int):AV:=if zcC s=true then (if f<0∨2<f∨t<0∨2<t∨zc4 s.pt f t=0 then .tup [.n 0,.n 2] else .tup [.n ((zc4 s.pt f t).tmod 3),.n 0]) else .tup [.n 0,.n 8]
theorem znv (hH:HasAll P inv) (s:Section) (f t:Int):PC P inv 16 [.agg s.c,.n f,.n t] (·=zja s f t):=by
 refine PC.fn hH cd16 fun w0 M Q hM hE hQ hR=>?_;dsimp only[cd16,qm,ql,qf,qi,qb,qc,qp,qv,qN,qT,qF,qt]at hQ ⊢
 (repeat' first|refine zaa [0,1,2,3,6,7,10,33] fun K hK=>?_|(refine hK.go ?_;clear hK K)|with_reducible exact wT|refine wA ?_|(refine wB (fun h=>?_) (fun h=>?_)<;>first|exact wN h|subst (h:(_:Bool)=_)|skip)|(refine wQ ?_;clear hQ hR hE hM)|(refine zau hM (zko hH _) ?_;try (refine no_implicit_lambda% (st ?_);try with_reducible exact wT))|(refine zau hM (ways_pc hH _) ?_;try (refine no_implicit_lambda% (st ?_);try with_reducible exact wT))|fail)
 all_goals (unfold zja;simp only[*,if_true,if_false,true_or,or_true,reduceCtorEq,Bool.false_eq_true])
 rw[if_neg (by rintro (a|a|a|a|a)<;>first|omega|contradiction)]
def outL (s:Section) (f lie:Int):Int:=idxGo (if s.pt=0∧lie=0 then 3 else lie) 0 [zc4 s.pt f 0,zc4 s.pt f 1,zc4 s.pt f 2]
def outV (s:Section) (f lie:Int):AV:=if zcC s=true then (if f<0∨2<f∨lie<0∨2<lie then .tup [.n 0,.n 2] else if (¬s.pt=0∧lie=0)∨outL s f lie<0 then .tup [.n 0,.n 2] else .tup [.n (outL s f lie),.n 0]) else .tup [.n 0,.n 8]
end Go.Lev
namespace Go.Lev
open Go.Eng
set_option maxRecDepth 10000
set_option maxHeartbeats 4000000
variable {P:Program} {inv:Nat→Option Nat}
theorem zkc (id:Int):∀ (r:List Section) (k:Nat),zdA id k r=-1∨((k:Int)≤zdA id k r∧zdA id k r<k+r.length)
 |[],k=>.inl rfl
 |x::r,k=>by
  unfold zdA
  split
  ·right;simp only[List.length_cons];omega
  ·have:=zkc id r (k+1)
   simp only[List.length_cons]
   omega
def zct (l:List Section) (s:Section) (e:Nat):Bool :=
 if (nth s.ends e).to=0∧(nth s.ends e).ed=0 then true
 else if zdA (nth s.ends e).to 0 l<0∨(nth s.ends e).ed<0∨((nth l (zdA (nth s.ends e).to 0 l).toNat).ends.length:Int)≤(nth s.ends e).ed∨((nth s.ends e).to=s.id∧(nth s.ends e).ed=(e:Int)) then false
 else decide ((nth (nth l (zdA (nth s.ends e).to 0 l).toNat).ends (nth s.ends e).ed.toNat).to=s.id)&&decide ((nth (nth l (zdA (nth s.ends e).to 0 l).toNat).ends (nth s.ends e).ed.toNat).ed=(e:Int))
theorem znI (hH:HasAll P inv) (l:List Section) (s:Section) (e:Nat) (he:e<s.ends.length) (hl:l.length≤1000000000):PC P inv 54 [.sl 3 (l.map Section.c),.agg s.c,.n e] (·=.b (zct l s e)):=by
 have hb:=zkc (nth s.ends e).to l 0
 refine PC.fn hH cd54 fun w0 M Q hM hE hQ hR=>?_;dsimp only[cd54,qm,ql,qf,qi,qb,qc,qp,qv,qN,qT,qF,qt]at hQ ⊢
 (repeat' first|refine zaa [0,1,2,4,6,7,8,9,22,57] fun K hK=>?_|(refine hK.go ?_;clear hK K)|with_reducible exact wT|refine wA ?_|(refine wB (fun h=>?_) (fun h=>?_)<;>first|exact wN h|subst (h:(_:Bool)=_)|skip)|(refine wQ ?_;clear hQ hR hE hM)|(refine zau hM (zlp hH _ _ hl) ?_;try (refine no_implicit_lambda% (st ?_);try with_reducible exact wT))|fail)
 all_goals (first|rfl|(grind[zct])|(simp[zct, *];done)|(simp_all [zct];done)|(simp_all [zct]<;>first|omega|((repeat' split)<;>first|rfl|(exfalso;omega))))
end Go.Lev
namespace Go.Lev
open Go.Eng
set_option maxRecDepth 10000
set_option maxHeartbeats 4000000
variable {P:Program} {inv:Nat→Option Nat}
def ziJ (s x:Section):Bool:=decide (s.id≤x.id)||(!decide (s.pt=0)&&decide (x.pt=s.pt))
def rOk (pre:List Section) (s:Section):Bool:=!(decide (s.id<1)||decide (99<s.id)||!zbv s)&&pre.all fun x=>!ziJ s x
def zgR (pre:List Section):List Section→Bool
 |[]=>true
 |s::r=>rOk pre s&&zgR (pre++[s]) r
def znN (l:List Section):Bool:=l.all fun s=>zbO (zct l s) 0 s.ends.length
def zb6 (l:List Section):Bool:=!decide (16<(l.length:Int))&&zgR [] l&&znN l
end Go.Lev
namespace Go.Lev
open Go.Eng
set_option maxRecDepth 10000
set_option maxHeartbeats 4000000
variable {P:Program} {inv:Nat→Option Nat}
theorem zfl {s:Section} (h:zcC s=true):0≤s.pt∧s.pt≤99∧s.ends.length≤3:=by
 unfold zcC zcf at h
 simp at h
 omega
theorem zm0 {l:List Section} {id:Int} (h:(zal l id).2=true):(zal l id).1<l.length:=by
 unfold zal at h ⊢
 simp at h
 exact h.1
def zi0 (l:List Section) (k:Nat) (pts:List Bool) (s:Section):Bool:=!zcf s.id||!zcC s||(decide (0<(k:Int))&&decide (s.id≤(nth l ((k:Int)-1).toNat).id))||nth pts s.pt.toNat
def ck1 (l:List Section) (k:Nat) (pts:List Bool):List Section→Bool
 |[]=>true
 |s::r=>!zi0 l k pts s&&ck1 l (k+1) (pts.set s.pt.toNat (decide (0<s.pt))) r
def ziy (l:List Section) (s:Section) (e:Nat):Bool :=
 if (nth s.ends e).to=0∧(nth s.ends e).ed=0 then true
 else !(!(zal l (nth s.ends e).to).2||(decide ((nth s.ends e).to=s.id)&&decide ((nth s.ends e).ed=(e:Int)))||decide ((nth s.ends e).ed<0)||decide (((nth l (zal l (nth s.ends e).to).1).ends.length:Int)≤(nth s.ends e).ed)
  || !(decide ((nth (nth l (zal l (nth s.ends e).to).1).ends (nth s.ends e).ed.toNat).to=s.id)&&decide ((nth (nth l (zal l (nth s.ends e).to).1).ends (nth s.ends e).ed.toNat).ed=(e:Int))))
def ck2 (l:List Section):Bool:=l.all fun s=>zbO (ziy l s) 0 s.ends.length
def zdY (l:List Section):Int:=if 16<(l.length:Int) then 8 else if ck1 l 0 (List.replicate 100 false) l&&ck2 l then 0 else 8
theorem check_pc (hH:HasAll P inv) (l:List Section) (hl:l.length≤1000000000) (he:∀ s∈l,s.ends.length≤9223372036854775807):PC P inv 26 [.sl 3 (l.map Section.c)] (·=.n (zdY l)):=by
 refine PC.fn hH cd26 fun w0 M Q hM hE hQ hR=>?_;dsimp only[cd26,qm,ql,qf,qi,qb,qc,qp,qv,qN,qT,qF,qt]at hQ ⊢
 (repeat' first|refine zaa [0,2,3,4,5,7,8,9,10,11,12,15,16,17,18,19,25,29,52,60,61,62,63,67,68,69,70,76,123] fun K hK=>?_|(refine hK.go ?_;clear hK K)|with_reducible exact wT|refine wA ?_|(refine wB (fun h=>?_) (fun h=>?_)<;>first|exact wN h|subst (h:(_:Bool)=_)|skip)|(refine wQ ?_;clear hQ hR hE hM)|fail)
 ·simp[zdY,h]
 refine zcL (ι:=Nat×List Bool) (fun k=>[(0,.sl 3 (l.map Section.c)),(3,.ptr 0 100 0),(16,.sl 3 (l.map Section.c)),(17,.n l.length),(18,.n k.1)]) (fun k=>[(0,.cells (k.2.map .b) true)]) (fun k=>k.1≤l.length∧k.2.length=100∧ck1 l k.1 k.2 (l.drop k.1)=ck1 l 0 (List.replicate 100 false) l) (fun k=>l.length-k.1) (0,List.replicate 100 false) ⟨Nat.zero_le _,by simp,rfl⟩ (by (try dsimp only);(refine no_implicit_lambda% (st ?_);try with_reducible exact wT)<;>omega) ?_ ?_
 ·(refine no_implicit_lambda% (st ?_);try with_reducible exact wT)
  simp
 ·rintro ⟨k,pts⟩ ⟨hk,hp,hg⟩
  dsimp only at hk hp hg ⊢
  rcases Nat.lt_or_ge k l.length with hlt|hge
  ·rw[zae hlt]at hg
   rw[ck1]at hg
   have hs:=he _ (zab hlt)
   have c:=zko hH (nth l k)
   cases hsh:zcC (nth l k)<;>rw[hsh]at c
   ·(repeat' first|refine zaa [0,2,3,4,5,7,8,9,10,11,12,15,16,17,18,19,25,29,52,60,61,62,63,67,68,69,70,76,123] fun K hK=>?_|(refine hK.go ?_;clear hK K)|with_reducible exact wT|refine wA ?_|(refine wB (fun h=>?_) (fun h=>?_)<;>first|exact wN h|subst (h:(_:Bool)=_)|skip)|(refine wQ ?_;clear hQ hR hE hM)|(refine zau hM (ze5 hH _) ?_;try (refine no_implicit_lambda% (st ?_);try with_reducible exact wT))|refine wC c ?_|fail)
    all_goals (grind[zdY,zi0])
   ·have hbd:=zfl hsh
    (have hX:=@hp;(repeat' first|refine zaa [0,2,3,4,5,7,8,9,10,11,12,15,16,17,18,19,25,29,52,60,61,62,63,67,68,69,70,76,123] fun K hK=>?_|(refine hK.go ?_;clear hK K)|with_reducible exact wT|refine wA ?_|(refine wB (fun h=>?_) (fun h=>?_)<;>first|exact wN h|subst (h:(_:Bool)=_)|skip)|(refine wQ ?_;clear hQ hR hE hM)|(refine zau hM (ze5 hH _) ?_;try (refine no_implicit_lambda% (st ?_);try with_reducible exact wT))|refine wC c ?_|fail);all_goals clear hX)
    all_goals (first
     |(refine ⟨(k+1,pts.set (nth l k).pt.toNat (decide (0<(nth l k).pt))),by dsimp only;omega,⟨by dsimp only;omega,by simp[hp],by grind[zi0]⟩,by simp,by simp[List.map_set]⟩)
     |(grind[zdY,zi0]))
  ·rw[List.drop_eq_nil_of_le hge,ck1]at hg
   (repeat' first|refine zaa [0,2,3,4,5,7,8,9,10,11,12,15,16,17,18,19,25,29,52,60,61,62,63,67,68,69,70,76,123] fun K hK=>?_|(refine hK.go ?_;clear hK K)|with_reducible exact wT|refine wA ?_|(refine wB (fun h=>?_) (fun h=>?_)<;>first|exact wN h|subst (h:(_:Bool)=_)|skip)|(refine wQ ?_;clear hQ hR hE hM)|fail)
   refine zb8 (fun k=>[(0,.sl 3 (l.map Section.c)),(60,.sl 3 (l.map Section.c)),(61,.n l.length),(62,.n k)]) (fun k=>[]) (l.length) (fun k=>(l.drop k).all (fun s=>zbO (ziy l s) 0 s.ends.length)=ck2 l) ?_;rintro k ⟨hk,hg⟩;rcases Nat.lt_or_ge k l.length with hlt|hge
   ·rw[zae hlt]at hg
    rw[List.all_cons]at hg
    have hs:=he _ (zab hlt)
    (repeat' first|refine zaa [0,2,3,4,5,7,8,9,10,11,12,15,16,17,18,19,25,29,52,60,61,62,63,67,68,69,70,76,123] fun K hK=>?_|(refine hK.go ?_;clear hK K)|with_reducible exact wT|refine wA ?_|(refine wB (fun h=>?_) (fun h=>?_)<;>first|exact wN h|subst (h:(_:Bool)=_)|skip)|(refine wQ ?_;clear hQ hR hE hM)|fail)
    refine zcL (fun j:Nat=>[(0,.sl 3 (l.map Section.c)),(60,.sl 3 (l.map Section.c)),(61,.n l.length),(62,.n k),(7,.ptr 0 3 0),(67,.sl 2 ((nth l k).ends.map Join.c)),(68,.n (nth l k).ends.length),(69,.n j)]) (fun _=>[(0,.cells (nth l k).c true)]) (fun j=>j≤(nth l k).ends.length∧zbO (ziy l (nth l k)) j ((nth l k).ends.length-j)=zbO (ziy l (nth l k)) 0 (nth l k).ends.length) (fun j=>(nth l k).ends.length-j) 0 ⟨Nat.zero_le _,rfl⟩ (by (try dsimp only);(refine no_implicit_lambda% (st ?_);try with_reducible exact wT)<;>omega) (by (try dsimp only);(refine no_implicit_lambda% (st ?_);try with_reducible exact wT)<;>omega) ?_
    rintro j ⟨hj,hi⟩
    rcases Nat.lt_or_ge j (nth l k).ends.length with hjk|hjk
    ·rw[zgK hjk]at hi
     have c:=place_pc hH l (nth (nth l k).ends j).to hl
     cases hpl:(zal l (nth (nth l k).ends j).to).2<;>rw[hpl]at c
     ·(repeat' first|refine zaa [0,2,3,4,5,7,8,9,10,11,12,15,16,17,18,19,25,29,52,60,61,62,63,67,68,69,70,76,123] fun K hK=>?_|(refine hK.go ?_;clear hK K)|with_reducible exact wT|refine wA ?_|(refine wB (fun h=>?_) (fun h=>?_)<;>first|exact wN h|subst (h:(_:Bool)=_)|skip)|(refine wQ ?_;clear hQ hR hE hM)|refine wC c ?_|fail)
      all_goals (first|(refine ⟨j+1,by omega,⟨by omega,by grind[zdY,ziy]⟩,(by (try dsimp only);(first|omega|(simp;done)|(simp;omega)))⟩)|(grind[zdY,ziy]))
     ·have hpt:=zm0 hpl
      have hs2:=he _ (zab hpt)
      (repeat' first|refine zaa [0,2,3,4,5,7,8,9,10,11,12,15,16,17,18,19,25,29,52,60,61,62,63,67,68,69,70,76,123] fun K hK=>?_|(refine hK.go ?_;clear hK K)|with_reducible exact wT|refine wA ?_|(refine wB (fun h=>?_) (fun h=>?_)<;>first|exact wN h|subst (h:(_:Bool)=_)|skip)|(refine wQ ?_;clear hQ hR hE hM)|refine wC c ?_|fail)
      all_goals (first|(refine ⟨j+1,by omega,⟨by omega,by grind[zdY,ziy]⟩,(by (try dsimp only);(first|omega|(simp;done)|(simp;omega)))⟩)|(grind[zdY,ziy]))
    ·rw[zio hjk]at hi
     (repeat' first|refine zaa [0,2,3,4,5,7,8,9,10,11,12,15,16,17,18,19,25,29,52,60,61,62,63,67,68,69,70,76,123] fun K hK=>?_|(refine hK.go ?_;clear hK K)|with_reducible exact wT|refine wA ?_|(refine wB (fun h=>?_) (fun h=>?_)<;>first|exact wN h|subst (h:(_:Bool)=_)|skip)|(refine wQ ?_;clear hQ hR hE hM)|fail)
     all_goals (first|(refine ⟨k+1,by omega,⟨by omega,by grind[zdY]⟩,(by (try dsimp only);(first|omega|(simp;done)|(simp;omega)))⟩)|(grind[zdY]))
   ·rw[List.drop_eq_nil_of_le hge,List.all_nil]at hg
    (repeat' first|refine zaa [0,2,3,4,5,7,8,9,10,11,12,15,16,17,18,19,25,29,52,60,61,62,63,67,68,69,70,76,123] fun K hK=>?_|(refine hK.go ?_;clear hK K)|with_reducible exact wT|refine wA ?_|(refine wB (fun h=>?_) (fun h=>?_)<;>first|exact wN h|subst (h:(_:Bool)=_)|skip)|(refine wQ ?_;clear hQ hR hE hM)|fail)
    all_goals (first|rfl|(grind[zdY])|(simp[zdY, *];done)|(simp_all [zdY];done)|(simp_all [zdY]<;>first|omega|((repeat' split)<;>first|rfl|(exfalso;omega))))
end Go.Lev
namespace Go.Lev
open Go.Eng
set_option maxRecDepth 10000
set_option maxHeartbeats 4000000
variable {P:Program} {inv:Nat→Option Nat}
def zhH (l:List Section):Int:=if zb6 l=true then 0 else 8
def zfA:Section:=⟨0,0,[]⟩
def rFind (l:List Section) (id:Int):Section×Int:=if zb6 l=true then (if zdA id 0 l<0 then (zfA,6) else (nth l (zdA id 0 l).toNat,0)) else (zfA,8)
def find (l:List Section) (id:Int):Section×Int:=if zdY l=0 then (if (zal l id).2=true then (nth l (zal l id).1,0) else (zfA,6)) else (zfA,zdY l)
end Go.Lev
