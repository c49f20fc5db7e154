/-
  A part of the engine that walks the functions' codes, and of the functions' contracts. Conditions: those that each theorem names.
-/
import Derived.Test.YtibpmipffibbpaaGreatV1
import Derived.IntWalk
set_option linter.unusedSimpArgs false
set_option linter.unusedVariables false
set_option linter.unusedSectionVars false
namespace Go.Eng
open Go.RowKit
section
variable {P:Program} {inv:Nat->Option Nat} {w0:World} {M:Nat->Prop} {n N:Nat} {φ:AF} {σ:AS} {β:Nat->Nat} {a:Act} {w:World}
theorem Mem.empty (hm:Mem inv w0 M σ β w) {l:Nat} (hl:zbe σ<=l):Mem inv w0 M (za8 σ l (.cells [] false)) β w/\∀ K,K<=l->Ext K (ctx inv M σ β w) (ctx inv M (za8 σ l (.cells [] false)) β w):=by
 have hg:∀ k,k≠l->zaF (za8 σ l (.cells [] false)) k=zaF σ k:=fun k hk=>by rw[zal,if_neg hk]
 have hgl:zaF (za8 σ l (.cells [] false)) l=some (.cells [] false):=by rw[zal,if_pos rfl]
 have hreal:∀ k o,zaF (za8 σ l (.cells [] false)) k=some o->o.real=true->zaF σ k=some o:=by
  intro k o e hr
  by_cases hk:k=l
  ·subst hk;rw[hgl]at e;cases e;cases hr
  ·rw[hg k hk]at e;exact e
 have hav:∀ b,avoid M (za8 σ l (.cells [] false)) β b->avoid M σ β b:=by
  rintro b (h|⟨k,o,e,hr,hb⟩)
  ·exact .inl h
  ·exact .inr ⟨k,o,hreal k o e hr,hr,hb⟩
 have hx:∀ K,K<=l->Ext K (ctx inv M σ β w) (ctx inv M (za8 σ l (.cells [] false)) β w):=fun K hK =>
  ⟨⟨rfl,Nat.le_refl _,fun _ _ _=>rfl,fun b _ h=>hav b h⟩,fun k hk p' hp'=>⟨p',by
   have hp':zan β w (za8 σ l (.cells [] false)) k=some p':=hp'
   show zan β w σ k=some p'
   unfold zan at hp' |-
   rw[hg k (by omega)]at hp'
   exact hp',Nat.le_refl _,fun _=>rfl⟩⟩
 refine ⟨⟨hm.below,fun k k' o o' e e' hr hr' hb=>hm.inj k k' o o' (hreal k o e hr) (hreal k' o' e' hr') hr hr' hb,fun k o e hr=>hm.own k o (hreal k o e hr) hr,fun k cs e=>?_,fun k cs e=>?_,fun k kvs e=>?_⟩,hx⟩
 ·obtain ⟨xs,ty,e1,e2,e3⟩:=hm.cells k cs (hreal k _ e rfl)
  have hb:=(zaG σ k _ (hreal k _ e rfl)).2
  exact ⟨xs,ty,e1,e2,(hx l (Nat.le_refl _)).relCs (zau cs (Nat.le_trans hb hl)) e3⟩
 ·by_cases hk:k=l
  ·subst hk;rw[hgl]at e;cases e;rfl
  ·rw[hg k hk]at e;exact hm.ghost k cs e
 ·exact hm.maps k kvs (hreal k _ e rfl)
theorem zhU {l sz:Nat} {x:Value} (h:rel (ctx inv M σ β w) (.s0 sz) x):rel (ctx inv M (za8 σ l (.cells [] false)) β w) (.sm l 0 0 0 sz) x:=by
 simp only[rel]at h |-
 obtain ⟨ad,rfl⟩:=h
 refine ⟨rfl,fun p hp=>?_⟩
 have hp:zan β w (za8 σ l (.cells [] false)) l=some p:=hp
 unfold zan at hp
 rw[zal,if_pos rfl]at hp
 simp only[Option.some.injEq]at hp
 subst hp
 exact ⟨Nat.le_refl _,fun _=>⟨by simp,ad,0,rfl,Nat.le_refl _,by simp⟩⟩
theorem AWp.empty {c:ACode} {Q:Exit->AF->AS->Prop} (t l sz:Nat) (ht:zbs φ t=.s0 sz) (h1:N<=l) (h2:zaS φ<=l) (h3:zbe σ<=l)
  (h:AWp P inv w0 M N n c Q (zbE φ t (.sm l 0 0 0 sz)) (za8 σ l (.cells [] false))):AWp P inv w0 M N n c Q φ σ:=by
 intro c₀ hc β a w hs
 obtain ⟨hm,hx⟩:=hs.mem.empty h3
 refine Code.wp_mono ?_ (h c₀ hc β a w ⟨⟨fun i=>?_,hm⟩,hs.size,hs.defers⟩)
 ·rintro e a' w' ⟨φ2,σ2,β2,q2,hst2,hext2⟩
  exact ⟨φ2,σ2,β2,q2,hst2,(hx N h1).trans hext2⟩
 ·rw[zbV]
  split
  ·rename_i e
   subst e
   have:=hs.slots i
   rw[ht]at this
   exact zhU this
  ·exact (hx l (Nat.le_refl _)).rel (zaO _ (Nat.le_trans (zbQ φ i) h2)) (hs.slots i)
mutual
def rnV (f:Nat->Nat):AV->AV
 |.agg cs=>.agg (rnL f cs)
 |.tup cs=>.tup (rnL f cs)
 |.fn j cs=>.fn j (rnL f cs)
 |.ptr l ver off=>.ptr (f l) ver off
 |.sm l ver off n sz=>.sm (f l) ver off n sz
 |.mp l=>.mp (f l)
 |.i k n=>.i k n
 |.b t=>.b t
 |.v x=>.v x
 |.u=>.u
 |.s0 sz=>.s0 sz
 |.sl sz es=>.sl sz es
 |.ip sz es i k=>.ip sz es i k
 |.top=>.top
def rnL (f:Nat->Nat):List AV->List AV
 |[]=>[]
 |x::xs=>rnV f x::rnL f xs
end
def rnO (f:Nat->Nat):AO->AO
 |.cells cs r=>.cells (rnL f cs) r
 |.imap kvs=>.imap kvs
 |.rsv=>.rsv
def rnS (f:Nat->Nat):List (Nat×AO)->List (Nat×AO)
 |[]=>[]
 |(l,o)::r=>(f l,rnO f o)::rnS f r
def rnF (f:Nat->Nat):List (Nat×AV)->List (Nat×AV)
 |[]=>[]
 |(i,x)::r=>(i,rnV f x)::rnF f r
def swN (a b l:Nat):Nat:=if l=a then b else if l=b then a else l
theorem zpx (a b l:Nat):swN a b (swN a b l)=l:=by unfold swN;grind
theorem zeI (f:Nat->Nat):∀ xs:List AV,(rnL f xs).length=xs.length
 |[]=>rfl
 |x::xs=>by simp[rnL,zeI f xs]
theorem zj7 (f:Nat->Nat) (o:AO):(rnO f o).real=o.real:=by cases o<;>rfl
theorem zn5 (f:Nat->Nat):∀ (φ:AF) (i:Nat),zbs (rnF f φ) i=rnV f (zbs φ i)
 |[],i=>rfl
 |(j,x)::r,i=>by
  simp only[rnF,zbs]
  split
  ·rfl
  ·exact zn5 f r i
theorem znq {f:Nat->Nat} (hf:∀ l,f (f l)=l):∀ (σ:AS) (l:Nat),zaF (rnS f σ) (f l)=(zaF σ l).map (rnO f)
 |[],l=>rfl
 |(k,o)::r,l=>by
  simp only[rnS,zaF,znq hf r l]
  by_cases h:l=k
  ·subst h;simp
  ·rw[if_neg (fun e=>h (by rw[<-hf l,e,hf])),if_neg h]
mutual
theorem zp7 {c c':Ctx} (hle:c.Le c') (f:Nat->Nat) (hS:∀ l,c'.S (f l)=c.S l):∀ (x:AV) (y:Value),rel c x y->rel c' (rnV f x) y
 |.agg cs,y,r=>by
  simp only[rel,rnV]at r |-
  obtain ⟨xs,e,r⟩:=r
  exact ⟨xs,e,zke hle f hS cs _ r⟩
 |.tup cs,y,r=>by
  simp only[rel,rnV]at r |-
  obtain ⟨xs,e,r⟩:=r
  exact ⟨xs,e,zmu hle f hS cs _ r⟩
 |.fn j cs,y,r=>by
  simp only[rel,rnV]at r |-
  obtain ⟨g,xs,e,hi,r⟩:=r
  exact ⟨g,xs,e,by rw[hle.inv];exact hi,zmu hle f hS cs _ r⟩
 |.ptr l ver off,y,r=>by
  simp only[rel,rnV]at r |-
  rw[hS];exact r
 |.sm l ver off n sz,y,r=>by
  simp only[rel,rnV]at r |-
  rw[hS];exact r
 |.mp l,y,r=>by
  simp only[rel,rnV]at r |-
  rw[hS];exact r
 |.i k n,y,r=>by simp only[rnV];exact zaX hle rfl r
 |.b t,y,r=>by simp only[rnV];exact zaX hle rfl r
 |.v x,y,r=>by simp only[rnV];exact zaX hle rfl r
 |.u,y,r=>by simp only[rnV];exact zaX hle rfl r
 |.s0 sz,y,r=>by simp only[rnV];exact zaX hle rfl r
 |.sl sz es,y,r=>by simp only[rnV];exact zaX hle rfl r
 |.ip sz es i k,y,r=>by simp only[rnV];exact zaX hle rfl r
 |.top,y,r=>by simp only[rnV,rel]
theorem zmu {c c':Ctx} (hle:c.Le c') (f:Nat->Nat) (hS:∀ l,c'.S (f l)=c.S l):∀ (xs:List AV) (ys:List Value),zbZ c xs ys->zbZ c' (rnL f xs) ys
 |[],ys,r=>by simpa only[rnL,zbZ] using r
 |x::xs,ys,r=>by
  simp only[rnL,zbZ]at r |-
  obtain ⟨y,ys',e,r1,r2⟩:=r
  exact ⟨y,ys',e,zp7 hle f hS x y r1,zmu hle f hS xs ys' r2⟩
theorem zke {c c':Ctx} (hle:c.Le c') (f:Nat->Nat) (hS:∀ l,c'.S (f l)=c.S l):∀ (xs:List AV) (ys:List Value),relCs c xs ys->relCs c' (rnL f xs) ys
 |[],ys,r=>by simpa only[rnL,relCs] using r
 |x::xs,ys,r=>by
  simp only[rnL,relCs]at r |-
  obtain ⟨y,ys',e,ho,r1,r2⟩:=r
  exact ⟨y,ys',e,ho,zp7 hle f hS x y r1,zke hle f hS xs ys' r2⟩
end
theorem Mem.rename {f:Nat->Nat} (hf:∀ l,f (f l)=l) (hm:Mem inv w0 M σ β w):Mem inv w0 M (rnS f σ) (fun l=>β (f l)) w/\(∀ K,(∀ l,l<K->f l=l)->Ext K (ctx inv M σ β w) (ctx inv M (rnS f σ) (fun l=>β (f l)) w)) /\
  ∀ x y,rel (ctx inv M σ β w) x y->rel (ctx inv M (rnS f σ) (fun l=>β (f l)) w) (rnV f x) y:=by
 have hg:=znq hf σ
 have hg':∀ l,zaF (rnS f σ) l=(zaF σ (f l)).map (rnO f):=fun l=>by rw[<-hg (f l),hf]
 have hpl:∀ l,zan (fun l=>β (f l)) w (rnS f σ) (f l)=zan β w σ l:=fun l=>by
  unfold zan
  rw[hg l]
  cases e:zaF σ l with
  |none=>rfl
  |some o =>
   cases o with
   |rsv=>rfl
   |imap kvs=>simp only[Option.map_some,rnO,hf]
   |cells cs r=>cases r<;>simp only[Option.map_some,rnO,hf,zeI]
 have hback:∀ l o,zaF (rnS f σ) l=some o->∃ o',zaF σ (f l)=some o'/\o=rnO f o':=fun l o e=>by
  rw[hg' l]at e
  obtain ⟨o',e',rfl⟩:=Option.map_eq_some_iff.1 e
  exact ⟨o',e',rfl⟩
 have hav:∀ b,avoid M (rnS f σ) (fun l=>β (f l)) b->avoid M σ β b:=by
  rintro b (h|⟨k,o,e,hr,hb⟩)
  ·exact .inl h
  ·obtain ⟨o',e',rfl⟩:=hback k o e
   exact .inr ⟨f k,o',e',by rw[zj7]at hr;exact hr,hb⟩
 have hle:(ctx inv M σ β w).Le (ctx inv M (rnS f σ) (fun l=>β (f l)) w):=⟨rfl,Nat.le_refl _,fun _ _ _=>rfl,fun b _ h=>hav b h⟩
 refine ⟨⟨hm.below,fun k k' o o' e e' hr hr' hb=>?_,fun k o e hr=>?_,fun k cs e=>?_,fun k cs e=>?_,fun k kvs e=>?_⟩,fun K hK=>⟨hle,fun l hl p' hp'=>?_⟩,zp7 hle f hpl⟩
 ·obtain ⟨o1,e1,rfl⟩:=hback k o e
  obtain ⟨o2,e2,rfl⟩:=hback k' o' e'
  rw[zj7]at hr hr'
  have:=hm.inj _ _ _ _ e1 e2 hr hr' hb
  rw[<-hf k,this,hf]
 ·obtain ⟨o1,e1,rfl⟩:=hback k o e
  rw[zj7]at hr
  exact hm.own _ _ e1 hr
 ·obtain ⟨o1,e1,e2⟩:=hback k _ e
  cases o1 with
  |cells cs1 r1 =>
   simp only[rnO,AO.cells.injEq]at e2
   obtain ⟨rfl,rfl⟩:=e2
   obtain ⟨xs,ty,k1,k2,k3⟩:=hm.cells _ cs1 e1
   exact ⟨xs,ty,k1,by rw[zeI];exact k2,by rw[zeI];exact zke hle f hpl cs1 _ k3⟩
  |imap kvs=>simp[rnO]at e2
  |rsv=>simp[rnO]at e2
 ·obtain ⟨o1,e1,e2⟩:=hback k _ e
  cases o1 with
  |cells cs1 r1 =>
   simp only[rnO,AO.cells.injEq]at e2
   obtain ⟨rfl,rfl⟩:=e2
   rw[hm.ghost _ cs1 e1];rfl
  |imap kvs=>simp[rnO]at e2
  |rsv=>simp[rnO]at e2
 ·obtain ⟨o1,e1,e2⟩:=hback k _ e
  cases o1 with
  |imap kvs1 =>
   simp only[rnO,AO.imap.injEq]at e2
   subst e2
   exact hm.maps _ kvs e1
  |cells cs1 r1=>simp[rnO]at e2
  |rsv=>simp[rnO]at e2
 ·have hp':zan (fun l=>β (f l)) w (rnS f σ) l=some p':=hp'
  have:zan (fun l=>β (f l)) w (rnS f σ) l=zan β w σ l:=by rw[<-hpl l,hK l hl]
  refine ⟨p', ?_,Nat.le_refl _,fun _=>rfl⟩
  show zan β w σ l=some p'
  rw[<-this]
  exact hp'
def swF:List (Nat×Nat)->List (Nat×AV)->List (Nat×AV)
 |[],φ=>φ
 |(a,b)::r,φ=>swF r (rnF (swN a b) φ)
def swS:List (Nat×Nat)->List (Nat×AO)->List (Nat×AO)
 |[],σ=>σ
 |(a,b)::r,σ=>swS r (rnS (swN a b) σ)
def swOk (N:Nat):List (Nat×Nat)->Prop
 |[]=>True
 |(a,b)::r=>(N<=a/\N<=b)/\swOk N r
theorem zrT (N:Nat):∀ (sw:List (Nat×Nat)) {φ:AF} {σ:AS} {β:Nat->Nat},swOk N sw->St inv w0 M n φ σ β a w->∃ β',St inv w0 M n (swF sw φ) (swS sw σ) β' a w/\Ext N (ctx inv M σ β w) (ctx inv M (swS sw σ) β' w)
 |[],φ,σ,β,_,hs=>⟨β,hs,.refl _ _⟩
 |(x,y)::r,φ,σ,β,hok,hs=>by
  obtain ⟨h1,h2,h3⟩:=hs.mem.rename (zpx x y)
  have hst:St inv w0 M n (rnF (swN x y) φ) (rnS (swN x y) σ) (fun l=>β (swN x y l)) a w:=⟨⟨fun i=>by rw[zn5];exact h3 _ _ (hs.slots i),h1⟩,hs.size,hs.defers⟩
  obtain ⟨β',k1,k2⟩:=zrT N r hok.2 hst
  exact ⟨β',k1,(h2 N fun l hl=>by have:=hok.1;unfold swN;rw[if_neg (by omega),if_neg (by omega)]).trans k2⟩
def ends (N:Nat) (F:List (Nat×AV)) (S:List (Nat×AO)) (sw:List (Nat×Nat)) (φ:List (Nat×AV)) (σ:List (Nat×AO)):Prop:=swOk N sw/\zhf F (swF sw φ)/\zfA S (swS sw σ)
def lendR {ι:Type} (N:Nat) (F:ι->List (Nat×AV)) (S:ι->List (Nat×AO)) (Inv:ι->Prop) (μ:ι->Nat) (s:ι):List (Nat×AV)->List (Nat×AO)->Prop:=fun φ' σ'=>∃ s' sw,(μ s'<μ s/\Inv s')/\ends N (F s') (S s') sw φ' σ'
theorem zqF {ι:Type} (N:Nat) (F:ι->List (Nat×AV)) (S:ι->List (Nat×AO)) (Inv:ι->Prop) (μ:ι->Nat) (s:ι) (φ':List (Nat×AV)) (σ':List (Nat×AO)):lendR N F S Inv μ s φ' σ'=∃ s' sw,(μ s'<μ s/\Inv s')/\ends N (F s') (S s') sw φ' σ':=rfl
attribute [go_sem] zqF
theorem zrU {σ σ':AS} (h:zfA σ σ'):SLe σ σ':=fun l o e _=>zeE h l o e
theorem zrV {j:Nat} {F:AFn} (hF:Has P inv j F) {args:List AV} {r0:AV} {σ0:AS} (hl:args.length<=F.ntmps)
  (h:∀ (w0:World) (M:Nat->Prop) (Q:Exit->AF->AS->Prop),(∀ b,M b->b<w0.heap.size)->(∀ φ σ r,zed φ σ F.res=some r->(r=r0/\zfA σ0 σ)\/(∃ sz,r=.s0 sz/\r0=.sm 0 0 0 0 sz/\σ0=[(0,.cells [] false)])->Q .ret φ σ)->(∀ φ σ,Q .ret φ σ->Q .normal φ σ)->AWp P inv w0 M 0 F.ntmps F.body Q (zm8 0 args) []):PO P inv j args r0 σ0:=by
 intro w0 M hM g hg β w vs hm ha
 refine (AC.body hF hl (R:=fun r σ=>(r=r0/\zfA σ0 σ)\/(∃ sz,r=.s0 sz/\r0=.sm 0 0 0 0 sz/\σ0=[(0,.cells [] false)])) (h w0 M _ hM (fun φ σ r h1 h2=>⟨r,h1,h2⟩) fun _ _ h=>h) g hg β w vs hm ha).mono ?_
 rintro e w' ⟨v,r,σ',β',rfl,hR,hm',hx,hr⟩
 rcases hR with ⟨rfl,hs⟩|⟨sz,rfl,rfl,rfl⟩
 ·have hd:=fun N=>hm'.drop (zeE hs) N
  exact ⟨v,r,σ0,β',rfl,⟨rfl,rfl⟩,(hd 0).1,hx.trans (hd 0).2,(hd r.bound).2.rel (zaO _ (Nat.le_refl _)) hr⟩
 ·have hd:=fun N=>hm'.drop (σ':=[]) (fun l o e=>by simp[zaF]at e) N
  obtain ⟨g1,g2⟩:=(hd 0).1.empty (l:=0) (Nat.le_refl _)
  have hr0:=(hd 0).2.rel (zaO (AV.s0 sz) (Nat.le_refl _)) hr
  exact ⟨v,_,[(0,.cells [] false)],β',rfl,⟨rfl,rfl⟩,g1,hx.trans ((hd 0).2.trans (g2 0 (Nat.le_refl _))),zhU hr0⟩
end
mutual
theorem plain_sh (b:Nat):∀ x:AV,x.plain=true->shV b x=x
 |.agg cs,h=>by simp only[AV.plain]at h;simp only[shV,zh7 b cs h]
 |.i _ _,_=>rfl|.b _,_=>rfl|.v _,_=>rfl|.sl _ _,_=>rfl|.ip _ _ _ _,_=>rfl
 |.tup _,h=>by simp[AV.plain]at h
 |.u,h=>by simp[AV.plain]at h
 |.s0 _,h=>by simp[AV.plain]at h
 |.ptr _ _ _,h=>by simp[AV.plain]at h
 |.sm _ _ _ _ _,h=>by simp[AV.plain]at h
 |.fn _ _,h=>by simp[AV.plain]at h
 |.mp _,h=>by simp[AV.plain]at h
 |.top,h=>by simp[AV.plain]at h
theorem zh7 (b:Nat):∀ xs:List AV,zaC xs=true->shL b xs=xs
 |[],_=>rfl
 |x::xs,h=>by
  simp only[zaC,Bool.and_eq_true]at h
  simp only[shL,plain_sh b x h.1,zh7 b xs h.2]
end
mutual
theorem plain_rn (f:Nat->Nat):∀ x:AV,x.plain=true->rnV f x=x
 |.agg cs,h=>by simp only[AV.plain]at h;simp only[rnV,zh8 f cs h]
 |.i _ _,_=>rfl|.b _,_=>rfl|.v _,_=>rfl|.sl _ _,_=>rfl|.ip _ _ _ _,_=>rfl
 |.tup _,h=>by simp[AV.plain]at h
 |.u,h=>by simp[AV.plain]at h
 |.s0 _,h=>by simp[AV.plain]at h
 |.ptr _ _ _,h=>by simp[AV.plain]at h
 |.sm _ _ _ _ _,h=>by simp[AV.plain]at h
 |.fn _ _,h=>by simp[AV.plain]at h
 |.mp _,h=>by simp[AV.plain]at h
 |.top,h=>by simp[AV.plain]at h
theorem zh8 (f:Nat->Nat):∀ xs:List AV,zaC xs=true->rnL f xs=xs
 |[],_=>rfl
 |x::xs,h=>by
  simp only[zaC,Bool.and_eq_true]at h
  simp only[rnL,plain_rn f x h.1,zh8 f xs h.2]
end
section cells
variable {α:Type} {c:α->List AV} {sz:Nat} [h:Cells c sz]
include h
theorem flat_sh (b:Nat) (l:List α):shL b (l.map c).flatten=(l.map c).flatten:=zh7 b _ (zcH l)
theorem flat_rn (f:Nat->Nat) (l:List α):rnL f (l.map c).flatten=(l.map c).flatten:=zh8 f _ (zcH l)
theorem zf5 {l:List α} {k i:Nat} [Inhabited α] (hk:k<l.length) (hi:i<sz):(l.map c).flatten[k*sz+i]?=(c (nth l k))[i]?:=by
 have e:(l.map c).flatten[k*sz+i]?=((l.map c).flatten.drop (k*sz))[i]?:=by rw[List.getElem?_drop]
 rw[e,ziu l k (by omega),zaf hk,List.map_cons,List.flatten_cons,List.getElem?_append_left (by rw[h.len];exact hi)]
theorem zeV {l:List α} {k:Nat} [Inhabited α] (hk:k<l.length) (hs:0<sz):zcx (l.map c).flatten (k*sz) (some sz)=some (.agg (c (nth l k))):=by
 have hle:k*sz+sz<=(l.map c).flatten.length:=by
  rw[zn3]
  have:(k+1)*sz<=l.length*sz:=Nat.mul_le_mul_right _ hk
  rw[Nat.add_mul,Nat.one_mul]at this
  exact this
 show (if 0<sz/\k*sz+sz<=(l.map c).flatten.length then some (AV.agg (seg (l.map c).flatten (k*sz) sz)) else none)=_
 rw[if_pos ⟨hs,hle⟩,flat_seg l k hk,zaK hk]
theorem zbS {l:List α} {k i:Nat} [Inhabited α] (hk:k<l.length) (hi:i<sz) (x:AV) (a:α) (ha:c a=(c (nth l k)).set i x):(l.map c).flatten.set (k*sz+i) x=((l.set k a).map c).flatten:=by
 induction l generalizing k with
 |nil=>simp at hk
 |cons y l ih =>
  cases k with
  |zero =>
   simp only[Nat.zero_mul,Nat.zero_add,List.map_cons,List.flatten_cons,List.set_cons_zero]
   rw[List.set_append_left _ _ (by rw[h.len];exact hi),ha]
   rfl
  |succ k =>
   simp only[List.map_cons,List.flatten_cons,List.set_cons_succ]
   rw[List.set_append_right _ _ (by rw[h.len,Nat.add_mul];omega),h.len,show (k+1)*sz+i-sz=k*sz+i by rw[Nat.add_mul];omega]
   rw[ih (by simpa using hk) (by simpa [nth] using ha)]
end cells
attribute [go_sem] flat_sh flat_rn Nat.zero_le
attribute [go_sem high] zeV
attribute [go_sem] shV shL shO shS zkR rnV rnL rnO rnS rnF swN swF swS swOk zjh
theorem PO.fn {P:Program} {inv:Nat->Option Nat} (hH:HasAll P inv) {j:Nat} (F:AFn) {args:List AV} {r0:AV} {σ0:AS}
  (h:∀ (w0:World) (M:Nat->Prop) (Q:Exit->AF->AS->Prop),(∀ b,M b->b<w0.heap.size)->zca P inv->(∀ φ σ r,zed φ σ F.res=some r->(r=r0/\zfA σ0 σ)\/(∃ sz,r=.s0 sz/\r0=.sm 0 0 0 0 sz/\σ0=[(0,.cells [] false)])->Q .ret φ σ)->(∀ φ σ,Q .ret φ σ->Q .normal φ σ)->AWp P inv w0 M 0 F.ntmps F.body Q (zm8 0 args) []) (hF:code j=some F:=by rfl) (hl:args.length<=F.ntmps:=by exact Nat.le_of_ble_eq_true rfl):PO P inv j args r0 σ0 :=
 zrV (hH.has _ _ hF) hl fun w0 M Q hM hQ hR=>h w0 M Q hM hH.callable hQ hR
mutual
/-- The row l,whose cells are cs,as a slice that nobody writes. -/
def frV (l:Nat) (cs:List AV):AV->AV
 |.agg ds=>.agg (frL l cs ds)
 |.tup ds=>.tup (frL l cs ds)
 |.fn j ds=>.fn j (frL l cs ds)
 |.sm l' ver off n sz=>if l'=l/\ver=cs.length/\off=0 then .sl sz (zb2 sz n cs) else .sm l' ver off n sz
 |.ptr l' ver off=>.ptr l' ver off
 |.mp l'=>.mp l'
 |.i k n=>.i k n
 |.b t=>.b t
 |.v x=>.v x
 |.u=>.u
 |.s0 sz=>.s0 sz
 |.sl sz es=>.sl sz es
 |.ip sz es i k=>.ip sz es i k
 |.top=>.top
def frL (l:Nat) (cs:List AV):List AV->List AV
 |[]=>[]
 |x::xs=>frV l cs x::frL l cs xs
end
def frO (l:Nat) (cs:List AV):AO->AO
 |.cells ds r=>.cells (frL l cs ds) r
 |.imap kvs=>.imap kvs
 |.rsv=>.rsv
def frS (l:Nat) (cs:List AV):List (Nat×AO)->List (Nat×AO)
 |[]=>[]
 |(k,o)::r=>(k,frO l cs o)::frS l cs r
def frF (l:Nat) (cs:List AV):List (Nat×AV)->List (Nat×AV)
 |[]=>[]
 |(i,x)::r=>(i,frV l cs x)::frF l cs r
mutual
theorem rel_fr {c c':Ctx} {l:Nat} {cs:List AV} (hle:c.Le c') (hS:∀ k p,c'.S k=some p->c.S k=some p) (hrow:∀ (n sz:Nat) (y:Value),rel c (.sm l cs.length 0 n sz) y->rel c' (.sl sz (zb2 sz n cs)) y):∀ (x:AV) (y:Value),rel c x y->rel c' (frV l cs x) y
 |.agg ds,y,r=>by
  simp only[rel,frV]at r |-
  obtain ⟨xs,e,r⟩:=r
  exact ⟨xs,e,znD hle hS hrow ds _ r⟩
 |.tup ds,y,r=>by
  simp only[rel,frV]at r |-
  obtain ⟨xs,e,r⟩:=r
  exact ⟨xs,e,zmw hle hS hrow ds _ r⟩
 |.fn j ds,y,r=>by
  simp only[rel,frV]at r |-
  obtain ⟨g,xs,e,hi,r⟩:=r
  exact ⟨g,xs,e,by rw[hle.inv];exact hi,zmw hle hS hrow ds _ r⟩
 |.sm l' ver off n sz,y,r=>by
  simp only[frV]
  split
  ·rename_i h
   obtain ⟨rfl,rfl,rfl⟩:=h
   exact hrow n sz y r
  ·simp only[rel]at r |-
   exact ⟨r.1,fun p hp=>r.2 p (hS _ _ hp)⟩
 |.ptr l' ver off,y,r=>by
  simp only[rel,frV]at r |-
  exact ⟨r.1,fun p hp=>r.2 p (hS _ _ hp)⟩
 |.mp l',y,r=>by
  simp only[rel,frV]at r |-
  exact ⟨r.1,fun p hp=>r.2 p (hS _ _ hp)⟩
 |.i k n,y,r=>by simp only[frV];exact zaX hle rfl r
 |.b t,y,r=>by simp only[frV];exact zaX hle rfl r
 |.v x,y,r=>by simp only[frV];exact zaX hle rfl r
 |.u,y,r=>by simp only[frV];exact zaX hle rfl r
 |.s0 sz,y,r=>by simp only[frV];exact zaX hle rfl r
 |.sl sz es,y,r=>by simp only[frV];exact zaX hle rfl r
 |.ip sz es i k,y,r=>by simp only[frV];exact zaX hle rfl r
 |.top,y,r=>by simp only[frV,rel]
theorem zmw {c c':Ctx} {l:Nat} {cs:List AV} (hle:c.Le c') (hS:∀ k p,c'.S k=some p->c.S k=some p) (hrow:∀ (n sz:Nat) (y:Value),rel c (.sm l cs.length 0 n sz) y->rel c' (.sl sz (zb2 sz n cs)) y):∀ (xs:List AV) (ys:List Value),zbZ c xs ys->zbZ c' (frL l cs xs) ys
 |[],ys,r=>by simpa only[frL,zbZ] using r
 |x::xs,ys,r=>by
  simp only[frL,zbZ]at r |-
  obtain ⟨y,ys',e,r1,r2⟩:=r
  exact ⟨y,ys',e,rel_fr hle hS hrow x y r1,zmw hle hS hrow xs ys' r2⟩
theorem znD {c c':Ctx} {l:Nat} {cs:List AV} (hle:c.Le c') (hS:∀ k p,c'.S k=some p->c.S k=some p) (hrow:∀ (n sz:Nat) (y:Value),rel c (.sm l cs.length 0 n sz) y->rel c' (.sl sz (zb2 sz n cs)) y):∀ (xs:List AV) (ys:List Value),relCs c xs ys->relCs c' (frL l cs xs) ys
 |[],ys,r=>by simpa only[frL,relCs] using r
 |x::xs,ys,r=>by
  simp only[frL,relCs]at r |-
  obtain ⟨y,ys',e,ho,r1,r2⟩:=r
  exact ⟨y,ys',e,ho,rel_fr hle hS hrow x y r1,znD hle hS hrow xs ys' r2⟩
end
section
variable {P:Program} {inv:Nat->Option Nat} {w0:World} {M:Nat->Prop} {n N:Nat} {φ:AF} {σ:AS}
end
section cells
variable {α:Type} {c:α->List AV} {sz:Nat} [h:Cells c sz]
include h
mutual
theorem plain_fr (l:Nat) (cs:List AV):∀ x:AV,x.plain=true->frV l cs x=x
 |.agg ds,h=>by simp only[AV.plain]at h;simp only[frV,zh9 l cs ds h]
 |.i _ _,_=>by simp only[frV]
 |.b _,_=>by simp only[frV]
 |.v _,_=>by simp only[frV]
 |.sl _ _,_=>by simp only[frV]
 |.ip _ _ _ _,_=>by simp only[frV]
 |.tup _,h=>by simp[AV.plain]at h
 |.u,h=>by simp[AV.plain]at h
 |.s0 _,h=>by simp[AV.plain]at h
 |.ptr _ _ _,h=>by simp[AV.plain]at h
 |.sm _ _ _ _ _,h=>by simp[AV.plain]at h
 |.fn _ _,h=>by simp[AV.plain]at h
 |.mp _,h=>by simp[AV.plain]at h
 |.top,h=>by simp[AV.plain]at h
theorem zh9 (l:Nat) (cs:List AV):∀ xs:List AV,zaC xs=true->frL l cs xs=xs
 |[],_=>by simp only[frL]
 |x::xs,h=>by
  simp only[zaC,Bool.and_eq_true]at h
  simp only[frL,plain_fr l cs x h.1,zh9 l cs xs h.2]
end
theorem flat_fr (l':Nat) (cs:List AV) (l:List α):frL l' cs (l.map c).flatten=(l.map c).flatten:=zh9 (c:=c) l' cs _ (zcH l)
end cells
attribute [go_sem] flat_fr
attribute [go_sem] frV frL frO frS frF
def zir:List (Nat×AV)->List (Nat×AV)->List (Nat×AV)
 |[],φ=>φ
 |(i,x)::r,φ=>zir r (zbE φ i x)
def zjU:List (Nat×AO)->List (Nat×AO)->List (Nat×AO)
 |[],σ=>σ
 |(i,x)::r,σ=>zjU r (za8 σ i x)
attribute [go_sem] zir zjU
section
variable {P:Program} {inv:Nat->Option Nat} {w0:World} {M:Nat->Prop} {n N:Nat} {φ:AF} {σ:AS}
theorem zr0 {ι:Type} {x:ACode} {Q:Exit->AF->AS->Prop} (ks:List Nat) (m:ι->List (Nat×AV)) (t:ι->List (Nat×AO)) (Inv:ι->Prop) (μ:ι->Nat) (s0:ι) (hi:Inv s0) (h1:zhf (zir (m s0) (ze8 ks φ)) φ) (h2:zfA (zjU (t s0) σ) σ)
  (hr:∀ s,Inv s->AWp P inv w0 M N n x (zpm (lend (fun s=>zir (m s) (ze8 ks φ)) (fun s=>zjU (t s) σ) Inv μ s) Q) (zir (m s) (ze8 ks φ)) (zjU (t s) σ)):AWp P inv w0 M N n (.loop x) Q φ σ :=
 zc0 (fun s=>zir (m s) (ze8 ks φ)) (fun s=>zjU (t s) σ) Inv μ s0 hi h1 h2 hr
theorem zam {ι:Type} {x:ACode} {Q:Exit->AF->AS->Prop} (ks:List Nat) (m:ι->List (Nat×AV)) (t:ι->List (Nat×AO)) (c:ι->Nat) (b:Nat) (Inv:ι->Prop) (s0:ι)
  (hr:∀ s,c s<=b/\Inv s->AWp P inv w0 M N n x (zpm (lend (fun s=>zir (m s) (ze8 ks φ)) (fun s=>zjU (t s) σ) (fun s=>c s<=b/\Inv s) (fun s=>b-c s) s) Q) (zir (m s) (ze8 ks φ)) (zjU (t s) σ))
  (hi:c s0<=b/\Inv s0:=by ((try dsimp only);refine ⟨Nat.zero_le _, ?_⟩;(repeat' refine And.intro ?_ ?_)<;>first|exact wT|assumption|rfl|omega|(simp;done)|(simp;omega)|grind)) (h1:zhf (zir (m s0) (ze8 ks φ)) φ:=by ((try dsimp only);refine wD ?_;first|with_reducible exact wT|omega|(simp;done))) (h2:zfA (zjU (t s0) σ) σ:=by ((try dsimp only);refine wD ?_;first|with_reducible exact wT|omega|(simp;done))):AWp P inv w0 M N n (.loop x) Q φ σ :=
 zr0 ks m t (fun s=>c s<=b/\Inv s) (fun s=>b-c s) s0 hi h1 h2 hr
theorem AWp.swap {c:ACode} {Q:Exit->AF->AS->Prop} (sw:List (Nat×Nat)) (hok:swOk N sw) (h:AWp P inv w0 M N n c Q (swF sw φ) (swS sw σ)):AWp P inv w0 M N n c Q φ σ:=by
 intro c₀ hc β a w hs
 obtain ⟨β',hst,hx⟩:=zrT N sw hok hs
 exact Code.wp_mono (fun _ _ _ ⟨φ2,σ2,β2,q2,hst2,hext2⟩=>⟨φ2,σ2,β2,q2,hst2,hx.trans hext2⟩) (h c₀ hc β' a w hst)
theorem PO.pc {j:Nat} {args:List AV} {r:AV} {σ0:AS} (h:PO P inv j args r σ0):PC P inv j args (·=zeF 4 σ0 r):=by
 intro g hg M w vs hM ha
 have hm:=Mem.none (inv:=inv) (M:=M) w
 have hle:(⟨inv,w,M,fun _=>none⟩:Ctx).Le (ctx inv M [] (fun _=>0) w):=⟨rfl,Nat.le_refl _,fun _ _ _=>rfl,fun b _ h=>by
  rcases h with h|⟨l,o,e,_⟩
  ·exact h
  ·simp[zaF]at e⟩
 have hS:(ctx inv M [] (fun _=>0) w).S=fun _=>none:=by funext l;simp[ctx,zan,zaF]
 refine (h w M hM g hg (fun _=>0) w vs hm (zco (N:=0) hle _ _ (.inr hS) ha)).mono ?_
 rintro e w' ⟨v,r',σ',β',rfl,⟨rfl,rfl⟩,hm',_,hr⟩
 have hf:=zfC hm' hM (A':=M) (fun _ h=>h) 4
 exact ⟨v,_,rfl,rfl,hm'.below,zgp hf _,zfB hm' hM (fun _ h=>h) hf _ v hr⟩
theorem AC.mono {j:Nat} {args:List AV} {R R':AV->AS->Prop} (h:AC P inv w0 M N j args σ R) (hr:∀ r σ',R r σ'->R' r σ'):AC P inv w0 M N j args σ R' :=
 fun g hg β w vs hm ha=>(h g hg β w vs hm ha).mono fun _ _ ⟨v,r,σ',β',e,h1,h2⟩=>⟨v,r,σ',β',e,hr r σ' h1,h2⟩
theorem ze5 (N':Nat) {j:Nat} {args:List AV} {r0:AV} {τ:AS} (h:AC P inv w0 M N' j args σ fun r σ'=>r=r0/\σ'=τ) (hN:N<=N') (hφ:zaS φ<=N') {K:AV->AS->Prop} (hk:K r0 τ):CallK P inv w0 M N φ σ j args K :=
 ⟨N',hN,hφ,h.mono fun _ _ ⟨e1,e2⟩=>e1▸e2▸hk⟩
theorem za4 {j:Nat} {F:AFn} (hF:Has P inv j F) {args:List AV} {r0:AV} {σ0 τ:AS} (hb:r0.bare=true) (hl:args.length<=F.ntmps)
  (h:∀ Q:Exit->AF->AS->Prop,(∀ φ σ r,zed φ σ F.res=some r->(∃ sw,(r=r0/\swOk N sw)/\zfA τ (swS sw σ))->Q .ret φ σ)->(∀ φ σ,Q .ret φ σ->Q .normal φ σ)->AWp P inv w0 M N F.ntmps F.body Q (zm8 0 args) σ0) :
  AC P inv w0 M N j args σ0 fun r σ'=>r=r0/\σ'=τ:=by
 intro g hg β w vs hm ha
 refine (AC.body hF hl (R:=fun r σ=>∃ sw,(r=r0/\swOk N sw)/\zfA τ (swS sw σ)) (h _ (fun φ σ r h1 h2=>⟨r,h1,h2⟩) fun _ _ h=>h) g hg β w vs hm ha).mono ?_
 rintro e w' ⟨v,r,σ',β',rfl,⟨sw,⟨rfl,hok⟩,hs⟩,hm',hx,hr⟩
 have key:∀ (sw:List (Nat×Nat)) {σ:AS} {β:Nat->Nat},swOk N sw->Mem inv w0 M σ β w'->rel (ctx inv M σ β w') r v->∃ β',Mem inv w0 M (swS sw σ) β' w'/\Ext N (ctx inv M σ β w') (ctx inv M (swS sw σ) β' w')/\rel (ctx inv M (swS sw σ) β' w') r v:=by
  intro sw
  induction sw with
  |nil=>intro σ β _ hm hr;exact ⟨β,hm,.refl _ _,hr⟩
  |cons p sw ih =>
   obtain ⟨x,y⟩:=p
   intro σ β hok hm hr
   obtain ⟨h1,h2,h3⟩:=hm.rename (zpx x y)
   have hx:=h2 N fun l hl=>by have:=hok.1;unfold swN;rw[if_neg (by omega),if_neg (by omega)]
   obtain ⟨β',k1,k2,k3⟩:=ih hok.2 h1 ((h2 0 fun l hl=>absurd hl (Nat.not_lt_zero _)).rel (zaO r (by rw[zgL r hb];exact Nat.le_refl _)) hr)
   exact ⟨β',k1,hx.trans k2,k3⟩
 obtain ⟨β'',k1,k2,k3⟩:=key sw hok hm' hr
 have hd:=fun N=>k1.drop (zeE hs) N
 exact ⟨v,r,τ,β'',rfl,⟨rfl,rfl⟩,(hd 0).1,hx.trans (k2.trans (hd N).2),(hd 0).2.rel (zaO r (by rw[zgL r hb];exact Nat.le_refl _)) k3⟩
theorem PC.pure1 (hM:∀ b,M b->b<w0.heap.size) {j:Nat} {args:List AV} {r:AV} (h:PC P inv j args (·=r)) {K:AV->Prop} (hk:K r):PureK P inv w0 M σ j args K :=
 ⟨r,fun _ _ _ _=>h.callK hM fun _ e=>⟨e,rfl⟩,hk⟩
end
section
variable {P:Program} {inv:Nat->Option Nat} {w0:World} {M:Nat->Prop} {n N:Nat} {φ:AF} {σ:AS}
theorem Mem.truncW {β:Nat->Nat} {w:World} {l l' k:Nat} {cs:List AV} (h:Mem inv w0 M σ β w) (hg:zaF σ l=some (.cells cs true)) (hl:zbe σ<=l') (hk:k<=cs.length) {N1:Nat} (hN:N1<=l') :
  Mem inv w0 M (za8 (zjh σ l) l' (.cells (cs.take k) true)) (upd β l' (β l)) w/\Ext N1 (ctx inv M σ β w) (ctx inv M (za8 (zjh σ l) l' (.cells (cs.take k) true)) (upd β l' (β l)) w) /\
   zan (upd β l' (β l)) w (za8 (zjh σ l) l' (.cells (cs.take k) true)) l'=some ⟨β l,k,zaY w (β l),true⟩:=by
 have hno:∀ l2 o,zaF σ l2=some o->l2≠l':=fun l2 o e e'=>by have:=(zaG σ l2 o e).1;omega
 have hget:∀ l2 o,l2≠l'->zaF (za8 (zjh σ l) l' (.cells (cs.take k) true)) l2=some o->l2≠l/\zaF σ l2=some o:=by
  intro l2 o hne e
  rw[zal,if_neg hne,zfK]at e
  split at e
  ·cases e
  ·exact ⟨by assumption,e⟩
 have hself:zaF (za8 (zjh σ l) l' (.cells (cs.take k) true)) l'=some (.cells (cs.take k) true):=by rw[zal,if_pos rfl]
 have hpl:zan (upd β l' (β l)) w (za8 (zjh σ l) l' (.cells (cs.take k) true)) l'=some ⟨β l,k,zaY w (β l),true⟩:=by
  unfold zan
  rw[hself]
  simp[zba,Nat.min_eq_left hk]
 have hx:∀ N1,N1<=l'->Ext N1 (ctx inv M σ β w) (ctx inv M (za8 (zjh σ l) l' (.cells (cs.take k) true)) (upd β l' (β l)) w):=by
  intro N1 hN
  refine ⟨⟨rfl,Nat.le_refl _,fun _ _ _=>rfl,fun b _ hA=>?_⟩,fun l2 hl2 p' hp'=>?_⟩
  ·rcases hA with hm|⟨l2,o,e,hr,hb⟩
   ·exact .inl hm
   ·by_cases hne:l2=l'
    ·subst hne
     rw[zba]at hb
     exact .inr ⟨l,_,hg,rfl,hb⟩
    ·rw[zaA β _ hne]at hb
     exact .inr ⟨l2,o,(hget l2 o hne e).2,hr,hb⟩
  ·have hne:l2≠l':=by omega
   refine ⟨p', ?_,Nat.le_refl _,fun _=>rfl⟩
   have hp2:zan (upd β l' (β l)) w (za8 (zjh σ l) l' (.cells (cs.take k) true)) l2=some p':=hp'
   show zan β w σ l2=some p'
   unfold zan at hp2 |-
   cases e:zaF (za8 (zjh σ l) l' (.cells (cs.take k) true)) l2 with
   |none=>rw[e]at hp2;cases hp2
   |some o=>rw[e]at hp2;rw[(hget l2 o hne e).2];simpa only[zaA β _ hne] using hp2
 refine ⟨⟨h.below,fun l1 l2 o1 o2 e1 e2 r1 r2 he=>?_,fun l1 o1 e1 r1=>?_,fun l1 cs1 e1=>?_,fun l1 cs1 e1=>?_,fun l1 kvs e1=>?_⟩,hx N1 hN,hpl⟩
 ·by_cases h1:l1=l'<;>by_cases h2:l2=l'
  ·rw[h1,h2]
  ·rw[h1,zba,zaA β _ h2]at he
   obtain ⟨q1,q2⟩:=hget l2 o2 h2 e2
   exact absurd (h.inj l l2 _ o2 hg q2 rfl r2 he).symm q1
  ·rw[h2,zba,zaA β _ h1]at he
   obtain ⟨q1,q2⟩:=hget l1 o1 h1 e1
   exact absurd (h.inj l1 l o1 _ q2 hg r1 rfl he) q1
  ·rw[zaA β _ h1,zaA β _ h2]at he
   exact h.inj l1 l2 o1 o2 (hget l1 o1 h1 e1).2 (hget l2 o2 h2 e2).2 r1 r2 he
 ·by_cases h1:l1=l'
  ·rw[h1,zba];exact h.own l _ hg rfl
  ·rw[zaA β _ h1];exact h.own l1 o1 (hget l1 o1 h1 e1).2 r1
 ·by_cases h1:l1=l'
  ·rw[h1,hself]at e1
   simp only[Option.some.injEq,AO.cells.injEq,and_true]at e1
   subst e1
   rw[h1,zba]
   obtain ⟨xs,ty,q1,q2,q3⟩:=h.cells l cs hg
   refine ⟨xs,ty,q1,by rw[List.length_take];omega, ?_⟩
   have hb:zae (cs.take k)<=l':=zez fun x hx=>Nat.le_trans (zdQ (zaG σ l _ hg).2 x (List.mem_of_mem_take hx)) hl
   refine (hx l' (Nat.le_refl _)).relCs (zau _ hb) ?_
   have:=zcA k q3
   rw[List.take_take,Nat.min_eq_left hk]at this
   rw[List.length_take,Nat.min_eq_left hk]
   exact this
  ·rw[zaA β _ h1]
   obtain ⟨q1,q2⟩:=hget l1 _ h1 e1
   obtain ⟨xs,ty,q3,q4,q5⟩:=h.cells l1 cs1 q2
   exact ⟨xs,ty,q3,q4,(hx l' (Nat.le_refl _)).relCs (zau _ (Nat.le_trans (zaG σ l1 _ q2).2 hl)) q5⟩
 ·by_cases h1:l1=l'
  ·rw[h1,hself]at e1;simp at e1
  ·exact h.ghost l1 cs1 (hget l1 _ h1 e1).2
 ·by_cases h1:l1=l'
  ·rw[h1,hself]at e1;simp at e1
  ·rw[zaA β _ h1];exact h.maps l1 kvs (hget l1 _ h1 e1).2
def cutW (N:Nat) (r:AV) (σ:List (Nat×AO)):AV×List (Nat×AO) :=
 match r with
 |.sm l ver off n sz=>match zaF σ l with
  |some (.cells cs true)=>if Nat.blt l N=false/\off=0/\n*sz<ver/\cs.length=ver then (.sm (mx N (zbe σ)) (n*sz) 0 n sz,za8 (zjh σ l) (mx N (zbe σ)) (.cells (cs.take (n*sz)) true)) else (r,σ)
  |_=>(r,σ)
 |_=>(r,σ)
theorem AC.truncW {j:Nat} {args:List AV} {R R':AV->AS->Prop} (h:AC P inv w0 M N j args σ R) (hr:∀ r σ',R r σ'->R' (cutW N r σ').1 (cutW N r σ').2):AC P inv w0 M N j args σ R':=by
 intro g hg β w vs hm hv
 refine (h g hg β w vs hm hv).mono ?_
 rintro e w' ⟨v,r,σ',β',k1,k2,k3,k4,k5⟩
 have h1:=hr r σ' k2
 unfold cutW at h1
 split at h1
 ·rename_i l ver off n sz
  split at h1
  ·rename_i cs hgl
   split at h1
   ·rename_i hc
    obtain ⟨_,rfl,c1,c2⟩:=hc
    have ht:=k3.truncW (l:=l) (l':=mx N (zbe σ')) (k:=n*sz) hgl (zaz _ _) (by omega) (N1:=N) (za2 _ _)
    refine ⟨v,_,_,_,k1,h1,ht.1,k4.trans ht.2.1, ?_⟩
    have hlive:zb9 σ' l ver:=by unfold zb9;rw[hgl];exact c2
    obtain ⟨p,ad,cap,hp,hv',hb,rfl,hcap,hreal⟩:=zdW hlive k5
    have hpe:p=⟨β' l,cs.length,zaY w' (β' l),true⟩:=by unfold zan at hp;rw[hgl]at hp;cases hp;rfl
    subst hpe
    simp only[if_true]at hreal
    simp only[rel]
    refine ⟨rfl,fun p' hp'=>?_⟩
    have:p'=⟨β' l,n*sz,zaY w' (β' l),true⟩:=by have:=(show zan _ _ _ _=some p' from hp').symm.trans ht.2.2;simpa using this
    subst this
    exact ⟨Nat.le_refl _,fun _=>⟨by omega,ad,cap,rfl,hcap,by simpa using hreal⟩⟩
   ·exact ⟨v,_,σ',β',k1,h1,k3,k4,k5⟩
  ·exact ⟨v,_,σ',β',k1,h1,k3,k4,k5⟩
 ·exact ⟨v,_,σ',β',k1,h1,k3,k4,k5⟩
theorem PO.trunc {j:Nat} {args:List AV} {ver k sz:Nat} {cs:List AV} (h:PO P inv j args (.sm 0 ver 0 k sz) [(0,.cells cs true)]) (hb:zae cs=0) (hl:cs.length=ver) (hlt:k*sz<ver) :
  PO P inv j args (.sm 1 (k*sz) 0 k sz) [(1,.cells (cs.take (k*sz)) true)]:=by
 intro w0 M hM
 refine (AC.truncW (R':=fun r σ=>r=.sm 1 (k*sz) 0 k sz/\σ=[(1,.cells (cs.take (k*sz)) true)]) (h w0 M hM) ?_)
 rintro r σ' ⟨rfl,rfl⟩
 have hs:mx 0 (zbe [(0,AO.cells cs true)])=1:=by simp[zbe,AO.bound,hb,mx]
 simp only[cutW,zaF,if_true]
 rw[if_pos ⟨by trivial,by trivial,hlt,hl⟩,hs]
 exact ⟨rfl,by simp[zjh,za8]⟩
theorem Mem.recell {β:Nat->Nat} {w:World} {k:Nat} {cs cs':List AV} {r:Bool} (hm:Mem inv w0 M σ β w) (hg:zaF σ k=some (.cells cs r)) (hlen:cs'.length=cs.length) (hrel:r=true->∀ ys,relCs (ctx inv M σ β w) cs ys->relCs (ctx inv M σ β w) cs' ys) :
  Mem inv w0 M (za8 σ k (.cells cs' r)) β w/\ctx inv M (za8 σ k (.cells cs' r)) β w=ctx inv M σ β w:=by
 have hpl:zan β w (za8 σ k (.cells cs' r))=zan β w σ:=by
  funext l
  unfold zan
  rw[zal]
  by_cases h:l=k
  ·subst h;rw[if_pos rfl,hg];cases r<;>simp only[hlen]
  ·rw[if_neg h]
 have hav:avoid M (za8 σ k (.cells cs' r)) β=avoid M σ β:=by
  funext b
  apply propext
  constructor
  ·rintro (h|⟨l,o,e,hr,hb⟩)
   ·exact .inl h
   ·rw[zal]at e
    split at e
    ·rename_i h;subst h
     simp only[Option.some.injEq]at e;subst e
     exact .inr ⟨l,_,hg,by cases r<;>(first|exact hr|(simp[AO.real]at hr;done)|simp[AO.real]),hb⟩
    ·exact .inr ⟨l,o,e,hr,hb⟩
  ·rintro (h|⟨l,o,e,hr,hb⟩)
   ·exact .inl h
   ·by_cases h:l=k
    ·subst h
     rw[hg]at e
     simp only[Option.some.injEq]at e;subst e
     exact .inr ⟨l,.cells cs' r,by rw[zal,if_pos rfl],by cases r<;>(first|exact hr|(simp[AO.real]at hr;done)|simp[AO.real]),hb⟩
    ·exact .inr ⟨l,o,by rw[zal,if_neg h];exact e,hr,hb⟩
 have hctx:ctx inv M (za8 σ k (.cells cs' r)) β w=ctx inv M σ β w:=by unfold ctx;rw[hpl,hav]
 have hback:∀ l o,zaF (za8 σ k (.cells cs' r)) l=some o->o.real=true->∃ o',zaF σ l=some o'/\o'.real=true:=by
  intro l o e hr
  rw[zal]at e
  split at e
  ·rename_i h;subst h
   simp only[Option.some.injEq]at e;subst e
   exact ⟨_,hg,by cases r<;>(first|exact hr|(simp[AO.real]at hr;done)|simp[AO.real])⟩
  ·exact ⟨o,e,hr⟩
 refine ⟨⟨hm.below,fun l l' o o' e e' hr hr' hb=>?_,fun l o e hr=>?_,fun l cs1 e=>?_,fun l cs1 e=>?_,fun l kvs e=>?_⟩,hctx⟩
 ·obtain ⟨o1,e1,r1⟩:=hback l o e hr
  obtain ⟨o2,e2,r2⟩:=hback l' o' e' hr'
  exact hm.inj l l' o1 o2 e1 e2 r1 r2 hb
 ·obtain ⟨o1,e1,r1⟩:=hback l o e hr
  exact hm.own l o1 e1 r1
 ·rw[hctx]
  rw[zal]at e
  split at e
  ·rename_i h;subst h
   simp only[Option.some.injEq,AO.cells.injEq]at e
   obtain ⟨rfl,rfl⟩:=e
   obtain ⟨xs,ty,h1,h2,h3⟩:=hm.cells _ cs hg
   exact ⟨xs,ty,h1,by omega,by rw[hlen];exact hrel rfl _ h3⟩
  ·exact hm.cells l cs1 e
 ·rw[zal]at e
  split at e
  ·rename_i h;subst h
   simp only[Option.some.injEq,AO.cells.injEq]at e
   obtain ⟨rfl,rfl⟩:=e
   have:=hm.ghost _ cs hg
   subst this
   exact List.length_eq_zero_iff.1 hlen
  ·exact hm.ghost l cs1 e
 ·rw[zal]at e
  split at e
  ·cases e
  ·exact hm.maps l kvs e
theorem zh0 {c:Ctx} {x0 x:AV} (hx:∀ y,rel c x0 y->rel c x y):∀ {cs:List AV} {ys:List Value} {i:Nat},cs[i]?=some x0->relCs c cs ys->relCs c (cs.set i x) ys
 |[],_,_,h,_=>by simp at h
 |z::cs,ys,0,h,r=>by
  simp only[List.getElem?_cons_zero,Option.some.injEq]at h
  subst h
  simp only[relCs,List.set_cons_zero]at r |-
  obtain ⟨y,ys',e,ho,r1,r2⟩:=r
  exact ⟨y,ys',e,ho,hx y r1,r2⟩
 |z::cs,ys,i+1,h,r=>by
  simp only[List.getElem?_cons_succ]at h
  simp only[relCs,List.set_cons_succ]at r |-
  obtain ⟨y,ys',e,ho,r1,r2⟩:=r
  exact ⟨y,ys',e,ho,r1,zh0 hx h r2⟩
theorem zgO {c:ACode} {Q:Exit->AF->AS->Prop} (k i l sz:Nat) {cs:List AV} {r:Bool} (hk:zaF σ k=some (.cells cs r)) (hi:cs[i]?=some (.s0 sz)) (h1:N<=l) (h2:zaS φ<=l) (h3:zbe σ<=l)
  (h:AWp P inv w0 M N n c Q φ (za8 (za8 σ l (.cells [] false)) k (.cells (cs.set i (.sm l 0 0 0 sz)) r))):AWp P inv w0 M N n c Q φ σ:=by
 intro c₀ hc β a w hs
 obtain ⟨hm,hx⟩:=hs.mem.empty h3
 have hkl:k≠l:=fun e=>by have:=(zaG σ k _ hk).1;omega
 have hg:zaF (za8 σ l (.cells [] false)) k=some (.cells cs r):=by rw[zal,if_neg hkl];exact hk
 obtain ⟨hm2,hctx⟩:=hm.recell (cs':=cs.set i (.sm l 0 0 0 sz)) hg (by simp) (fun _ ys hr=>zh0 (x0:=.s0 sz) (fun y hy=>by
  have hy':rel (ctx inv M σ β w) (.s0 sz) y:=by simpa only[rel] using hy
  exact zhU hy') hi hr)
 refine Code.wp_mono ?_ (h c₀ hc β a w ⟨⟨fun j=>?_,hm2⟩,hs.size,hs.defers⟩)
 ·rintro e a' w' ⟨φ2,σ2,β2,q2,hst2,hext2⟩
  rw[hctx]at hext2
  exact ⟨φ2,σ2,β2,q2,hst2,(hx N h1).trans hext2⟩
 ·rw[hctx]
  exact (hx l (Nat.le_refl _)).rel (zaO _ (Nat.le_trans (zbQ φ j) h2)) (hs.slots j)
theorem zao {j:Nat} {F:AFn} (hF:Has P inv j F) {args:List AV} {R:AV->AS->Prop} (hl:args.length<=F.ntmps)
  (h:∀ Q:Exit->AF->AS->Prop,(∀ φ σ r,zed φ σ F.res=some r->R r σ->Q .ret φ σ)->(∀ φ σ,Q .ret φ σ->Q .normal φ σ)->AWp P inv w0 M N F.ntmps F.body Q (zm8 0 args) σ):AC P inv w0 M N j args σ R :=
 AC.body hF hl (h _ (fun _ _ r h1 h2=>⟨r,h1,h2⟩) fun _ _ h=>h)
def midK (A:Prop) (φ1:List (Nat×AV)) (σ1:List (Nat×AO)):List (Nat×AV)->List (Nat×AO)->Prop:=fun φ σ=>A/\(zhf φ1 φ/\zfA σ1 σ)
theorem midK_app (A:Prop) (φ1:List (Nat×AV)) (σ1:List (Nat×AO)) (φ:List (Nat×AV)) (σ:List (Nat×AO)):midK A φ1 σ1 φ σ=(A/\(zhf φ1 φ/\zfA σ1 σ)):=rfl
attribute [go_sem] midK_app
theorem AWp.mid (ks:List Nat) (A:Prop) {x y:ACode} {Q:Exit->AF->AS->Prop} (h1:AWp P inv w0 M N n x (zpm (midK A (ze8 ks φ) σ) Q) φ σ) (h2:A->AWp P inv w0 M N n y Q (ze8 ks φ) σ):AWp P inv w0 M N n (.seq x y) Q φ σ :=
 AWp.seq fun K hK=>by
  refine AWp.mono ?_ h1
  intro e φ' σ' q
  cases e with
  |normal=>exact hK _ _ ((h2 q.1).sub q.2.1 q.2.2)
  |exit id=>exact q
  |goto l=>exact q
  |ret=>exact q
  |panic ch=>exact q
  |outgrown=>exact q
end
end Go.Eng
namespace Go.Lev
open Go.Eng
set_option maxRecDepth 10000
set_option maxHeartbeats 4000000
variable {P:Program} {inv:Nat->Option Nat}
structure Track where
 id:Int
 is:Int
 deriving DecidableEq,Inhabited
def Track.c (t:Track):List AV:=[.n t.id,.i .u8 t.is]
instance:Cells Track.c 2:=⟨fun _=>rfl,fun _=>rfl⟩
theorem zg7 (a b:Track):a=b↔a.id=b.id/\a.is=b.is:=by cases a;cases b;simp
structure Switch where
 id:Int
 lie:Int
 call:Int
 deriving DecidableEq,Inhabited
def Switch.c (t:Switch):List AV:=[.n t.id,.n t.lie,.n t.call]
instance:Cells Switch.c 3:=⟨fun _=>rfl,fun _=>rfl⟩
theorem zgi (a b:Switch):a=b↔a.id=b.id/\a.lie=b.lie/\a.call=b.call:=by cases a;cases b;simp
structure Lock where
 id:Int
 phase:Int
 gone:Int
 left:Int
 deriving DecidableEq,Inhabited
def Lock.c (t:Lock):List AV:=[.n t.id,.i .u8 t.phase,.n t.gone,.n t.left]
instance:Cells Lock.c 4:=⟨fun _=>rfl,fun _=>rfl⟩
theorem zfs (a b:Lock):a=b↔a.id=b.id/\a.phase=b.phase/\a.gone=b.gone/\a.left=b.left:=by cases a;cases b;simp
attribute [go_sem] Track.c Switch.c Lock.c
structure State where
 tracks:List Track
 switches:List Switch
 locks:List Lock
 deriving DecidableEq,Inhabited
def State.c (s:State):List AV:=[.sl 2 (s.tracks.map Track.c),.sl 3 (s.switches.map Switch.c),.sl 4 (s.locks.map Lock.c)]
instance:Cells State.c 3:=⟨fun _=>rfl,fun _=>rfl⟩
theorem zcZ (a b:State):a=b↔a.tracks=b.tracks/\a.switches=b.switches/\a.locks=b.locks:=by cases a;cases b;simp
attribute [go_sem] State.c
def zaw {α β:Type} (p:α->β->Bool):List α->List β->Bool
 |[],[]=>true
 |x::xs,y::ys=>p x y&&zaw p xs ys
 |_,_=>false
theorem zce {α β:Type} {p:α->β->Bool}:∀ {a:List α} {b:List β},zaw p a b=true->a.length=b.length
 |[],[],_=>rfl
 |x::xs,y::ys,h=>by simp only[zaw,Bool.and_eq_true]at h;simp[zce h.2]
 |[],_::_,h=>by simp[zaw]at h
 |_::_,[],h=>by simp[zaw]at h
def zlC (s:State):Bool:=decide (200<(s.tracks.length:Int))||decide (200<(s.switches.length:Int))||decide (200<(s.locks.length:Int))
theorem zpI (hH:HasAll P inv) (s:State):PC P inv 8 [.agg s.c] (·=.b (zlC s)):=by
 refine PC.fn hH cd8 fun w0 M Q hM hE hQ hR=>?_;dsimp only[cd8,qm,ql,qf,qc,qv,qN,qF,qt]at hQ |-
 (repeat' first|refine zaa [0,1,2] fun K hK=>?_|(refine hK.go ?_;clear hK K)|with_reducible exact wT|refine wA ?_|(refine wB (fun h=>?_) (fun h=>?_)<;>first|exact wN h|subst (h:(_:Bool)=_)|skip)|(refine wQ ?_;clear hQ hR hE hM)|fail)
 all_goals (first|rfl|(grind[zlC])|(simp[zlC, *];done)|(simp_all [zlC];done)|(simp_all [zlC]<;>first|omega|((repeat' split)<;>first|rfl|(exfalso;omega))))
theorem zkK (hH:HasAll P inv) (l:List Track) (h:l.length<=1000000):PO P inv 31 [.sl 2 (l.map Track.c)] (.sm 0 (l.length*2) 0 l.length 2) [(0,.cells (l.map Track.c).flatten (decide (0<l.length)))]:=by
 refine PO.fn hH cd31 fun w0 M Q hM hE hQ hR=>?_;dsimp only[cd31,qm,qN,qt]at hQ |-
 (repeat' first|refine zaa [0,2,4] fun K hK=>?_|(refine hK.go ?_;clear hK K)|with_reducible exact wT|refine wA ?_|(refine wB (fun h=>?_) (fun h=>?_)<;>first|exact wN h|subst (h:(_:Bool)=_)|skip)|(refine wR ?_;clear hQ hR hE hM)|fail)
 ·right
  have h0:l.length=0:=by assumption
  obtain rfl:=List.length_eq_zero_iff.1 h0
  exact ⟨2,rfl,by simp,by simp⟩
 ·left
  constructor
  ·(refine wD ?_;try with_reducible exact wT)
  ·(refine wD ?_;try with_reducible exact wT)
theorem zkG (hH:HasAll P inv) (a b:List Track) (hl:a.length<=1000000000):PC P inv 34 [.sl 2 (a.map Track.c),.sl 2 (b.map Track.c)] (·=.b (decide (a=b))):=by
 refine PC.fn hH cd34 fun w0 M Q hM hE hQ hR=>?_;dsimp only[cd34,qm,qi,qb,qc,qN,qt]at hQ |-
 (repeat' first|refine zaa [0,1,4,5,10,12,13,14,24] fun K hK=>?_|(refine hK.go ?_;clear hK K)|with_reducible exact wT|refine wA ?_|(refine wB (fun h=>?_) (fun h=>?_)<;>first|exact wN h|subst (h:(_:Bool)=_)|skip)|(refine wQ ?_;clear hQ hR hE hM)|fail)
 ·have:¬a=b:=fun e=>h (by rw[e])
  simp[this]
 have hab:a.length=b.length:=by omega
 refine zci (fun k=>[(0,.sl 2 (a.map Track.c)),(1,.sl 2 (b.map Track.c)),(12,.n a.length),(13,.n k)]) (fun k=>[]) (a.length) (fun k=>((a.drop k=b.drop k)↔a=b)) ?_;rintro k ⟨hk,hg⟩;rcases Nat.lt_or_ge k a.length with hlt|hge
 ·rw[zaf hlt,zaf (l:=b) (i:=k) (by omega),List.cons.injEq,zg7]at hg
  (repeat' first|refine zaa [0,1,4,5,10,12,13,14,24] fun K hK=>?_|(refine hK.go ?_;clear hK K)|with_reducible exact wT|refine wA ?_|(refine wB (fun h=>?_) (fun h=>?_)<;>first|exact wN h|subst (h:(_:Bool)=_)|skip)|(refine wQ ?_;clear hQ hR hE hM)|fail)
  ·have:¬a=b:=by rw[<-hg];grind
   simp[this]
  ·exact ⟨k+1,by omega,⟨by omega,by rw[<-hg];grind⟩,(by (try dsimp only);(first|omega|(simp;done)|(simp;omega)))⟩
 ·rw[List.drop_eq_nil_of_le hge,List.drop_eq_nil_of_le (by omega)]at hg
  (repeat' first|refine zaa [0,1,4,5,10,12,13,14,24] fun K hK=>?_|(refine hK.go ?_;clear hK K)|with_reducible exact wT|refine wA ?_|(refine wB (fun h=>?_) (fun h=>?_)<;>first|exact wN h|subst (h:(_:Bool)=_)|skip)|(refine wQ ?_;clear hQ hR hE hM)|fail)
  simp[<-hg]
theorem zi6 (hH:HasAll P inv) (l:List Switch) (h:l.length<=1000000):PO P inv 32 [.sl 3 (l.map Switch.c)] (.sm 0 (l.length*3) 0 l.length 3) [(0,.cells (l.map Switch.c).flatten (decide (0<l.length)))]:=by
 refine PO.fn hH cd32 fun w0 M Q hM hE hQ hR=>?_;dsimp only[cd32,qm,qN,qt]at hQ |-
 (repeat' first|refine zaa [0,2,4] fun K hK=>?_|(refine hK.go ?_;clear hK K)|with_reducible exact wT|refine wA ?_|(refine wB (fun h=>?_) (fun h=>?_)<;>first|exact wN h|subst (h:(_:Bool)=_)|skip)|(refine wR ?_;clear hQ hR hE hM)|fail)
 ·right
  have h0:l.length=0:=by assumption
  obtain rfl:=List.length_eq_zero_iff.1 h0
  exact ⟨3,rfl,by simp,by simp⟩
 ·left
  constructor
  ·(refine wD ?_;try with_reducible exact wT)
  ·(refine wD ?_;try with_reducible exact wT)
theorem zi4 (hH:HasAll P inv) (a b:List Switch) (hl:a.length<=1000000000):PC P inv 35 [.sl 3 (a.map Switch.c),.sl 3 (b.map Switch.c)] (·=.b (decide (a=b))):=by
 refine PC.fn hH cd35 fun w0 M Q hM hE hQ hR=>?_;dsimp only[cd35,qm,qi,qb,qc,qN,qt]at hQ |-
 (repeat' first|refine zaa [0,1,4,5,10,12,13,14,24] fun K hK=>?_|(refine hK.go ?_;clear hK K)|with_reducible exact wT|refine wA ?_|(refine wB (fun h=>?_) (fun h=>?_)<;>first|exact wN h|subst (h:(_:Bool)=_)|skip)|(refine wQ ?_;clear hQ hR hE hM)|fail)
 ·have:¬a=b:=fun e=>h (by rw[e])
  simp[this]
 have hab:a.length=b.length:=by omega
 refine zci (fun k=>[(0,.sl 3 (a.map Switch.c)),(1,.sl 3 (b.map Switch.c)),(12,.n a.length),(13,.n k)]) (fun k=>[]) (a.length) (fun k=>((a.drop k=b.drop k)↔a=b)) ?_;rintro k ⟨hk,hg⟩;rcases Nat.lt_or_ge k a.length with hlt|hge
 ·rw[zaf hlt,zaf (l:=b) (i:=k) (by omega),List.cons.injEq,zgi]at hg
  (repeat' first|refine zaa [0,1,4,5,10,12,13,14,24] fun K hK=>?_|(refine hK.go ?_;clear hK K)|with_reducible exact wT|refine wA ?_|(refine wB (fun h=>?_) (fun h=>?_)<;>first|exact wN h|subst (h:(_:Bool)=_)|skip)|(refine wQ ?_;clear hQ hR hE hM)|fail)
  ·have:¬a=b:=by rw[<-hg];grind
   simp[this]
  ·exact ⟨k+1,by omega,⟨by omega,by rw[<-hg];grind⟩,(by (try dsimp only);(first|omega|(simp;done)|(simp;omega)))⟩
 ·rw[List.drop_eq_nil_of_le hge,List.drop_eq_nil_of_le (by omega)]at hg
  (repeat' first|refine zaa [0,1,4,5,10,12,13,14,24] fun K hK=>?_|(refine hK.go ?_;clear hK K)|with_reducible exact wT|refine wA ?_|(refine wB (fun h=>?_) (fun h=>?_)<;>first|exact wN h|subst (h:(_:Bool)=_)|skip)|(refine wQ ?_;clear hQ hR hE hM)|fail)
  simp[<-hg]
theorem zlW (hH:HasAll P inv) (l:List Lock) (h:l.length<=1000000):PO P inv 33 [.sl 4 (l.map Lock.c)] (.sm 0 (l.length*4) 0 l.length 4) [(0,.cells (l.map Lock.c).flatten (decide (0<l.length)))]:=by
 refine PO.fn hH cd33 fun w0 M Q hM hE hQ hR=>?_;dsimp only[cd33,qm,qN,qt]at hQ |-
 (repeat' first|refine zaa [0,2,4] fun K hK=>?_|(refine hK.go ?_;clear hK K)|with_reducible exact wT|refine wA ?_|(refine wB (fun h=>?_) (fun h=>?_)<;>first|exact wN h|subst (h:(_:Bool)=_)|skip)|(refine wR ?_;clear hQ hR hE hM)|fail)
 ·right
  have h0:l.length=0:=by assumption
  obtain rfl:=List.length_eq_zero_iff.1 h0
  exact ⟨4,rfl,by simp,by simp⟩
 ·left
  constructor
  ·(refine wD ?_;try with_reducible exact wT)
  ·(refine wD ?_;try with_reducible exact wT)
theorem zlM (hH:HasAll P inv) (a b:List Lock) (hl:a.length<=1000000000):PC P inv 36 [.sl 4 (a.map Lock.c),.sl 4 (b.map Lock.c)] (·=.b (decide (a=b))):=by
 refine PC.fn hH cd36 fun w0 M Q hM hE hQ hR=>?_;dsimp only[cd36,qm,qi,qb,qc,qN,qt]at hQ |-
 (repeat' first|refine zaa [0,1,4,5,10,12,13,14,24] fun K hK=>?_|(refine hK.go ?_;clear hK K)|with_reducible exact wT|refine wA ?_|(refine wB (fun h=>?_) (fun h=>?_)<;>first|exact wN h|subst (h:(_:Bool)=_)|skip)|(refine wQ ?_;clear hQ hR hE hM)|fail)
 ·have:¬a=b:=fun e=>h (by rw[e])
  simp[this]
 have hab:a.length=b.length:=by omega
 refine zci (fun k=>[(0,.sl 4 (a.map Lock.c)),(1,.sl 4 (b.map Lock.c)),(12,.n a.length),(13,.n k)]) (fun k=>[]) (a.length) (fun k=>((a.drop k=b.drop k)↔a=b)) ?_;rintro k ⟨hk,hg⟩;rcases Nat.lt_or_ge k a.length with hlt|hge
 ·rw[zaf hlt,zaf (l:=b) (i:=k) (by omega),List.cons.injEq,zfs]at hg
  (repeat' first|refine zaa [0,1,4,5,10,12,13,14,24] fun K hK=>?_|(refine hK.go ?_;clear hK K)|with_reducible exact wT|refine wA ?_|(refine wB (fun h=>?_) (fun h=>?_)<;>first|exact wN h|subst (h:(_:Bool)=_)|skip)|(refine wQ ?_;clear hQ hR hE hM)|fail)
  ·have:¬a=b:=by rw[<-hg];grind
   simp[this]
  ·exact ⟨k+1,by omega,⟨by omega,by rw[<-hg];grind⟩,(by (try dsimp only);(first|omega|(simp;done)|(simp;omega)))⟩
 ·rw[List.drop_eq_nil_of_le hge,List.drop_eq_nil_of_le (by omega)]at hg
  (repeat' first|refine zaa [0,1,4,5,10,12,13,14,24] fun K hK=>?_|(refine hK.go ?_;clear hK K)|with_reducible exact wT|refine wA ?_|(refine wB (fun h=>?_) (fun h=>?_)<;>first|exact wN h|subst (h:(_:Bool)=_)|skip)|(refine wQ ?_;clear hQ hR hE hM)|fail)
  simp[<-hg]
def zjq (x y:Switch):Bool:=decide (x.id=y.id)&&decide (x.call=y.call)
def zik (x y:Lock):Bool:=decide (x.id=y.id)&&decide (x.phase=y.phase)&&decide (x.gone=y.gone)
def za3 {α:Type} (p:α->Bool):Int->List α->Int
 |_,[]=>-1
 |k,x::r=>if p x=true then k else za3 p (k+1) r
theorem idx_rte (hH:HasAll P inv) {jc:Nat} {caps:List AV} {p:Rte->Bool} (l:List Rte) (hc:∀ x∈l,PC P inv jc ([.agg x.c]++caps) (·=.b (p x))) (hl:l.length<=1000000000):PC P inv 138 [.sl 7 (l.map Rte.c),.fn jc caps] (·=.n (za3 p 0 l)):=by
 refine PC.fn hH cd138 fun w0 M Q hM hE hQ hR=>?_;dsimp only[cd138,qm,qi,qb,qc,qN,qt]at hQ |-
 (repeat' first|refine zaa [0,1,4,5,7,8,9,16] fun K hK=>?_|(refine hK.go ?_;clear hK K)|with_reducible exact wT|refine wA ?_|(refine wB (fun h=>?_) (fun h=>?_)<;>first|exact wN h|subst (h:(_:Bool)=_)|skip)|(refine wQ ?_;clear hQ hR hE hM)|fail)
 refine zci (fun k=>[(0,.sl 7 (l.map Rte.c)),(1,.fn jc caps),(7,.n l.length),(8,.n k)]) (fun k=>[]) (l.length) (fun k=>za3 p k (l.drop k)=za3 p 0 l) ?_;rintro k ⟨hk,hg⟩;rcases Nat.lt_or_ge k l.length with hlt|hge
 ·rw[zaf hlt]at hg
  rw[za3]at hg
  (repeat' first|refine zaa [0,1,4,5,7,8,9,16] fun K hK=>?_|(refine hK.go ?_;clear hK K)|with_reducible exact wT|refine wA ?_|(refine wB (fun h=>?_) (fun h=>?_)<;>first|exact wN h|subst (h:(_:Bool)=_)|skip)|(refine wQ ?_;clear hQ hR hE hM)|(refine zay hM (hc _ (zab hlt)) ?_;try refine wD ?_)|fail)
  ·rw[<-hg,if_pos h]
  ·exact ⟨k+1,by omega,⟨by omega,by rw[<-hg,if_neg (by rw[h];simp)];rfl⟩,(by (try dsimp only);(first|omega|(simp;done)|(simp;omega)))⟩
 ·rw[List.drop_eq_nil_of_le hge]at hg
  (repeat' first|refine zaa [0,1,4,5,7,8,9,16] fun K hK=>?_|(refine hK.go ?_;clear hK K)|with_reducible exact wT|refine wA ?_|(refine wB (fun h=>?_) (fun h=>?_)<;>first|exact wN h|subst (h:(_:Bool)=_)|skip)|(refine wQ ?_;clear hQ hR hE hM)|fail)
  rw[<-hg];rfl
theorem zin (hH:HasAll P inv) {jc:Nat} {caps:List AV} {p:Pnt->Bool} (l:List Pnt) (hc:∀ x∈l,PC P inv jc ([.agg x.c]++caps) (·=.b (p x))) (hl:l.length<=1000000000):PC P inv 109 [.sl 2 (l.map Pnt.c),.fn jc caps] (·=.n (za3 p 0 l)):=by
 refine PC.fn hH cd109 fun w0 M Q hM hE hQ hR=>?_;dsimp only[cd109,qm,qi,qb,qc,qN,qt]at hQ |-
 (repeat' first|refine zaa [0,1,4,5,7,8,9,16] fun K hK=>?_|(refine hK.go ?_;clear hK K)|with_reducible exact wT|refine wA ?_|(refine wB (fun h=>?_) (fun h=>?_)<;>first|exact wN h|subst (h:(_:Bool)=_)|skip)|(refine wQ ?_;clear hQ hR hE hM)|fail)
 refine zci (fun k=>[(0,.sl 2 (l.map Pnt.c)),(1,.fn jc caps),(7,.n l.length),(8,.n k)]) (fun k=>[]) (l.length) (fun k=>za3 p k (l.drop k)=za3 p 0 l) ?_;rintro k ⟨hk,hg⟩;rcases Nat.lt_or_ge k l.length with hlt|hge
 ·rw[zaf hlt]at hg
  rw[za3]at hg
  (repeat' first|refine zaa [0,1,4,5,7,8,9,16] fun K hK=>?_|(refine hK.go ?_;clear hK K)|with_reducible exact wT|refine wA ?_|(refine wB (fun h=>?_) (fun h=>?_)<;>first|exact wN h|subst (h:(_:Bool)=_)|skip)|(refine wQ ?_;clear hQ hR hE hM)|(refine zay hM (hc _ (zab hlt)) ?_;try refine wD ?_)|fail)
  ·rw[<-hg,if_pos h]
  ·exact ⟨k+1,by omega,⟨by omega,by rw[<-hg,if_neg (by rw[h];simp)];rfl⟩,(by (try dsimp only);(first|omega|(simp;done)|(simp;omega)))⟩
 ·rw[List.drop_eq_nil_of_le hge]at hg
  (repeat' first|refine zaa [0,1,4,5,7,8,9,16] fun K hK=>?_|(refine hK.go ?_;clear hK K)|with_reducible exact wT|refine wA ?_|(refine wB (fun h=>?_) (fun h=>?_)<;>first|exact wN h|subst (h:(_:Bool)=_)|skip)|(refine wQ ?_;clear hQ hR hE hM)|fail)
  rw[<-hg];rfl
theorem idx_sgn (hH:HasAll P inv) {jc:Nat} {caps:List AV} {p:Sgn->Bool} (l:List Sgn) (hc:∀ x∈l,PC P inv jc ([.agg x.c]++caps) (·=.b (p x))) (hl:l.length<=1000000000):PC P inv 143 [.sl 3 (l.map Sgn.c),.fn jc caps] (·=.n (za3 p 0 l)):=by
 refine PC.fn hH cd143 fun w0 M Q hM hE hQ hR=>?_;dsimp only[cd143,qm,qi,qb,qc,qN,qt]at hQ |-
 (repeat' first|refine zaa [0,1,4,5,7,8,9,16] fun K hK=>?_|(refine hK.go ?_;clear hK K)|with_reducible exact wT|refine wA ?_|(refine wB (fun h=>?_) (fun h=>?_)<;>first|exact wN h|subst (h:(_:Bool)=_)|skip)|(refine wQ ?_;clear hQ hR hE hM)|fail)
 refine zci (fun k=>[(0,.sl 3 (l.map Sgn.c)),(1,.fn jc caps),(7,.n l.length),(8,.n k)]) (fun k=>[]) (l.length) (fun k=>za3 p k (l.drop k)=za3 p 0 l) ?_;rintro k ⟨hk,hg⟩;rcases Nat.lt_or_ge k l.length with hlt|hge
 ·rw[zaf hlt]at hg
  rw[za3]at hg
  (repeat' first|refine zaa [0,1,4,5,7,8,9,16] fun K hK=>?_|(refine hK.go ?_;clear hK K)|with_reducible exact wT|refine wA ?_|(refine wB (fun h=>?_) (fun h=>?_)<;>first|exact wN h|subst (h:(_:Bool)=_)|skip)|(refine wQ ?_;clear hQ hR hE hM)|(refine zay hM (hc _ (zab hlt)) ?_;try refine wD ?_)|fail)
  ·rw[<-hg,if_pos h]
  ·exact ⟨k+1,by omega,⟨by omega,by rw[<-hg,if_neg (by rw[h];simp)];rfl⟩,(by (try dsimp only);(first|omega|(simp;done)|(simp;omega)))⟩
 ·rw[List.drop_eq_nil_of_le hge]at hg
  (repeat' first|refine zaa [0,1,4,5,7,8,9,16] fun K hK=>?_|(refine hK.go ?_;clear hK K)|with_reducible exact wT|refine wA ?_|(refine wB (fun h=>?_) (fun h=>?_)<;>first|exact wN h|subst (h:(_:Bool)=_)|skip)|(refine wQ ?_;clear hQ hR hE hM)|fail)
  rw[<-hg];rfl
theorem zim (hH:HasAll P inv) {jc:Nat} {caps:List AV} {p:Section->Bool} (l:List Section) (hc:∀ x∈l,PC P inv jc ([.agg x.c]++caps) (·=.b (p x))) (hl:l.length<=1000000000):PC P inv 94 [.sl 3 (l.map Section.c),.fn jc caps] (·=.n (za3 p 0 l)):=by
 refine PC.fn hH cd94 fun w0 M Q hM hE hQ hR=>?_;dsimp only[cd94,qm,qi,qb,qc,qN,qt]at hQ |-
 (repeat' first|refine zaa [0,1,4,5,7,8,9,16] fun K hK=>?_|(refine hK.go ?_;clear hK K)|with_reducible exact wT|refine wA ?_|(refine wB (fun h=>?_) (fun h=>?_)<;>first|exact wN h|subst (h:(_:Bool)=_)|skip)|(refine wQ ?_;clear hQ hR hE hM)|fail)
 refine zci (fun k=>[(0,.sl 3 (l.map Section.c)),(1,.fn jc caps),(7,.n l.length),(8,.n k)]) (fun k=>[]) (l.length) (fun k=>za3 p k (l.drop k)=za3 p 0 l) ?_;rintro k ⟨hk,hg⟩;rcases Nat.lt_or_ge k l.length with hlt|hge
 ·rw[zaf hlt]at hg
  rw[za3]at hg
  (repeat' first|refine zaa [0,1,4,5,7,8,9,16] fun K hK=>?_|(refine hK.go ?_;clear hK K)|with_reducible exact wT|refine wA ?_|(refine wB (fun h=>?_) (fun h=>?_)<;>first|exact wN h|subst (h:(_:Bool)=_)|skip)|(refine wQ ?_;clear hQ hR hE hM)|(refine zay hM (hc _ (zab hlt)) ?_;try refine wD ?_)|fail)
  ·rw[<-hg,if_pos h]
  ·exact ⟨k+1,by omega,⟨by omega,by rw[<-hg,if_neg (by rw[h];simp)];rfl⟩,(by (try dsimp only);(first|omega|(simp;done)|(simp;omega)))⟩
 ·rw[List.drop_eq_nil_of_le hge]at hg
  (repeat' first|refine zaa [0,1,4,5,7,8,9,16] fun K hK=>?_|(refine hK.go ?_;clear hK K)|with_reducible exact wT|refine wA ?_|(refine wB (fun h=>?_) (fun h=>?_)<;>first|exact wN h|subst (h:(_:Bool)=_)|skip)|(refine wQ ?_;clear hQ hR hE hM)|fail)
  rw[<-hg];rfl
theorem zkx (hH:HasAll P inv) {jc:Nat} {caps:List AV} {p:Track->Bool} (l:List Track) (hc:∀ x∈l,PC P inv jc ([.agg x.c]++caps) (·=.b (p x))) (hl:l.length<=1000000000):PC P inv 96 [.sl 2 (l.map Track.c),.fn jc caps] (·=.n (za3 p 0 l)):=by
 refine PC.fn hH cd96 fun w0 M Q hM hE hQ hR=>?_;dsimp only[cd96,qm,qi,qb,qc,qN,qt]at hQ |-
 (repeat' first|refine zaa [0,1,4,5,7,8,9,16] fun K hK=>?_|(refine hK.go ?_;clear hK K)|with_reducible exact wT|refine wA ?_|(refine wB (fun h=>?_) (fun h=>?_)<;>first|exact wN h|subst (h:(_:Bool)=_)|skip)|(refine wQ ?_;clear hQ hR hE hM)|fail)
 refine zci (fun k=>[(0,.sl 2 (l.map Track.c)),(1,.fn jc caps),(7,.n l.length),(8,.n k)]) (fun k=>[]) (l.length) (fun k=>za3 p k (l.drop k)=za3 p 0 l) ?_;rintro k ⟨hk,hg⟩;rcases Nat.lt_or_ge k l.length with hlt|hge
 ·rw[zaf hlt]at hg
  rw[za3]at hg
  (repeat' first|refine zaa [0,1,4,5,7,8,9,16] fun K hK=>?_|(refine hK.go ?_;clear hK K)|with_reducible exact wT|refine wA ?_|(refine wB (fun h=>?_) (fun h=>?_)<;>first|exact wN h|subst (h:(_:Bool)=_)|skip)|(refine wQ ?_;clear hQ hR hE hM)|(refine zay hM (hc _ (zab hlt)) ?_;try refine wD ?_)|fail)
  ·rw[<-hg,if_pos h]
  ·exact ⟨k+1,by omega,⟨by omega,by rw[<-hg,if_neg (by rw[h];simp)];rfl⟩,(by (try dsimp only);(first|omega|(simp;done)|(simp;omega)))⟩
 ·rw[List.drop_eq_nil_of_le hge]at hg
  (repeat' first|refine zaa [0,1,4,5,7,8,9,16] fun K hK=>?_|(refine hK.go ?_;clear hK K)|with_reducible exact wT|refine wA ?_|(refine wB (fun h=>?_) (fun h=>?_)<;>first|exact wN h|subst (h:(_:Bool)=_)|skip)|(refine wQ ?_;clear hQ hR hE hM)|fail)
  rw[<-hg];rfl
theorem zil (hH:HasAll P inv) {jc:Nat} {caps:List AV} {p:Switch->Bool} (l:List Switch) (hc:∀ x∈l,PC P inv jc ([.agg x.c]++caps) (·=.b (p x))) (hl:l.length<=1000000000):PC P inv 97 [.sl 3 (l.map Switch.c),.fn jc caps] (·=.n (za3 p 0 l)):=by
 refine PC.fn hH cd97 fun w0 M Q hM hE hQ hR=>?_;dsimp only[cd97,qm,qi,qb,qc,qN,qt]at hQ |-
 (repeat' first|refine zaa [0,1,4,5,7,8,9,16] fun K hK=>?_|(refine hK.go ?_;clear hK K)|with_reducible exact wT|refine wA ?_|(refine wB (fun h=>?_) (fun h=>?_)<;>first|exact wN h|subst (h:(_:Bool)=_)|skip)|(refine wQ ?_;clear hQ hR hE hM)|fail)
 refine zci (fun k=>[(0,.sl 3 (l.map Switch.c)),(1,.fn jc caps),(7,.n l.length),(8,.n k)]) (fun k=>[]) (l.length) (fun k=>za3 p k (l.drop k)=za3 p 0 l) ?_;rintro k ⟨hk,hg⟩;rcases Nat.lt_or_ge k l.length with hlt|hge
 ·rw[zaf hlt]at hg
  rw[za3]at hg
  (repeat' first|refine zaa [0,1,4,5,7,8,9,16] fun K hK=>?_|(refine hK.go ?_;clear hK K)|with_reducible exact wT|refine wA ?_|(refine wB (fun h=>?_) (fun h=>?_)<;>first|exact wN h|subst (h:(_:Bool)=_)|skip)|(refine wQ ?_;clear hQ hR hE hM)|(refine zay hM (hc _ (zab hlt)) ?_;try refine wD ?_)|fail)
  ·rw[<-hg,if_pos h]
  ·exact ⟨k+1,by omega,⟨by omega,by rw[<-hg,if_neg (by rw[h];simp)];rfl⟩,(by (try dsimp only);(first|omega|(simp;done)|(simp;omega)))⟩
 ·rw[List.drop_eq_nil_of_le hge]at hg
  (repeat' first|refine zaa [0,1,4,5,7,8,9,16] fun K hK=>?_|(refine hK.go ?_;clear hK K)|with_reducible exact wT|refine wA ?_|(refine wB (fun h=>?_) (fun h=>?_)<;>first|exact wN h|subst (h:(_:Bool)=_)|skip)|(refine wQ ?_;clear hQ hR hE hM)|fail)
  rw[<-hg];rfl
theorem zmR (hH:HasAll P inv) {jc:Nat} {caps:List AV} {p:Lock->Bool} (l:List Lock) (hc:∀ x∈l,PC P inv jc ([.agg x.c]++caps) (·=.b (p x))) (hl:l.length<=1000000000):PC P inv 173 [.sl 4 (l.map Lock.c),.fn jc caps] (·=.n (za3 p 0 l)):=by
 refine PC.fn hH cd173 fun w0 M Q hM hE hQ hR=>?_;dsimp only[cd173,qm,qi,qb,qc,qN,qt]at hQ |-
 (repeat' first|refine zaa [0,1,4,5,7,8,9,16] fun K hK=>?_|(refine hK.go ?_;clear hK K)|with_reducible exact wT|refine wA ?_|(refine wB (fun h=>?_) (fun h=>?_)<;>first|exact wN h|subst (h:(_:Bool)=_)|skip)|(refine wQ ?_;clear hQ hR hE hM)|fail)
 refine zci (fun k=>[(0,.sl 4 (l.map Lock.c)),(1,.fn jc caps),(7,.n l.length),(8,.n k)]) (fun k=>[]) (l.length) (fun k=>za3 p k (l.drop k)=za3 p 0 l) ?_;rintro k ⟨hk,hg⟩;rcases Nat.lt_or_ge k l.length with hlt|hge
 ·rw[zaf hlt]at hg
  rw[za3]at hg
  (repeat' first|refine zaa [0,1,4,5,7,8,9,16] fun K hK=>?_|(refine hK.go ?_;clear hK K)|with_reducible exact wT|refine wA ?_|(refine wB (fun h=>?_) (fun h=>?_)<;>first|exact wN h|subst (h:(_:Bool)=_)|skip)|(refine wQ ?_;clear hQ hR hE hM)|(refine zay hM (hc _ (zab hlt)) ?_;try refine wD ?_)|fail)
  ·rw[<-hg,if_pos h]
  ·exact ⟨k+1,by omega,⟨by omega,by rw[<-hg,if_neg (by rw[h];simp)];rfl⟩,(by (try dsimp only);(first|omega|(simp;done)|(simp;omega)))⟩
 ·rw[List.drop_eq_nil_of_le hge]at hg
  (repeat' first|refine zaa [0,1,4,5,7,8,9,16] fun K hK=>?_|(refine hK.go ?_;clear hK K)|with_reducible exact wT|refine wA ?_|(refine wB (fun h=>?_) (fun h=>?_)<;>first|exact wN h|subst (h:(_:Bool)=_)|skip)|(refine wQ ?_;clear hQ hR hE hM)|fail)
  rw[<-hg];rfl
theorem idx_int (hH:HasAll P inv) {jc:Nat} {caps:List AV} {p:Int->Bool} (l:List Int) (hc:∀ x∈l,PC P inv jc ([.n x]++caps) (·=.b (p x))) (hl:l.length<=1000000000):PC P inv 185 [.sl 1 (l.map zcG),.fn jc caps] (·=.n (za3 p 0 l)):=by
 refine PC.fn hH cd185 fun w0 M Q hM hE hQ hR=>?_;dsimp only[cd185,qm,ql,qi,qb,qc,qN,qt]at hQ |-
 (repeat' first|refine zaa [0,1,4,5,7,8,9,16] fun K hK=>?_|(refine hK.go ?_;clear hK K)|with_reducible exact wT|refine wA ?_|(refine wB (fun h=>?_) (fun h=>?_)<;>first|exact wN h|subst (h:(_:Bool)=_)|skip)|(refine wQ ?_;clear hQ hR hE hM)|fail)
 refine zci (fun k=>[(0,.sl 1 (l.map zcG)),(1,.fn jc caps),(7,.n l.length),(8,.n k)]) (fun k=>[]) (l.length) (fun k=>za3 p k (l.drop k)=za3 p 0 l) ?_;rintro k ⟨hk,hg⟩;rcases Nat.lt_or_ge k l.length with hlt|hge
 ·rw[zaf hlt]at hg
  rw[za3]at hg
  (repeat' first|refine zaa [0,1,4,5,7,8,9,16] fun K hK=>?_|(refine hK.go ?_;clear hK K)|with_reducible exact wT|refine wA ?_|(refine wB (fun h=>?_) (fun h=>?_)<;>first|exact wN h|subst (h:(_:Bool)=_)|skip)|(refine wQ ?_;clear hQ hR hE hM)|(refine zay hM (hc _ (zab hlt)) ?_;try refine wD ?_)|fail)
  ·rw[<-hg,if_pos h]
  ·exact ⟨k+1,by omega,⟨by omega,by rw[<-hg,if_neg (by rw[h];simp)];rfl⟩,(by (try dsimp only);(first|omega|(simp;done)|(simp;omega)))⟩
 ·rw[List.drop_eq_nil_of_le hge]at hg
  (repeat' first|refine zaa [0,1,4,5,7,8,9,16] fun K hK=>?_|(refine hK.go ?_;clear hK K)|with_reducible exact wT|refine wA ?_|(refine wB (fun h=>?_) (fun h=>?_)<;>first|exact wN h|subst (h:(_:Bool)=_)|skip)|(refine wQ ?_;clear hQ hR hE hM)|fail)
  rw[<-hg];rfl
theorem zb7 {α:Type} [Inhabited α] (p:α->Bool):∀ (l:List α) (k:Int),(za3 p k l=-1/\l.find? p=none)\/∃ i:Nat,i<l.length/\za3 p k l=k+i/\l.find? p=some (nth l i)
 |[],k=>.inl ⟨rfl,rfl⟩
 |x::r,k=>by
  simp only[za3,List.find?_cons]
  cases h:p x with
  |true=>exact .inr ⟨0,by simp,by simp,rfl⟩
  |false =>
   rcases zb7 p r (k+1) with ⟨h1,h2⟩|⟨i,h1,h2,h3⟩
   ·exact .inl ⟨by simpa using h1,h2⟩
   ·exact .inr ⟨i+1,by simp;omega,by simp[h2];omega,by simp only[h3];rfl⟩
theorem is_rte (hH:HasAll P inv) (hI:HasIds P inv) (n:Int) (x:Rte):PC P inv 139 ([.agg x.c]++[.ip 1 [[.n n]] 0 0]) (·=.b (decide (x.id=n))):=by
 refine PC.fn hH cd139 fun w0 M Q hM hE hQ hR=>?_;dsimp only[cd139,qm,ql,qb,qN,qt]at hQ |-
 (repeat' first|refine zaa [0,1,2,3] fun K hK=>?_|(refine hK.go ?_;clear hK K)|with_reducible exact wT|refine wA ?_|(refine wB (fun h=>?_) (fun h=>?_)<;>first|exact wN h|subst (h:(_:Bool)=_)|skip)|(refine wQ ?_;clear hQ hR hE hM)|(refine zay hM (hI.rte _) ?_;try refine wD ?_)|fail)
 all_goals (first|rfl|(grind[])|(simp[ *];done)|(simp_all [];done)|(simp_all []<;>first|omega|((repeat' split)<;>first|rfl|(exfalso;omega))))
def Rte.z:Rte:=⟨0,0,0,[],[],[],0⟩
theorem find_rte (hH:HasAll P inv) (hI:HasIds P inv) (l:List Rte) (hl:l.length<=1000000000) (n:Int):PC P inv 127 [.sl 7 (l.map Rte.c),.n n] (·=.tup [.agg ((l.find? fun x=>decide (x.id=n)).getD Rte.z).c,.b (l.find? fun x=>decide (x.id=n)).isSome]):=by
 have hs:=zb7 (fun x:Rte=>decide (x.id=n)) l 0
 refine PC.fn hH cd127 fun w0 M Q hM hE hQ hR=>?_;dsimp only[cd127,qm,qi,qc,qN,qt]at hQ |-
 (repeat' first|refine zaa [0,1,3,4,5,6,7,12] fun K hK=>?_|(refine hK.go ?_;clear hK K)|with_reducible exact wT|refine wA ?_|(refine wB (fun h=>?_) (fun h=>?_)<;>first|exact wN h|subst (h:(_:Bool)=_)|skip)|(refine wQ ?_;clear hQ hR hE hM)|(refine ze4 hM 4 (idx_rte hH l (fun x _=>is_rte hH hI n x) hl) ?_ rfl ?_;(focus exact wF);try refine wD ?_)|fail)
 ·rcases hs with ⟨h1,h2⟩|⟨i,h1,h2,h3⟩
  ·rw[h2];rfl
  ·omega
 ·rcases hs with ⟨h1,_⟩|⟨i,h1,h2,h3⟩
  ·omega
  ·rw[show (za3 (fun x:Rte=>decide (x.id=n)) 0 l).toNat=i by omega]
   (refine wD ?_;try with_reducible exact wT)
   (repeat' first|refine zaa [0,1,3,4,5,6,7,12] fun K hK=>?_|(refine hK.go ?_;clear hK K)|with_reducible exact wT|refine wA ?_|(refine wB (fun h=>?_) (fun h=>?_)<;>first|exact wN h|subst (h:(_:Bool)=_)|skip)|(refine wQ ?_;clear hQ hR hE hM)|fail)
   rw[h3];rfl
theorem is_sgn (hH:HasAll P inv) (hI:HasIds P inv) (n:Int) (x:Sgn):PC P inv 144 ([.agg x.c]++[.ip 1 [[.n n]] 0 0]) (·=.b (decide (x.id=n))):=by
 refine PC.fn hH cd144 fun w0 M Q hM hE hQ hR=>?_;dsimp only[cd144,qm,ql,qb,qN,qt]at hQ |-
 (repeat' first|refine zaa [0,1,2,3] fun K hK=>?_|(refine hK.go ?_;clear hK K)|with_reducible exact wT|refine wA ?_|(refine wB (fun h=>?_) (fun h=>?_)<;>first|exact wN h|subst (h:(_:Bool)=_)|skip)|(refine wQ ?_;clear hQ hR hE hM)|(refine zay hM (hI.sgn _) ?_;try refine wD ?_)|fail)
 all_goals (first|rfl|(grind[])|(simp[ *];done)|(simp_all [];done)|(simp_all []<;>first|omega|((repeat' split)<;>first|rfl|(exfalso;omega))))
def Sgn.z:Sgn:=⟨0,0,0⟩
theorem zn4 (hH:HasAll P inv) (hI:HasIds P inv) (l:List Sgn) (hl:l.length<=1000000000) (n:Int):PC P inv 136 [.sl 3 (l.map Sgn.c),.n n] (·=.tup [.agg ((l.find? fun x=>decide (x.id=n)).getD Sgn.z).c,.b (l.find? fun x=>decide (x.id=n)).isSome]):=by
 have hs:=zb7 (fun x:Sgn=>decide (x.id=n)) l 0
 refine PC.fn hH cd136 fun w0 M Q hM hE hQ hR=>?_;dsimp only[cd136,qm,qi,qc,qN,qt]at hQ |-
 (repeat' first|refine zaa [0,1,3,4,5,6,7,12] fun K hK=>?_|(refine hK.go ?_;clear hK K)|with_reducible exact wT|refine wA ?_|(refine wB (fun h=>?_) (fun h=>?_)<;>first|exact wN h|subst (h:(_:Bool)=_)|skip)|(refine wQ ?_;clear hQ hR hE hM)|(refine ze4 hM 4 (idx_sgn hH l (fun x _=>is_sgn hH hI n x) hl) ?_ rfl ?_;(focus exact wF);try refine wD ?_)|fail)
 ·rcases hs with ⟨h1,h2⟩|⟨i,h1,h2,h3⟩
  ·rw[h2];rfl
  ·omega
 ·rcases hs with ⟨h1,_⟩|⟨i,h1,h2,h3⟩
  ·omega
  ·rw[show (za3 (fun x:Sgn=>decide (x.id=n)) 0 l).toNat=i by omega]
   (refine wD ?_;try with_reducible exact wT)
   (repeat' first|refine zaa [0,1,3,4,5,6,7,12] fun K hK=>?_|(refine hK.go ?_;clear hK K)|with_reducible exact wT|refine wA ?_|(refine wB (fun h=>?_) (fun h=>?_)<;>first|exact wN h|subst (h:(_:Bool)=_)|skip)|(refine wQ ?_;clear hQ hR hE hM)|fail)
   rw[h3];rfl
theorem is_pnt (hH:HasAll P inv) (hI:HasIds P inv) (n:Int) (x:Pnt):PC P inv 145 ([.agg x.c]++[.ip 1 [[.n n]] 0 0]) (·=.b (decide (x.id=n))):=by
 refine PC.fn hH cd145 fun w0 M Q hM hE hQ hR=>?_;dsimp only[cd145,qm,ql,qb,qN,qt]at hQ |-
 (repeat' first|refine zaa [0,1,2,3] fun K hK=>?_|(refine hK.go ?_;clear hK K)|with_reducible exact wT|refine wA ?_|(refine wB (fun h=>?_) (fun h=>?_)<;>first|exact wN h|subst (h:(_:Bool)=_)|skip)|(refine wQ ?_;clear hQ hR hE hM)|(refine zay hM (hI.pnt _) ?_;try refine wD ?_)|fail)
 all_goals (first|rfl|(grind[])|(simp[ *];done)|(simp_all [];done)|(simp_all []<;>first|omega|((repeat' split)<;>first|rfl|(exfalso;omega))))
def Pnt.z:Pnt:=⟨0,0⟩
theorem find_pnt (hH:HasAll P inv) (hI:HasIds P inv) (l:List Pnt) (hl:l.length<=1000000000) (n:Int):PC P inv 137 [.sl 2 (l.map Pnt.c),.n n] (·=.tup [.agg ((l.find? fun x=>decide (x.id=n)).getD Pnt.z).c,.b (l.find? fun x=>decide (x.id=n)).isSome]):=by
 have hs:=zb7 (fun x:Pnt=>decide (x.id=n)) l 0
 refine PC.fn hH cd137 fun w0 M Q hM hE hQ hR=>?_;dsimp only[cd137,qm,qi,qc,qN,qt]at hQ |-
 (repeat' first|refine zaa [0,1,3,4,5,6,7,12] fun K hK=>?_|(refine hK.go ?_;clear hK K)|with_reducible exact wT|refine wA ?_|(refine wB (fun h=>?_) (fun h=>?_)<;>first|exact wN h|subst (h:(_:Bool)=_)|skip)|(refine wQ ?_;clear hQ hR hE hM)|(refine ze4 hM 4 (zin hH l (fun x _=>is_pnt hH hI n x) hl) ?_ rfl ?_;(focus exact wF);try refine wD ?_)|fail)
 ·rcases hs with ⟨h1,h2⟩|⟨i,h1,h2,h3⟩
  ·rw[h2];rfl
  ·omega
 ·rcases hs with ⟨h1,_⟩|⟨i,h1,h2,h3⟩
  ·omega
  ·rw[show (za3 (fun x:Pnt=>decide (x.id=n)) 0 l).toNat=i by omega]
   (refine wD ?_;try with_reducible exact wT)
   (repeat' first|refine zaa [0,1,3,4,5,6,7,12] fun K hK=>?_|(refine hK.go ?_;clear hK K)|with_reducible exact wT|refine wA ?_|(refine wB (fun h=>?_) (fun h=>?_)<;>first|exact wN h|subst (h:(_:Bool)=_)|skip)|(refine wQ ?_;clear hQ hR hE hM)|fail)
   rw[h3];rfl
theorem zqZ (f:Nat->Option (List AV)) (k:IntKind) (l:List Int):zck f (l.map (AV.i k))=l.map (AV.i k):=zcE f _ (zdc k l)
theorem zrD (f:Nat->Option (List AV)) (l:List Bool):zck f (l.map AV.b)=l.map AV.b:=zcE f _ (ze2 l)
attribute [go_sem] zqZ zrD
theorem idxG_any {α:Type} [Inhabited α] (p:α->Bool) (l:List α):decide (0<=za3 p 0 l)=l.any p:=by
 have h:∀ (l:List α) (k:Int),0<=k->(0<=za3 p k l↔l.any p=true):=by
  intro l
  induction l with
  |nil=>intro k _;simp[za3]
  |cons x r ih =>
   intro k hk
   rw[za3,List.any_cons]
   cases h:p x with
   |true=>simp[hk]
   |false=>simpa using ih (k+1) (by omega)
 have:=h l 0 (by omega)
 grind
theorem any_pnt (hH:HasAll P inv) {jc:Nat} {caps:List AV} {p:Pnt->Bool} (l:List Pnt) (hc:∀ x∈l,PC P inv jc ([.agg x.c]++caps) (·=.b (p x))) (hl:l.length<=1000000000):PC P inv 91 [.sl 2 (l.map Pnt.c),.fn jc caps] (·=.b (l.any p)):=by
 rw[<-idxG_any]
 refine PC.fn hH cd91 fun w0 M Q hM hE hQ hR=>?_;dsimp only[cd91,qm,qc,qN,qt]at hQ |-
 (repeat' first|refine zaa [0,1,4] fun K hK=>?_|(refine hK.go ?_;clear hK K)|with_reducible exact wT|refine wA ?_|(refine wB (fun h=>?_) (fun h=>?_)<;>first|exact wN h|subst (h:(_:Bool)=_)|skip)|(refine wQ ?_;clear hQ hR hE hM)|refine wC (zin hH l hc hl) ?_|fail)
def zcp (i:Int):Bool:=decide (1<=i)&&decide (i<=99)
theorem zfm (hH:HasAll P inv) (i:Int):PC P inv 50 [.n i] (·=.b (zcp i)):=by
 refine PC.fn hH cd50 fun w0 M Q hM hE hQ hR=>?_;dsimp only[cd50,qm,qc,qp,qN,qT]at hQ |-
 (repeat' first|refine zaa [0,2] fun K hK=>?_|(refine hK.go ?_;clear hK K)|with_reducible exact wT|refine wA ?_|(refine wB (fun h=>?_) (fun h=>?_)<;>first|exact wN h|subst (h:(_:Bool)=_)|skip)|(refine wQ ?_;clear hQ hR hE hM)|fail)
 all_goals (first|rfl|(grind[zcp])|(simp[zcp, *];done)|(simp_all [zcp];done)|(simp_all [zcp]<;>first|omega|((repeat' split)<;>first|rfl|(exfalso;omega))))
def zcO (s:Section):Bool:=(decide (s.pt=0)&&decide ((s.ends.length:Int)=2))||(zcp s.pt&&decide ((s.ends.length:Int)=3))
theorem zk1 (hH:HasAll P inv) (s:Section):PC P inv 41 [.agg s.c] (·=.b (zcO s)):=by
 refine PC.fn hH cd41 fun w0 M Q hM hE hQ hR=>?_;dsimp only[cd41,qm,ql,qf,qc,qp,qv,qN,qT,qF,qt]at hQ |-
 (repeat' first|refine zaa [0,1,2] fun K hK=>?_|(refine hK.go ?_;clear hK K)|with_reducible exact wT|refine wA ?_|(refine wB (fun h=>?_) (fun h=>?_)<;>first|exact wN h|subst (h:(_:Bool)=_)|skip)|(refine wQ ?_;clear hQ hR hE hM)|(refine zay hM (zfm hH _) ?_;try refine wD ?_)|fail)
 all_goals (first|rfl|(grind[zcO])|(simp[zcO, *];done)|(simp_all [zcO];done)|(simp_all [zcO]<;>first|omega|((repeat' split)<;>first|rfl|(exfalso;omega))))
theorem isNaN_pc (hH:HasAll P inv) (i:Int):PC P inv 55 [.n i] (·=.b false):=by
 refine PC.fn hH cd55 fun w0 M Q hM hE hQ hR=>?_;dsimp only[cd55,qm,qb,qN]at hQ |-
 (repeat' first|refine zaa [0,2] fun K hK=>?_|(refine hK.go ?_;clear hK K)|with_reducible exact wT|refine wA ?_|(refine wB (fun h=>?_) (fun h=>?_)<;>first|exact wN h|subst (h:(_:Bool)=_)|skip)|(refine wQ ?_;clear hQ hR hE hM)|fail)
 all_goals (first|rfl|(grind[])|(simp[ *];done)|(simp_all [];done)|(simp_all []<;>first|omega|((repeat' split)<;>first|rfl|(exfalso;omega))))
def zlV (a b:Int):Int:=if a<b then -1 else if b<a then 1 else 0
theorem cmp_pc (hH:HasAll P inv) (a b:Int):PC P inv 53 [.n a,.n b] (·=.n (zlV a b)):=by
 refine PC.fn hH cd53 fun w0 M Q hM hE hQ hR=>?_;dsimp only[cd53,qm,qb,qN,qt]at hQ |-
 (repeat' first|refine zaa [0,1,4,5,6,11,12,13,16,19] fun K hK=>?_|(refine hK.go ?_;clear hK K)|with_reducible exact wT|refine wA ?_|(refine wB (fun h=>?_) (fun h=>?_)<;>first|exact wN h|subst (h:(_:Bool)=_)|skip)|(refine wQ ?_;clear hQ hR hE hM)|(refine zay hM (isNaN_pc hH _) ?_;try refine wD ?_)|fail)
 all_goals (first|rfl|(grind[zlV])|(simp[zlV, *];done)|(simp_all [zlV];done)|(simp_all [zlV]<;>first|omega|((repeat' split)<;>first|rfl|(exfalso;omega))))
theorem zlm (hH:HasAll P inv) (s:Section) (b:Int):PC P inv 52 [.agg s.c,.n b] (·=.n (zlV s.id b)):=by
 refine PC.fn hH cd52 fun w0 M Q hM hE hQ hR=>?_;dsimp only[cd52,qm,ql,qf,qN,qt]at hQ |-
 (repeat' first|refine zaa [0,1,2,4] fun K hK=>?_|(refine hK.go ?_;clear hK K)|with_reducible exact wT|refine wA ?_|(refine wB (fun h=>?_) (fun h=>?_)<;>first|exact wN h|subst (h:(_:Bool)=_)|skip)|(refine wQ ?_;clear hQ hR hE hM)|(refine zay hM (cmp_pc hH _ _) ?_;try refine wD ?_)|fail)
 all_goals (first|rfl|(grind[zlV])|(simp[zlV, *];done)|(simp_all [zlV];done)|(simp_all [zlV]<;>first|omega|((repeat' split)<;>first|rfl|(exfalso;omega))))
def zhx (l:List Section) (id:Int) (i j:Nat):Nat :=
 if _h:i<j then if zlV (nth l ((i+j) / 2)).id id<0 then zhx l id ((i+j) / 2+1) j else zhx l id i ((i+j) / 2) else i
termination_by j-i
def zan (l:List Section) (id:Int):Nat×Bool :=
 (zhx l id 0 l.length,decide (zhx l id 0 l.length<l.length)&&decide (zlV (nth l (zhx l id 0 l.length)).id id=0))
theorem zlZ {l:List Section} {id:Int} {i j:Nat} (h:i<j):zhx l id i j=if zlV (nth l ((i+j) / 2)).id id<0 then zhx l id ((i+j) / 2+1) j else zhx l id i ((i+j) / 2):=by
 rw[zhx,dif_pos h]
theorem zkO {l:List Section} {id:Int} {i:Nat}:zhx l id i i=i:=by rw[zhx,dif_neg (by omega)]
theorem zrC (l:List Section) (id:Int):∀ (n i j:Nat),j-i<=n->i<=j->i<=zhx l id i j/\zhx l id i j<=j:=by
 intro n
 induction n with
 |zero=>intro i j h hij;unfold zhx;rw[dif_neg (by omega)];omega
 |succ n ih =>
  intro i j h hij
  unfold zhx
  split
  ·split
   ·have:=ih ((i+j) / 2+1) j (by omega) (by omega);omega
   ·have:=ih i ((i+j) / 2) (by omega) (by omega);omega
  ·omega
theorem bs_pc (hH:HasAll P inv) (l:List Section) (id:Int) (hl:l.length<=1000000000):PC P inv 51 [.sl 3 (l.map Section.c),.n id,.fn 52 []] (·=.tup [.n (zan l id).1,.b (zan l id).2]):=by
 have hb:=zrC l id l.length 0 l.length (by omega) (by omega)
 refine PC.fn hH cd51 fun w0 M Q hM hE hQ hR=>?_;dsimp only[cd51,qm,qi,qb,qc,qp,qN,qT,qt]at hQ |-
 (repeat' first|refine zaa [0,1,2,6,7,8,9,10,11,17,31] fun K hK=>?_|(refine hK.go ?_;clear hK K)|with_reducible exact wT|refine wA ?_|(refine wB (fun h=>?_) (fun h=>?_)<;>first|exact wN h|subst (h:(_:Bool)=_)|skip)|(refine wQ ?_;clear hQ hR hE hM)|fail)
 refine zc0 (ι:=Nat×Nat) (fun k=>[(0,.sl 3 (l.map Section.c)),(1,.n id),(2,.fn 52 []),(8,.n l.length),(9,.n k.1),(10,.n k.2)]) (fun _=>[]) (fun k=>k.1<=k.2/\k.2<=l.length/\zhx l id k.1 k.2=zhx l id 0 l.length) (fun k=>k.2-k.1) (0,l.length) ⟨by omega,by omega,rfl⟩ ?_ ?_ ?_
 ·(refine wD ?_;try with_reducible exact wT)
  rfl
 ·(refine wD ?_;try with_reducible exact wT)
 rintro ⟨i,j⟩ ⟨h1,h2,hg⟩
 dsimp only at h1 h2 hg |-
 rcases Nat.lt_or_ge i j with hlt|hge
 ·rw[zlZ hlt]at hg
  have e1:(((i:Int)+j) / 2).toNat=(i+j) / 2:=by omega
  (repeat' first|refine zaa [0,1,2,6,7,8,9,10,11,17,31] fun K hK=>?_|(refine hK.go ?_;clear hK K)|with_reducible exact wT|refine wA ?_|(refine wB (fun h=>?_) (fun h=>?_)<;>first|exact wN h|subst (h:(_:Bool)=_)|skip)|(refine wQ ?_;clear hQ hR hE hM)|(refine zay hM (zlm hH _ _) ?_;try refine wD ?_)|fail)
  ·simp only[e1]at h
   rw[if_pos h]at hg
   exact ⟨((i+j) / 2+1,j),by dsimp only;omega,⟨by dsimp only;omega,h2,hg⟩,(by (try dsimp only);(first|omega|(simp;done)|(simp;omega)))⟩
  ·simp only[e1]at h
   rw[if_neg (by omega)]at hg
   exact ⟨(i,(i+j) / 2),by dsimp only;omega,⟨by dsimp only;omega,by dsimp only;omega,hg⟩,(by (try dsimp only);(first|omega|(simp;done)|(simp;omega)))⟩
 ·obtain rfl:i=j:=by omega
  rw[zkO]at hg
  (repeat' first|refine zaa [0,1,2,6,7,8,9,10,11,17,31] fun K hK=>?_|(refine hK.go ?_;clear hK K)|with_reducible exact wT|refine wA ?_|(refine wB (fun h=>?_) (fun h=>?_)<;>first|exact wN h|subst (h:(_:Bool)=_)|skip)|(refine wQ ?_;clear hQ hR hE hM)|(refine zay hM (zlm hH _ _) ?_;try refine wD ?_)|fail)
  ·have h':zhx l id 0 l.length<l.length:=by omega
   subst hg
   simp[zan,h']
  ·have h':¬zhx l id 0 l.length<l.length:=by omega
   subst hg
   simp[zan,h']
theorem place_pc (hH:HasAll P inv) (l:List Section) (id:Int) (hl:l.length<=1000000000):PC P inv 46 [.sl 3 (l.map Section.c),.n id] (·=.tup [.n (zan l id).1,.b (zan l id).2]):=by
 refine PC.fn hH cd46 fun w0 M Q hM hE hQ hR=>?_;dsimp only[cd46,qm,qN,qt]at hQ |-
 (repeat' first|refine zaa [0,1,4,5] fun K hK=>?_|(refine hK.go ?_;clear hK K)|with_reducible exact wT|refine wA ?_|(refine wB (fun h=>?_) (fun h=>?_)<;>first|exact wN h|subst (h:(_:Bool)=_)|skip)|(refine wQ ?_;clear hQ hR hE hM)|(refine zay hM (bs_pc hH _ _ (by omega)) ?_;try refine wD ?_)|fail)
def zdR (id:Int) (k:Nat):List Section->Int
 |[]=>-1
 |x::r=>if x.id=id then k else zdR id (k+1) r
theorem zl2 (hH:HasAll P inv) (l:List Section) (id:Int) (hl:l.length<=1000000000):PC P inv 49 [.sl 3 (l.map Section.c),.n id] (·=.n (zdR id 0 l)):=by
 refine PC.fn hH cd49 fun w0 M Q hM hE hQ hR=>?_;dsimp only[cd49,qm,ql,qf,qi,qb,qc,qN,qt]at hQ |-
 (repeat' first|refine zaa [0,1,4,5,9,18] fun K hK=>?_|(refine hK.go ?_;clear hK K)|with_reducible exact wT|refine wA ?_|(refine wB (fun h=>?_) (fun h=>?_)<;>first|exact wN h|subst (h:(_:Bool)=_)|skip)|(refine wQ ?_;clear hQ hR hE hM)|fail)
 refine zc0 (fun k:Nat=>[(0,.sl 3 (l.map Section.c)),(1,.n id),(5,.n k)]) (fun _=>[]) (fun k=>k<=l.length/\zdR id k (l.drop k)=zdR id 0 l) (fun k=>l.length-k) 0 ⟨Nat.zero_le _,rfl⟩ ?_ ?_ ?_
 ·(refine wD ?_;try with_reducible exact wT)
  rfl
 ·(refine wD ?_;try with_reducible exact wT)
 rintro k ⟨hk,hg⟩
 rcases Nat.lt_or_ge k l.length with hlt|hge
 ·rw[zaf hlt]at hg
  rw[zdR]at hg
  (repeat' first|refine zaa [0,1,4,5,9,18] fun K hK=>?_|(refine hK.go ?_;clear hK K)|with_reducible exact wT|refine wA ?_|(refine wB (fun h=>?_) (fun h=>?_)<;>first|exact wN h|subst (h:(_:Bool)=_)|skip)|(refine wQ ?_;clear hQ hR hE hM)|fail)
  ·rw[if_pos h]at hg;exact hg
  ·rw[if_neg h]at hg;exact ⟨k+1,by omega,⟨by omega,hg⟩,by simp⟩
 ·obtain rfl:k=l.length:=by omega
  rw[List.drop_length]at hg
  (repeat' first|refine zaa [0,1,4,5,9,18] fun K hK=>?_|(refine hK.go ?_;clear hK K)|with_reducible exact wT|refine wA ?_|(refine wB (fun h=>?_) (fun h=>?_)<;>first|exact wN h|subst (h:(_:Bool)=_)|skip)|(refine wQ ?_;clear hQ hR hE hM)|fail)
  exact hg
def zgn (pt:Int):List Int:=if pt=0 then [0,3,0,3,0,0,0,0,0] else [0,1,2,1,0,0,2,0,0]
theorem ways_pc (hH:HasAll P inv) (s:Section):PC P inv 42 [.agg s.c] (·=.agg ((zgn s.pt).map AV.n)):=by
 refine PC.fn hH cd42 fun w0 M Q hM hE hQ hR=>?_;dsimp only[cd42,ql,qf,qc,qN,qt]at hQ |-
 (repeat' first|refine zaa [0,1,2,5] fun K hK=>?_|(refine hK.go ?_;clear hK K)|with_reducible exact wT|refine wA ?_|(refine wB (fun h=>?_) (fun h=>?_)<;>first|exact wN h|subst (h:(_:Bool)=_)|skip)|(refine wQ ?_;clear hQ hR hE hM)|fail)
 all_goals (first|rfl|(grind[zgn])|(simp[zgn, *];done)|(simp_all [zgn];done)|(simp_all [zgn]<;>first|omega|((repeat' split)<;>first|rfl|(exfalso;omega))))
def zbD (s:Section):Bool:=if s.pt=0 then decide ((s.ends.length:Int)=2) else decide (1<=s.pt)&&decide (s.pt<=99)&&decide ((s.ends.length:Int)=3)
theorem zoy (hH:HasAll P inv) (s:Section):PC P inv 43 [.agg s.c] (·=.b (zbD s)):=by
 refine PC.fn hH cd43 fun w0 M Q hM hE hQ hR=>?_;dsimp only[cd43,qm,ql,qf,qc,qp,qN,qT,qt]at hQ |-
 (repeat' first|refine zaa [0,1,2,5] fun K hK=>?_|(refine hK.go ?_;clear hK K)|with_reducible exact wT|refine wA ?_|(refine wB (fun h=>?_) (fun h=>?_)<;>first|exact wN h|subst (h:(_:Bool)=_)|skip)|(refine wQ ?_;clear hQ hR hE hM)|fail)
 all_goals (first|rfl|(grind[zbD])|(simp[zbD, *];done)|(simp_all [zbD];done)|(simp_all [zbD]<;>first|omega|((repeat' split)<;>first|rfl|(exfalso;omega))))
def zh4 (s:Section) (f t:Int):Int:=if s.pt=0 then (if f=0/\t=1\/f=1/\t=0 then 0 else -1) else if f=0/\(t=1\/t=2) then t else if t=0/\(f=1\/f=2) then f else -1
theorem zp1 (hH:HasAll P inv) (s:Section) (f t:Int):PC P inv 44 [.agg s.c,.n f,.n t] (·=.n (zh4 s f t)):=by
 refine PC.fn hH cd44 fun w0 M Q hM hE hQ hR=>?_;dsimp only[cd44,qm,ql,qf,qc,qp,qv,qN,qT,qF,qt]at hQ |-
 (repeat' first|refine zaa [0,1,2,3,6,9,23,33,44] fun K hK=>?_|(refine hK.go ?_;clear hK K)|with_reducible exact wT|refine wA ?_|(refine wB (fun h=>?_) (fun h=>?_)<;>first|exact wN h|subst (h:(_:Bool)=_)|skip)|(refine wQ ?_;clear hQ hR hE hM)|fail)
 all_goals (first|rfl|(grind[zh4])|(simp[zh4, *];done)|(simp_all [zh4];done)|(simp_all [zh4]<;>first|omega|((repeat' split)<;>first|rfl|(exfalso;omega))))
def idxGo (v:Int) (k:Nat):List Int->Int
 |[]=>-1
 |x::r=>if v=x then k else idxGo v (k+1) r
def rGreat (l:List Section):Bool:=(l.take 40).any (fun s=>decide (20<(s.ends.length:Int)))||decide (40<(l.length:Int))
def rSame (a b:Section):Bool:=decide (a.id=b.id)&&decide (a.pt=b.pt)&&decide (a.ends=b.ends)
def routGo (s:Section) (f lie:Int):Nat->Nat->AV
 |_,0=>.tup [.n 0,.n 2]
 |k,m+1=>if zh4 s f k=lie then .tup [.n k,.n 0] else routGo s f lie (k+1) m
def zdk (pt f t:Int):Int:=if pt=0 then (if f=0/\t=1\/f=1/\t=0 then 3 else 0) else if f=0/\(t=1\/t=2) then t else if t=0/\(f=1\/f=2) then f else 0
theorem zdV {f:Int} (h:0<=f/\f<=2):f=0\/f=1\/f=2:=by omega
theorem seg_ways {pt f t:Int} (h:0<=f/\f<=2) (h':0<=t/\t<=2):(((((zgn pt).map AV.n).drop (f.toNat*3)).take 3))[t.toNat]?=some (.n (zdk pt f t)):=by
 rcases zdV h with rfl|rfl|rfl<;>rcases zdV h' with rfl|rfl|rfl<;>by_cases hp:pt=0<;>simp[zgn,zdk,hp]
theorem zpV (pt:Int):(((zgn pt).map AV.n).take 3)=[zdk pt 0 0,zdk pt 0 1,zdk pt 0 2].map AV.n:=by by_cases hp:pt=0<;>simp[zgn,zdk,hp]
theorem zpU (pt:Int):((((zgn pt).map AV.n).drop 3).take 3)=[zdk pt 1 0,zdk pt 1 1,zdk pt 1 2].map AV.n:=by by_cases hp:pt=0<;>simp[zgn,zdk,hp]
theorem zpT (pt:Int):((((zgn pt).map AV.n).drop 6).take 3)=[zdk pt 2 0,zdk pt 2 1,zdk pt 2 2].map AV.n:=by by_cases hp:pt=0<;>simp[zgn,zdk,hp]
attribute [local go_sem] seg_ways zpV zpU zpT
def zjQ (s:Section) (f t:Int):AV:=if zcO s=true then (if f<0\/2<f\/t<0\/2<t\/zdk s.pt f t=0 then .tup [.n 0,.n 2] else .tup [.n ((zdk s.pt f t).tmod 3),.n 0]) else .tup [.n 0,.n 8]
theorem zol (hH:HasAll P inv) (s:Section) (f t:Int):PC P inv 16 [.agg s.c,.n f,.n t] (·=zjQ s f t):=by
 refine PC.fn hH cd16 fun w0 M Q hM hE hQ hR=>?_;dsimp only[cd16,qm,qc,qv,qN,qF,qt]at hQ |-
 (repeat' first|refine zaa [0,1,2,3,6,7,10,33] fun K hK=>?_|(refine hK.go ?_;clear hK K)|with_reducible exact wT|refine wA ?_|(refine wB (fun h=>?_) (fun h=>?_)<;>first|exact wN h|subst (h:(_:Bool)=_)|skip)|(refine wQ ?_;clear hQ hR hE hM)|(refine zay hM (zk1 hH _) ?_;try refine wD ?_)|(refine zay hM (ways_pc hH _) ?_;try refine wD ?_)|fail)
 all_goals (unfold zjQ;simp only[*,if_true,if_false,true_or,or_true,reduceCtorEq,Bool.false_eq_true])
 rw[if_neg (by rintro (a|a|a|a|a)<;>first|omega|contradiction)]
def outL (s:Section) (f lie:Int):Int:=idxGo (if s.pt=0/\lie=0 then 3 else lie) 0 [zdk s.pt f 0,zdk s.pt f 1,zdk s.pt f 2]
def outV (s:Section) (f lie:Int):AV:=if zcO s=true then (if f<0\/2<f\/lie<0\/2<lie then .tup [.n 0,.n 2] else if (¬s.pt=0/\lie=0)\/outL s f lie<0 then .tup [.n 0,.n 2] else .tup [.n (outL s f lie),.n 0]) else .tup [.n 0,.n 8]
theorem zkP (id:Int):∀ (r:List Section) (k:Nat),zdR id k r=-1\/((k:Int)<=zdR id k r/\zdR id k r<k+r.length)
 |[],k=>.inl rfl
 |x::r,k=>by
  unfold zdR
  split
  ·right;simp only[List.length_cons];omega
  ·have:=zkP id r (k+1)
   simp only[List.length_cons]
   omega
def zcD (l:List Section) (s:Section) (e:Nat):Bool :=
 if (nth s.ends e).to=0/\(nth s.ends e).ed=0 then true
 else if zdR (nth s.ends e).to 0 l<0\/(nth s.ends e).ed<0\/((nth l (zdR (nth s.ends e).to 0 l).toNat).ends.length:Int)<=(nth s.ends e).ed\/((nth s.ends e).to=s.id/\(nth s.ends e).ed=(e:Int)) then false
 else decide ((nth (nth l (zdR (nth s.ends e).to 0 l).toNat).ends (nth s.ends e).ed.toNat).to=s.id)&&decide ((nth (nth l (zdR (nth s.ends e).to 0 l).toNat).ends (nth s.ends e).ed.toNat).ed=(e:Int))
theorem zoA (hH:HasAll P inv) (l:List Section) (s:Section) (e:Nat) (he:e<s.ends.length) (hl:l.length<=1000000000):PC P inv 54 [.sl 3 (l.map Section.c),.agg s.c,.n e] (·=.b (zcD l s e)):=by
 have hb:=zkP (nth s.ends e).to l 0
 refine PC.fn hH cd54 fun w0 M Q hM hE hQ hR=>?_;dsimp only[cd54,qm,ql,qf,qi,qb,qc,qp,qv,qN,qT,qF,qt]at hQ |-
 (repeat' first|refine zaa [0,1,2,4,6,7,8,9,22,57] fun K hK=>?_|(refine hK.go ?_;clear hK K)|with_reducible exact wT|refine wA ?_|(refine wB (fun h=>?_) (fun h=>?_)<;>first|exact wN h|subst (h:(_:Bool)=_)|skip)|(refine wQ ?_;clear hQ hR hE hM)|(refine zay hM (zl2 hH _ _ hl) ?_;try refine wD ?_)|fail)
 all_goals (first|rfl|(grind[zcD])|(simp[zcD, *];done)|(simp_all [zcD];done)|(simp_all [zcD]<;>first|omega|((repeat' split)<;>first|rfl|(exfalso;omega))))
def zjk (s x:Section):Bool:=decide (s.id<=x.id)||(!decide (s.pt=0)&&decide (x.pt=s.pt))
def rOk (pre:List Section) (s:Section):Bool:=!(decide (s.id<1)||decide (99<s.id)||!zbD s)&&pre.all fun x=>!zjk s x
def zhc (pre:List Section):List Section->Bool
 |[]=>true
 |s::r=>rOk pre s&&zhc (pre++[s]) r
def zoF (l:List Section):Bool:=l.all fun s=>zbW (zcD l s) 0 s.ends.length
def zcg (l:List Section):Bool:=!decide (16<(l.length:Int))&&zhc [] l&&zoF l
theorem zfH {s:Section} (h:zcO s=true):0<=s.pt/\s.pt<=99/\s.ends.length<=3:=by
 unfold zcO zcp at h
 simp at h
 omega
theorem znG {l:List Section} {id:Int} (h:(zan l id).2=true):(zan l id).1<l.length:=by
 unfold zan at h |-
 simp at h
 exact h.1
def zjE (l:List Section) (k:Nat) (pts:List Bool) (s:Section):Bool:=!zcp s.id||!zcO s||(decide (0<(k:Int))&&decide (s.id<=(nth l ((k:Int)-1).toNat).id))||nth pts s.pt.toNat
def ck1 (l:List Section) (k:Nat) (pts:List Bool):List Section->Bool
 |[]=>true
 |s::r=>!zjE l k pts s&&ck1 l (k+1) (pts.set s.pt.toNat (decide (0<s.pt))) r
def zi7 (l:List Section) (s:Section) (e:Nat):Bool :=
 if (nth s.ends e).to=0/\(nth s.ends e).ed=0 then true
 else !(!(zan l (nth s.ends e).to).2||(decide ((nth s.ends e).to=s.id)&&decide ((nth s.ends e).ed=(e:Int)))||decide ((nth s.ends e).ed<0)||decide (((nth l (zan l (nth s.ends e).to).1).ends.length:Int)<=(nth s.ends e).ed)
  || !(decide ((nth (nth l (zan l (nth s.ends e).to).1).ends (nth s.ends e).ed.toNat).to=s.id)&&decide ((nth (nth l (zan l (nth s.ends e).to).1).ends (nth s.ends e).ed.toNat).ed=(e:Int))))
def ck2 (l:List Section):Bool:=l.all fun s=>zbW (zi7 l s) 0 s.ends.length
def zef (l:List Section):Int:=if 16<(l.length:Int) then 8 else if ck1 l 0 (List.replicate 100 false) l&&ck2 l then 0 else 8
theorem check_pc (hH:HasAll P inv) (l:List Section) (hl:l.length<=1000000000) (he:∀ s∈l,s.ends.length<=9223372036854775807):PC P inv 26 [.sl 3 (l.map Section.c)] (·=.n (zef l)):=by
 refine PC.fn hH cd26 fun w0 M Q hM hE hQ hR=>?_;dsimp only[cd26,qm,ql,qf,qi,qb,qc,qp,qv,qN,qT,qF,qt]at hQ |-
 (repeat' first|refine zaa [0,2,3,4,5,7,8,9,10,11,12,15,16,17,18,19,25,29,52,60,61,62,63,67,68,69,70,76,123] fun K hK=>?_|(refine hK.go ?_;clear hK K)|with_reducible exact wT|refine wA ?_|(refine wB (fun h=>?_) (fun h=>?_)<;>first|exact wN h|subst (h:(_:Bool)=_)|skip)|(refine wQ ?_;clear hQ hR hE hM)|fail)
 ·simp[zef,h]
 refine zc0 (ι:=Nat×List Bool) (fun k=>[(0,.sl 3 (l.map Section.c)),(3,.ptr 0 100 0),(16,.sl 3 (l.map Section.c)),(17,.n l.length),(18,.n k.1)]) (fun k=>[(0,.cells (k.2.map .b) true)]) (fun k=>k.1<=l.length/\k.2.length=100/\ck1 l k.1 k.2 (l.drop k.1)=ck1 l 0 (List.replicate 100 false) l) (fun k=>l.length-k.1) (0,List.replicate 100 false) ⟨Nat.zero_le _,by simp,rfl⟩ (by (try dsimp only);(refine wD ?_;try with_reducible exact wT)<;>omega) ?_ ?_
 ·(refine wD ?_;try with_reducible exact wT)
  simp
 ·rintro ⟨k,pts⟩ ⟨hk,hp,hg⟩
  dsimp only at hk hp hg |-
  rcases Nat.lt_or_ge k l.length with hlt|hge
  ·rw[zaf hlt]at hg
   rw[ck1]at hg
   have hs:=he _ (zab hlt)
   have c:=zk1 hH (nth l k)
   cases hsh:zcO (nth l k)<;>rw[hsh]at c
   ·(repeat' first|refine zaa [0,2,3,4,5,7,8,9,10,11,12,15,16,17,18,19,25,29,52,60,61,62,63,67,68,69,70,76,123] fun K hK=>?_|(refine hK.go ?_;clear hK K)|with_reducible exact wT|refine wA ?_|(refine wB (fun h=>?_) (fun h=>?_)<;>first|exact wN h|subst (h:(_:Bool)=_)|skip)|(refine wQ ?_;clear hQ hR hE hM)|(refine zay hM (zfm hH _) ?_;try refine wD ?_)|refine wC c ?_|fail)
    all_goals (grind[zef,zjE])
   ·have hbd:=zfH hsh
    (have hX:=@hp;(repeat' first|refine zaa [0,2,3,4,5,7,8,9,10,11,12,15,16,17,18,19,25,29,52,60,61,62,63,67,68,69,70,76,123] fun K hK=>?_|(refine hK.go ?_;clear hK K)|with_reducible exact wT|refine wA ?_|(refine wB (fun h=>?_) (fun h=>?_)<;>first|exact wN h|subst (h:(_:Bool)=_)|skip)|(refine wQ ?_;clear hQ hR hE hM)|(refine zay hM (zfm hH _) ?_;try refine wD ?_)|refine wC c ?_|fail);all_goals clear hX)
    all_goals (first
     |(refine ⟨(k+1,pts.set (nth l k).pt.toNat (decide (0<(nth l k).pt))),by dsimp only;omega,⟨by dsimp only;omega,by simp[hp],by grind[zjE]⟩,by simp,by simp[List.map_set]⟩)
     |(grind[zef,zjE]))
  ·rw[List.drop_eq_nil_of_le hge,ck1]at hg
   (repeat' first|refine zaa [0,2,3,4,5,7,8,9,10,11,12,15,16,17,18,19,25,29,52,60,61,62,63,67,68,69,70,76,123] fun K hK=>?_|(refine hK.go ?_;clear hK K)|with_reducible exact wT|refine wA ?_|(refine wB (fun h=>?_) (fun h=>?_)<;>first|exact wN h|subst (h:(_:Bool)=_)|skip)|(refine wQ ?_;clear hQ hR hE hM)|fail)
   refine zci (fun k=>[(0,.sl 3 (l.map Section.c)),(60,.sl 3 (l.map Section.c)),(61,.n l.length),(62,.n k)]) (fun k=>[]) (l.length) (fun k=>(l.drop k).all (fun s=>zbW (zi7 l s) 0 s.ends.length)=ck2 l) ?_;rintro k ⟨hk,hg⟩;rcases Nat.lt_or_ge k l.length with hlt|hge
   ·rw[zaf hlt]at hg
    rw[List.all_cons]at hg
    have hs:=he _ (zab hlt)
    (repeat' first|refine zaa [0,2,3,4,5,7,8,9,10,11,12,15,16,17,18,19,25,29,52,60,61,62,63,67,68,69,70,76,123] fun K hK=>?_|(refine hK.go ?_;clear hK K)|with_reducible exact wT|refine wA ?_|(refine wB (fun h=>?_) (fun h=>?_)<;>first|exact wN h|subst (h:(_:Bool)=_)|skip)|(refine wQ ?_;clear hQ hR hE hM)|fail)
    refine zc0 (fun j:Nat=>[(0,.sl 3 (l.map Section.c)),(60,.sl 3 (l.map Section.c)),(61,.n l.length),(62,.n k),(7,.ptr 0 3 0),(67,.sl 2 ((nth l k).ends.map Join.c)),(68,.n (nth l k).ends.length),(69,.n j)]) (fun _=>[(0,.cells (nth l k).c true)]) (fun j=>j<=(nth l k).ends.length/\zbW (zi7 l (nth l k)) j ((nth l k).ends.length-j)=zbW (zi7 l (nth l k)) 0 (nth l k).ends.length) (fun j=>(nth l k).ends.length-j) 0 ⟨Nat.zero_le _,rfl⟩ (by (try dsimp only);(refine wD ?_;try with_reducible exact wT)<;>omega) (by (try dsimp only);(refine wD ?_;try with_reducible exact wT)<;>omega) ?_
    rintro j ⟨hj,hi⟩
    rcases Nat.lt_or_ge j (nth l k).ends.length with hjk|hjk
    ·rw[zg6 hjk]at hi
     have c:=place_pc hH l (nth (nth l k).ends j).to hl
     cases hpl:(zan l (nth (nth l k).ends j).to).2<;>rw[hpl]at c
     ·(repeat' first|refine zaa [0,2,3,4,5,7,8,9,10,11,12,15,16,17,18,19,25,29,52,60,61,62,63,67,68,69,70,76,123] fun K hK=>?_|(refine hK.go ?_;clear hK K)|with_reducible exact wT|refine wA ?_|(refine wB (fun h=>?_) (fun h=>?_)<;>first|exact wN h|subst (h:(_:Bool)=_)|skip)|(refine wQ ?_;clear hQ hR hE hM)|refine wC c ?_|fail)
      all_goals (first|(refine ⟨j+1,by omega,⟨by omega,by grind[zef,zi7]⟩,(by (try dsimp only);(first|omega|(simp;done)|(simp;omega)))⟩)|(grind[zef,zi7]))
     ·have hpt:=znG hpl
      have hs2:=he _ (zab hpt)
      (repeat' first|refine zaa [0,2,3,4,5,7,8,9,10,11,12,15,16,17,18,19,25,29,52,60,61,62,63,67,68,69,70,76,123] fun K hK=>?_|(refine hK.go ?_;clear hK K)|with_reducible exact wT|refine wA ?_|(refine wB (fun h=>?_) (fun h=>?_)<;>first|exact wN h|subst (h:(_:Bool)=_)|skip)|(refine wQ ?_;clear hQ hR hE hM)|refine wC c ?_|fail)
      all_goals (first|(refine ⟨j+1,by omega,⟨by omega,by grind[zef,zi7]⟩,(by (try dsimp only);(first|omega|(simp;done)|(simp;omega)))⟩)|(grind[zef,zi7]))
    ·rw[ziV hjk]at hi
     (repeat' first|refine zaa [0,2,3,4,5,7,8,9,10,11,12,15,16,17,18,19,25,29,52,60,61,62,63,67,68,69,70,76,123] fun K hK=>?_|(refine hK.go ?_;clear hK K)|with_reducible exact wT|refine wA ?_|(refine wB (fun h=>?_) (fun h=>?_)<;>first|exact wN h|subst (h:(_:Bool)=_)|skip)|(refine wQ ?_;clear hQ hR hE hM)|fail)
     all_goals (first|(refine ⟨k+1,by omega,⟨by omega,by grind[zef]⟩,(by (try dsimp only);(first|omega|(simp;done)|(simp;omega)))⟩)|(grind[zef]))
   ·rw[List.drop_eq_nil_of_le hge,List.all_nil]at hg
    (repeat' first|refine zaa [0,2,3,4,5,7,8,9,10,11,12,15,16,17,18,19,25,29,52,60,61,62,63,67,68,69,70,76,123] fun K hK=>?_|(refine hK.go ?_;clear hK K)|with_reducible exact wT|refine wA ?_|(refine wB (fun h=>?_) (fun h=>?_)<;>first|exact wN h|subst (h:(_:Bool)=_)|skip)|(refine wQ ?_;clear hQ hR hE hM)|fail)
    all_goals (first|rfl|(grind[zef])|(simp[zef, *];done)|(simp_all [zef];done)|(simp_all [zef]<;>first|omega|((repeat' split)<;>first|rfl|(exfalso;omega))))
def zh5 (l:List Section):Int:=if zcg l=true then 0 else 8
def zfX:Section:=⟨0,0,[]⟩
def rFind (l:List Section) (id:Int):Section×Int:=if zcg l=true then (if zdR id 0 l<0 then (zfX,6) else (nth l (zdR id 0 l).toNat,0)) else (zfX,8)
def find (l:List Section) (id:Int):Section×Int:=if zef l=0 then (if (zan l id).2=true then (nth l (zan l id).1,0) else (zfX,6)) else (zfX,zef l)
end Go.Lev
