/-
  A part of the engine that walks the functions' codes, and of the functions' contracts. Conditions: those that each theorem names.
-/
import Derived.Test.YtjfongdncghjmaaGreatL1
import Derived.IntWalk
import Derived.Laws.IdiomCopy
set_option linter.unusedSimpArgs false
set_option linter.unusedVariables false
set_option linter.unusedSectionVars false
namespace Go.Eng
open Go.RowKit
mutual
/-- The row l,whose cells are cs,as a slice that nobody writes. -/
def frV (l:Nat) (cs:List AV):AV->AV
 |.agg ds=>.agg (frL l cs ds)
 |.tup ds=>.tup (frL l cs ds)
 |.fn j ds=>.fn j (frL l cs ds)
 |.sm l' ver off n sz=>if l'=l/\ver=cs.length/\off=0 then .sl sz (zbd sz n cs) else .sm l' ver off n sz
 |.ptr l' ver off=>.ptr l' ver off
 |.mp l'=>.mp l'
 |.i k n=>.i k n
 |.b t=>.b t
 |.v x=>.v x
 |.u=>.u
 |.s0 sz=>.s0 sz
 |.sl sz es=>.sl sz es
 |.ip sz es i k=>.ip sz es i k
 |.top=>.top
def frL (l:Nat) (cs:List AV):List AV->List AV
 |[]=>[]
 |x::xs=>frV l cs x::frL l cs xs
end
def frO (l:Nat) (cs:List AV):AO->AO
 |.cells ds r=>.cells (frL l cs ds) r
 |.imap kvs=>.imap kvs
 |.rsv=>.rsv
def frS (l:Nat) (cs:List AV):List (Nat×AO)->List (Nat×AO)
 |[]=>[]
 |(k,o)::r=>(k,frO l cs o)::frS l cs r
def frF (l:Nat) (cs:List AV):List (Nat×AV)->List (Nat×AV)
 |[]=>[]
 |(i,x)::r=>(i,frV l cs x)::frF l cs r
theorem zfj (l:Nat) (cs:List AV):∀ xs:List AV,(frL l cs xs).length=xs.length
 |[]=>rfl
 |x::xs=>by simp[frL,zfj l cs xs]
theorem zhB (l:Nat) (cs:List AV) (o:AO):(frO l cs o).real=o.real:=by cases o<;>rfl
theorem zos (l:Nat) (cs:List AV):∀ (φ:AF) (i:Nat),zbl (frF l cs φ) i=frV l cs (zbl φ i)
 |[],i=>rfl
 |(j,x)::r,i=>by
  simp only[frF,zbl];split
  ·rfl
  ·exact zos l cs r i
theorem znP (l:Nat) (cs:List AV):∀ (σ:AS) (k:Nat),zah (frS l cs σ) k=(zah σ k).map (frO l cs)
 |[],k=>rfl
 |(j,o)::r,k=>by
  simp only[frS,zah];split
  ·rfl
  ·exact znP l cs r k
mutual
theorem zqD {c c':Ctx} {l:Nat} {cs:List AV} (hle:c.Le c') (hS:∀ k p,c'.S k=some p->c.S k=some p) (hrow:∀ (n sz:Nat) (y:Value),rel c (.sm l cs.length 0 n sz) y->rel c' (.sl sz (zbd sz n cs)) y):∀ (x:AV) (y:Value),rel c x y->rel c' (frV l cs x) y
 |.agg ds,y,r=>by
  simp only[rel,frV]at r |-
  obtain ⟨xs,e,r⟩:=r;exact ⟨xs,e,zkl hle hS hrow ds _ r⟩
 |.tup ds,y,r=>by
  simp only[rel,frV]at r |-
  obtain ⟨xs,e,r⟩:=r;exact ⟨xs,e,zmO hle hS hrow ds _ r⟩
 |.fn j ds,y,r=>by
  simp only[rel,frV]at r |-
  obtain ⟨g,xs,e,hi,r⟩:=r;exact ⟨g,xs,e,by rw[hle.inv];exact hi,zmO hle hS hrow ds _ r⟩
 |.sm l' ver off n sz,y,r=>by
  simp only[frV];split
  ·rename_i h
   obtain ⟨rfl,rfl,rfl⟩:=h;exact hrow n sz y r
  ·simp only[rel]at r |-
   exact ⟨r.1,fun p hp=>r.2 p (hS _ _ hp)⟩
 |.ptr l' ver off,y,r=>by
  simp only[rel,frV]at r |-
  exact ⟨r.1,fun p hp=>r.2 p (hS _ _ hp)⟩
 |.mp l',y,r=>by
  simp only[rel,frV]at r |-
  exact ⟨r.1,fun p hp=>r.2 p (hS _ _ hp)⟩
 |.i k n,y,r=>by simp only[frV];exact za3 hle rfl r
 |.b t,y,r=>by simp only[frV];exact za3 hle rfl r
 |.v x,y,r=>by simp only[frV];exact za3 hle rfl r
 |.u,y,r=>by simp only[frV];exact za3 hle rfl r
 |.s0 sz,y,r=>by simp only[frV];exact za3 hle rfl r
 |.sl sz es,y,r=>by simp only[frV];exact za3 hle rfl r
 |.ip sz es i k,y,r=>by simp only[frV];exact za3 hle rfl r
 |.top,y,r=>by simp only[frV,rel]
theorem zmO {c c':Ctx} {l:Nat} {cs:List AV} (hle:c.Le c') (hS:∀ k p,c'.S k=some p->c.S k=some p) (hrow:∀ (n sz:Nat) (y:Value),rel c (.sm l cs.length 0 n sz) y->rel c' (.sl sz (zbd sz n cs)) y):∀ (xs:List AV) (ys:List Value),zcp c xs ys->zcp c' (frL l cs xs) ys
 |[],ys,r=>by simpa only[frL,zcp] using r
 |x::xs,ys,r=>by
  simp only[frL,zcp]at r |-
  obtain ⟨y,ys',e,r1,r2⟩:=r;exact ⟨y,ys',e,zqD hle hS hrow x y r1,zmO hle hS hrow xs ys' r2⟩
theorem zkl {c c':Ctx} {l:Nat} {cs:List AV} (hle:c.Le c') (hS:∀ k p,c'.S k=some p->c.S k=some p) (hrow:∀ (n sz:Nat) (y:Value),rel c (.sm l cs.length 0 n sz) y->rel c' (.sl sz (zbd sz n cs)) y):∀ (xs:List AV) (ys:List Value),relCs c xs ys->relCs c' (frL l cs xs) ys
 |[],ys,r=>by simpa only[frL,relCs] using r
 |x::xs,ys,r=>by
  simp only[frL,relCs]at r |-
  obtain ⟨y,ys',e,ho,r1,r2⟩:=r;exact ⟨y,ys',e,ho,zqD hle hS hrow x y r1,zkl hle hS hrow xs ys' r2⟩
end
section
variable {P:Program} {inv:Nat->Option Nat} {w0:World} {M:Nat->Prop} {n N:Nat} {φ:AF} {σ:AS}
theorem zny {c:ACode} {Q:Exit->AF->AS->Prop} (hM:∀ b,M b->b<w0.heap.size) (l:Nat) (cs:List AV) (r:Bool) (hl:zah σ l=some (.cells cs r)) (hb:zaO cs=true)
  (h:AWp P inv w0 M N n c Q (frF l cs φ) (frS l cs (zfp σ l))):AWp P inv w0 M N n c Q φ σ:=by
 intro c₀ hc β a w hs;have hm:=hs.mem;have hback:∀ k o,zah (frS l cs (zfp σ l)) k=some o->k≠l/\∃ o',zah σ k=some o'/\o=frO l cs o':=fun k o e=>by
  rw[znP,zeD]at e;by_cases hk:k=l
  ·rw[if_pos hk]at e;cases e
  ·rw[if_neg hk]at e
   obtain ⟨o',e',rfl⟩:=Option.map_eq_some_iff.1 e;exact ⟨hk,o',e',rfl⟩
 have hav:∀ b,avoid M (frS l cs (zfp σ l)) β b->avoid M σ β b:=by
  rintro b (hb'|⟨k,o,e,hr,hbk⟩)
  ·exact .inl hb'
  ·obtain ⟨_,o',e',rfl⟩:=hback k o e
   exact .inr ⟨k,o',e',by rw[zhB]at hr;exact hr,hbk⟩
 have hle:(ctx inv M σ β w).Le (ctx inv M (frS l cs (zfp σ l)) β w):=⟨rfl,Nat.le_refl _,fun _ _ _=>rfl,fun b _ h=>hav b h⟩
 have hS:∀ k p,(ctx inv M (frS l cs (zfp σ l)) β w).S k=some p->(ctx inv M σ β w).S k=some p:=by
  intro k p hp;have hp:zai β w (frS l cs (zfp σ l)) k=some p:=hp;show zai β w σ k=some p
  unfold zai at hp |-
  cases e:zah (frS l cs (zfp σ l)) k with
  |none=>rw[e]at hp;cases hp
  |some o =>
   obtain ⟨_,o',e',rfl⟩:=hback k o e;rw[e]at hp;rw[e'];cases o' with
   |rsv=>exact hp
   |imap kvs=>exact hp
   |cells ds r'=>cases r'<;>simpa only[frO,zfj] using hp
 have hrow:∀ (k sz:Nat) (y:Value),rel (ctx inv M σ β w) (.sm l cs.length 0 k sz) y->rel (ctx inv M (frS l cs (zfp σ l)) β w) (.sl sz (zbd sz k cs)) y:=by
  intro k sz y hr;have hlive:zcd σ l cs.length:=by unfold zcd;rw[hl]
  obtain ⟨p,ad,cap,hp,hv,hbd,hx,hcap,hr⟩:=zcP hlive hr;rw[hx];simp only[rel];refine ⟨ad,cap,by rw[zbX],by rw[zbX];exact hcap,fun hne=>?_⟩
  have hm0:0<k:=by
   rcases Nat.eq_zero_or_pos k with e0|e0
   ·subst e0;exact absurd rfl hne
   ·exact e0
  have hrl:r=true:=by
   cases r with
   |true=>rfl
   |false=>unfold zai at hp;rw[hl]at hp;cases hp;simp at hr;omega
  subst hrl;have hpe:p=⟨β l,cs.length,zaN w (β l),true⟩:=by unfold zai at hp;rw[hl]at hp;cases hp;rfl
  subst hpe;simp only[if_true]at hr;obtain ⟨ys,_,h4,h5⟩:=hm.cell hl;have hown:=hm.own l _ hl rfl;refine ⟨_,hr.1.resolve_left (by omega), ?_,hown.2, ?_⟩
  ·rintro (ha|⟨l',o,e,hro,hbe⟩)
   ·have:=hM _ ha
    have:=hown.1;simp only at *;omega
   ·obtain ⟨hne',o',e',rfl⟩:=hback l' o e
    rw[zhB]at hro;exact hne' (hm.inj l' l o' _ e' hl hro rfl hbe)
  ·have hbare:=zcv cs hb
   have hle0:(ctx inv M σ β w).Le { ctx inv M (frS l cs (zfp σ l)) β w with S:=fun _=>Option.none }:=⟨hle.inv,hle.size,hle.keep,hle.avoid⟩
   have h6:relCs { ctx inv M (frS l cs (zfp σ l)) β w with S:=fun _=>Option.none } cs ys:=ze6 (N:=0) hle0 cs ys (.inr rfl) h4
   refine zcX k (by omega) hbare h6 fun j u hu=>?_
   show w.cell? _=_
   rw[zbZ]
   simpa using h5 j u hu
 have hfr:=fun x y=>zqD (l:=l) (cs:=cs) hle hS hrow x y
 have hst:St inv w0 M n (frF l cs φ) (frS l cs (zfp σ l)) β a w:=by
  refine ⟨⟨fun i=>by rw[zos];exact hfr _ _ (hs.slots i),⟨hm.below,fun k k' o o' e e' hr hr' hbb=>?_,fun k o e hr=>?_,fun k ds e=>?_,fun k ds e=>?_,fun k kvs e=>?_⟩⟩,hs.size,hs.defers⟩
  ·obtain ⟨_,o1,e1,rfl⟩:=hback k o e
   obtain ⟨_,o2,e2,rfl⟩:=hback k' o' e';rw[zhB]at hr hr';exact hm.inj _ _ _ _ e1 e2 hr hr' hbb
  ·obtain ⟨_,o1,e1,rfl⟩:=hback k o e
   rw[zhB]at hr;exact hm.own _ _ e1 hr
  ·obtain ⟨_,o1,e1,e2⟩:=hback k _ e
   cases o1 with
   |cells ds1 r1 =>
    simp only[frO,AO.cells.injEq]at e2;obtain ⟨rfl,rfl⟩:=e2;obtain ⟨xs,ty,k1,k2,k3⟩:=hm.cells _ ds1 e1;exact ⟨xs,ty,k1,by rw[zfj];exact k2,by rw[zfj];exact zkl hle hS hrow ds1 _ k3⟩
   |imap kvs=>simp[frO]at e2
   |rsv=>simp[frO]at e2
  ·obtain ⟨_,o1,e1,e2⟩:=hback k _ e
   cases o1 with
   |cells ds1 r1 =>
    simp only[frO,AO.cells.injEq]at e2;obtain ⟨rfl,rfl⟩:=e2;rw[hm.ghost _ ds1 e1];rfl
   |imap kvs=>simp[frO]at e2
   |rsv=>simp[frO]at e2
  ·obtain ⟨_,o1,e1,e2⟩:=hback k _ e
   cases o1 with
   |imap kvs1 =>
    simp only[frO,AO.imap.injEq]at e2;subst e2;exact hm.maps _ kvs e1
   |cells ds1 r1=>simp[frO]at e2
   |rsv=>simp[frO]at e2
 refine Code.wp_mono ?_ (h c₀ hc β a w hst);rintro e a' w' ⟨φ2,σ2,β2,q2,hst2,hext2⟩;exact ⟨φ2,σ2,β2,q2,hst2,Ext.trans ⟨hle,fun k _ p' hp'=>⟨p',hS k p' hp',Nat.le_refl _,fun _=>rfl⟩⟩ hext2⟩
end
section cells
variable {α:Type} {c:α->List AV} {sz:Nat} [h:Cells c sz]
include h
mutual
theorem plain_fr (l:Nat) (cs:List AV):∀ x:AV,x.plain=true->frV l cs x=x
 |.agg ds,h=>by simp only[AV.plain]at h;simp only[frV,zio l cs ds h]
 |.i _ _,_=>by simp only[frV]
 |.b _,_=>by simp only[frV]
 |.v _,_=>by simp only[frV]
 |.sl _ _,_=>by simp only[frV]
 |.ip _ _ _ _,_=>by simp only[frV]
 |.tup _,h=>by simp[AV.plain]at h
 |.u,h=>by simp[AV.plain]at h
 |.s0 _,h=>by simp[AV.plain]at h
 |.ptr _ _ _,h=>by simp[AV.plain]at h
 |.sm _ _ _ _ _,h=>by simp[AV.plain]at h
 |.fn _ _,h=>by simp[AV.plain]at h
 |.mp _,h=>by simp[AV.plain]at h
 |.top,h=>by simp[AV.plain]at h
theorem zio (l:Nat) (cs:List AV):∀ xs:List AV,zaO xs=true->frL l cs xs=xs
 |[],_=>by simp only[frL]
 |x::xs,h=>by
  simp only[zaO,Bool.and_eq_true]at h;simp only[frL,plain_fr l cs x h.1,zio l cs xs h.2]
end
theorem zrW (l':Nat) (cs:List AV) (l:List α):frL l' cs (l.map c).flatten=(l.map c).flatten:=zio (c:=c) l' cs _ (zcT l)
end cells
attribute [go_sem] zrW
attribute [go_sem] frV frL frO frS frF
def zkO:List (Nat×AV)->List (Nat×AV)->List (Nat×AV)
 |[],φ=>φ
 |(i,x)::r,φ=>zkO r (zbq φ i x)
def zj2:List (Nat×AO)->List (Nat×AO)->List (Nat×AO)
 |[],σ=>σ
 |(i,x)::r,σ=>zj2 r (sput σ i x)
attribute [go_sem] zkO zj2
section
variable {P:Program} {inv:Nat->Option Nat} {w0:World} {M:Nat->Prop} {n N:Nat} {φ:AF} {σ:AS}
theorem zsx {ι:Type} {x:ACode} {Q:Exit->AF->AS->Prop} (ks:List Nat) (m:ι->List (Nat×AV)) (t:ι->List (Nat×AO)) (Inv:ι->Prop) (μ:ι->Nat) (s0:ι) (hi:Inv s0) (h1:ziG (zkO (m s0) (zgr ks φ)) φ) (h2:zdG (zj2 (t s0) σ) σ)
  (hr:∀ s,Inv s->AWp P inv w0 M N n x (Then (lend (fun s=>zkO (m s) (zgr ks φ)) (fun s=>zj2 (t s) σ) Inv μ s) Q) (zkO (m s) (zgr ks φ)) (zj2 (t s) σ)):AWp P inv w0 M N n (.loop x) Q φ σ :=
 zbu (fun s=>zkO (m s) (zgr ks φ)) (fun s=>zj2 (t s) σ) Inv μ s0 hi h1 h2 hr
theorem zaj {ι:Type} {x:ACode} {Q:Exit->AF->AS->Prop} (ks:List Nat) (m:ι->List (Nat×AV)) (t:ι->List (Nat×AO)) (c:ι->Nat) (b:Nat) (Inv:ι->Prop) (s0:ι)
  (hr:∀ s,c s<=b/\Inv s->AWp P inv w0 M N n x (Then (lend (fun s=>zkO (m s) (zgr ks φ)) (fun s=>zj2 (t s) σ) (fun s=>c s<=b/\Inv s) (fun s=>b-c s) s) Q) (zkO (m s) (zgr ks φ)) (zj2 (t s) σ))
  (hi:c s0<=b/\Inv s0:=by ((try dsimp only);refine ⟨Nat.zero_le _, ?_⟩;(repeat' refine And.intro ?_ ?_)<;>first|exact wT|assumption|rfl|omega|(simp;done)|(simp;omega)|grind)) (h1:ziG (zkO (m s0) (zgr ks φ)) φ:=by ((try dsimp only);refine wD ?_;first|exact wt|omega|(simp;done))) (h2:zdG (zj2 (t s0) σ) σ:=by ((try dsimp only);refine wD ?_;first|exact wt|omega|(simp;done))):AWp P inv w0 M N n (.loop x) Q φ σ :=
 zsx ks m t (fun s=>c s<=b/\Inv s) (fun s=>b-c s) s0 hi h1 h2 hr
theorem AWp.swap {c:ACode} {Q:Exit->AF->AS->Prop} (sw:List (Nat×Nat)) (hok:swOk N sw) (h:AWp P inv w0 M N n c Q (swF sw φ) (swS sw σ)):AWp P inv w0 M N n c Q φ σ:=by
 intro c₀ hc β a w hs;obtain ⟨β',hst,hx⟩:=St.swap N sw hok hs;exact Code.wp_mono (fun _ _ _ ⟨φ2,σ2,β2,q2,hst2,hext2⟩=>⟨φ2,σ2,β2,q2,hst2,hx.trans hext2⟩) (h c₀ hc β' a w hst)
theorem PO.pc {j:Nat} {args:List AV} {r:AV} {σ0:AS} (h:PO P inv j args r σ0):PC P inv j args (·=zfZ 4 σ0 r):=by
 intro g hg M w vs hM ha;have hm:=Mem.none (inv:=inv) (M:=M) w;have hle:(⟨inv,w,M,fun _=>none⟩:Ctx).Le (ctx inv M [] (fun _=>0) w):=⟨rfl,Nat.le_refl _,fun _ _ _=>rfl,fun b _ h=>by
  rcases h with h|⟨l,o,e,_⟩
  ·exact h
  ·simp[zah]at e⟩
 have hS:(ctx inv M [] (fun _=>0) w).S=fun _=>none:=by funext l;simp[ctx,zai,zah]
 refine (h w M hM g hg (fun _=>0) w vs hm (zco (N:=0) hle _ _ (.inr hS) ha)).mono ?_
 rintro e w' ⟨v,r',σ',β',rfl,⟨rfl,rfl⟩,hm',_,hr⟩;have hf:=zec hm' hM (A':=M) (fun _ h=>h) 4
 exact ⟨v,_,rfl,rfl,hm'.below,ze2 hf _,zeC hm' hM (fun _ h=>h) hf _ v hr⟩
theorem AC.mono {j:Nat} {args:List AV} {R R':AV->AS->Prop} (h:AC P inv w0 M N j args σ R) (hr:∀ r σ',R r σ'->R' r σ'):AC P inv w0 M N j args σ R' :=
 fun g hg β w vs hm ha=>(h g hg β w vs hm ha).mono fun _ _ ⟨v,r,σ',β',e,h1,h2⟩=>⟨v,r,σ',β',e,hr r σ' h1,h2⟩
theorem zbp (N':Nat) {j:Nat} {args:List AV} {r0:AV} {τ:AS} (h:AC P inv w0 M N' j args σ fun r σ'=>r=r0/\σ'=τ) (hN:N<=N') (hφ:zaM φ<=N') {K:AV->AS->Prop} (hk:K r0 τ):CallK P inv w0 M N φ σ j args K :=
 ⟨N',hN,hφ,h.mono fun _ _ ⟨e1,e2⟩=>e1▸e2▸hk⟩
theorem zbg {j:Nat} {F:AFn} (hF:Has P inv j F) {args:List AV} {r0:AV} {σ0 τ:AS} (hb:r0.bare=true) (hl:args.length<=F.ntmps)
  (h:∀ Q:Exit->AF->AS->Prop,(∀ φ σ r,zeR φ σ F.res=some r->(∃ sw,(r=r0/\swOk N sw)/\zdG τ (swS sw σ))->Q .ret φ σ)->(∀ φ σ,Q .ret φ σ->Q .normal φ σ)->AWp P inv w0 M N F.ntmps F.body Q (zoH 0 args) σ0) :
  AC P inv w0 M N j args σ0 fun r σ'=>r=r0/\σ'=τ:=by
 intro g hg β w vs hm ha;refine (AC.body hF hl (R:=fun r σ=>∃ sw,(r=r0/\swOk N sw)/\zdG τ (swS sw σ)) (h _ (fun φ σ r h1 h2=>⟨r,h1,h2⟩) fun _ _ h=>h) g hg β w vs hm ha).mono ?_
 rintro e w' ⟨v,r,σ',β',rfl,⟨sw,⟨rfl,hok⟩,hs⟩,hm',hx,hr⟩;have key:∀ (sw:List (Nat×Nat)) {σ:AS} {β:Nat->Nat},swOk N sw->Mem inv w0 M σ β w'->rel (ctx inv M σ β w') r v->∃ β',Mem inv w0 M (swS sw σ) β' w'/\Ext N (ctx inv M σ β w') (ctx inv M (swS sw σ) β' w')/\rel (ctx inv M (swS sw σ) β' w') r v:=by
  intro sw
  induction sw with
  |nil=>intro σ β _ hm hr;exact ⟨β,hm,.refl _ _,hr⟩
  |cons p sw ih =>
   obtain ⟨x,y⟩:=p;intro σ β hok hm hr;obtain ⟨h1,h2,h3⟩:=hm.rename (zj1 x y);have hx:=h2 N fun l hl=>by have:=hok.1;unfold swN;rw[if_neg (by omega),if_neg (by omega)]
   obtain ⟨β',k1,k2,k3⟩:=ih hok.2 h1 ((h2 0 fun l hl=>absurd hl (Nat.not_lt_zero _)).rel (zaK r (by rw[zg4 r hb];exact Nat.le_refl _)) hr)
   exact ⟨β',k1,hx.trans k2,k3⟩
 obtain ⟨β'',k1,k2,k3⟩:=key sw hok hm' hr;have hd:=fun N=>k1.drop (zeb hs) N
 exact ⟨v,r,τ,β'',rfl,⟨rfl,rfl⟩,(hd 0).1,hx.trans (k2.trans (hd N).2),(hd 0).2.rel (zaK r (by rw[zg4 r hb];exact Nat.le_refl _)) k3⟩
theorem PC.pure1 (hM:∀ b,M b->b<w0.heap.size) {j:Nat} {args:List AV} {r:AV} (h:PC P inv j args (·=r)) {K:AV->Prop} (hk:K r):PureK P inv w0 M σ j args K :=
 ⟨r,fun _ _ _ _=>h.callK hM fun _ e=>⟨e,rfl⟩,hk⟩
end
section
variable {P:Program} {inv:Nat->Option Nat} {w0:World} {M:Nat->Prop} {n N:Nat} {φ:AF} {σ:AS}
theorem Mem.truncW {β:Nat->Nat} {w:World} {l l' k:Nat} {cs:List AV} (h:Mem inv w0 M σ β w) (hg:zah σ l=some (.cells cs true)) (hl:zax σ<=l') (hk:k<=cs.length) {N1:Nat} (hN:N1<=l') :
  Mem inv w0 M (sput (zfp σ l) l' (.cells (cs.take k) true)) (upd β l' (β l)) w/\Ext N1 (ctx inv M σ β w) (ctx inv M (sput (zfp σ l) l' (.cells (cs.take k) true)) (upd β l' (β l)) w) /\
   zai (upd β l' (β l)) w (sput (zfp σ l) l' (.cells (cs.take k) true)) l'=some ⟨β l,k,zaN w (β l),true⟩:=by
 have hno:∀ l2 o,zah σ l2=some o->l2≠l':=fun l2 o e e'=>by have:=(zau σ l2 o e).1;omega
 have hget:∀ l2 o,l2≠l'->zah (sput (zfp σ l) l' (.cells (cs.take k) true)) l2=some o->l2≠l/\zah σ l2=some o:=by
  intro l2 o hne e;rw[zag,if_neg hne,zeD]at e;split at e
  ·cases e
  ·exact ⟨by assumption,e⟩
 have hself:zah (sput (zfp σ l) l' (.cells (cs.take k) true)) l'=some (.cells (cs.take k) true):=by rw[zag,if_pos rfl]
 have hpl:zai (upd β l' (β l)) w (sput (zfp σ l) l' (.cells (cs.take k) true)) l'=some ⟨β l,k,zaN w (β l),true⟩:=by
  unfold zai;rw[hself];simp[zbe,Nat.min_eq_left hk]
 have hx:∀ N1,N1<=l'->Ext N1 (ctx inv M σ β w) (ctx inv M (sput (zfp σ l) l' (.cells (cs.take k) true)) (upd β l' (β l)) w):=by
  intro N1 hN;refine ⟨⟨rfl,Nat.le_refl _,fun _ _ _=>rfl,fun b _ hA=>?_⟩,fun l2 hl2 p' hp'=>?_⟩
  ·rcases hA with hm|⟨l2,o,e,hr,hb⟩
   ·exact .inl hm
   ·by_cases hne:l2=l'
    ·subst hne
     rw[zbe]at hb;exact .inr ⟨l,_,hg,rfl,hb⟩
    ·rw[zaG β _ hne]at hb
     exact .inr ⟨l2,o,(hget l2 o hne e).2,hr,hb⟩
  ·have hne:l2≠l':=by omega
   refine ⟨p', ?_,Nat.le_refl _,fun _=>rfl⟩
   have hp2:zai (upd β l' (β l)) w (sput (zfp σ l) l' (.cells (cs.take k) true)) l2=some p':=hp';show zai β w σ l2=some p'
   unfold zai at hp2 |-
   cases e:zah (sput (zfp σ l) l' (.cells (cs.take k) true)) l2 with
   |none=>rw[e]at hp2;cases hp2
   |some o=>rw[e]at hp2;rw[(hget l2 o hne e).2];simpa only[zaG β _ hne] using hp2
 refine ⟨⟨h.below,fun l1 l2 o1 o2 e1 e2 r1 r2 he=>?_,fun l1 o1 e1 r1=>?_,fun l1 cs1 e1=>?_,fun l1 cs1 e1=>?_,fun l1 kvs e1=>?_⟩,hx N1 hN,hpl⟩
 ·by_cases h1:l1=l'<;>by_cases h2:l2=l'
  ·rw[h1,h2]
  ·rw[h1,zbe,zaG β _ h2]at he
   obtain ⟨q1,q2⟩:=hget l2 o2 h2 e2;exact absurd (h.inj l l2 _ o2 hg q2 rfl r2 he).symm q1
  ·rw[h2,zbe,zaG β _ h1]at he
   obtain ⟨q1,q2⟩:=hget l1 o1 h1 e1;exact absurd (h.inj l1 l o1 _ q2 hg r1 rfl he) q1
  ·rw[zaG β _ h1,zaG β _ h2]at he
   exact h.inj l1 l2 o1 o2 (hget l1 o1 h1 e1).2 (hget l2 o2 h2 e2).2 r1 r2 he
 ·by_cases h1:l1=l'
  ·rw[h1,zbe];exact h.own l _ hg rfl
  ·rw[zaG β _ h1];exact h.own l1 o1 (hget l1 o1 h1 e1).2 r1
 ·by_cases h1:l1=l'
  ·rw[h1,hself]at e1
   simp only[Option.some.injEq,AO.cells.injEq,and_true]at e1;subst e1;rw[h1,zbe];obtain ⟨xs,ty,q1,q2,q3⟩:=h.cells l cs hg;refine ⟨xs,ty,q1,by rw[List.length_take];omega, ?_⟩
   have hb:zab (cs.take k)<=l':=zdr fun x hx=>Nat.le_trans (zcW (zau σ l _ hg).2 x (List.mem_of_mem_take hx)) hl
   refine (hx l' (Nat.le_refl _)).relCs (zaA _ hb) ?_;have:=zcg k q3;rw[List.take_take,Nat.min_eq_left hk]at this;rw[List.length_take,Nat.min_eq_left hk];exact this
  ·rw[zaG β _ h1]
   obtain ⟨q1,q2⟩:=hget l1 _ h1 e1;obtain ⟨xs,ty,q3,q4,q5⟩:=h.cells l1 cs1 q2;exact ⟨xs,ty,q3,q4,(hx l' (Nat.le_refl _)).relCs (zaA _ (Nat.le_trans (zau σ l1 _ q2).2 hl)) q5⟩
 ·by_cases h1:l1=l'
  ·rw[h1,hself]at e1;simp at e1
  ·exact h.ghost l1 cs1 (hget l1 _ h1 e1).2
 ·by_cases h1:l1=l'
  ·rw[h1,hself]at e1;simp at e1
  ·rw[zaG β _ h1];exact h.maps l1 kvs (hget l1 _ h1 e1).2
def cutW (N:Nat) (r:AV) (σ:List (Nat×AO)):AV×List (Nat×AO) :=
 match r with
 |.sm l ver off n sz=>match zah σ l with
  |some (.cells cs true)=>if Nat.blt l N=false/\off=0/\n*sz<ver/\cs.length=ver then (.sm (mx N (zax σ)) (n*sz) 0 n sz,sput (zfp σ l) (mx N (zax σ)) (.cells (cs.take (n*sz)) true)) else (r,σ)
  |_=>(r,σ)
 |_=>(r,σ)
theorem AC.truncW {j:Nat} {args:List AV} {R R':AV->AS->Prop} (h:AC P inv w0 M N j args σ R) (hr:∀ r σ',R r σ'->R' (cutW N r σ').1 (cutW N r σ').2):AC P inv w0 M N j args σ R':=by
 intro g hg β w vs hm hv;refine (h g hg β w vs hm hv).mono ?_;rintro e w' ⟨v,r,σ',β',k1,k2,k3,k4,k5⟩;have h1:=hr r σ' k2;unfold cutW at h1;split at h1
 ·rename_i l ver off n sz
  split at h1
  ·rename_i cs hgl
   split at h1
   ·rename_i hc
    obtain ⟨_,rfl,c1,c2⟩:=hc;have ht:=k3.truncW (l:=l) (l':=mx N (zax σ')) (k:=n*sz) hgl (zaq _ _) (by omega) (N1:=N) (zaQ _ _)
    refine ⟨v,_,_,_,k1,h1,ht.1,k4.trans ht.2.1, ?_⟩;have hlive:zcd σ' l ver:=by unfold zcd;rw[hgl];exact c2
    obtain ⟨p,ad,cap,hp,hv',hb,rfl,hcap,hreal⟩:=zcP hlive k5;have hpe:p=⟨β' l,cs.length,zaN w' (β' l),true⟩:=by unfold zai at hp;rw[hgl]at hp;cases hp;rfl
    subst hpe;simp only[if_true]at hreal;simp only[rel];refine ⟨rfl,fun p' hp'=>?_⟩
    have:p'=⟨β' l,n*sz,zaN w' (β' l),true⟩:=by have:=(show zai _ _ _ _=some p' from hp').symm.trans ht.2.2;simpa using this
    subst this;exact ⟨Nat.le_refl _,fun _=>⟨by omega,ad,cap,rfl,hcap,by simpa using hreal⟩⟩
   ·exact ⟨v,_,σ',β',k1,h1,k3,k4,k5⟩
  ·exact ⟨v,_,σ',β',k1,h1,k3,k4,k5⟩
 ·exact ⟨v,_,σ',β',k1,h1,k3,k4,k5⟩
theorem PO.trunc {j:Nat} {args:List AV} {ver k sz:Nat} {cs:List AV} (h:PO P inv j args (.sm 0 ver 0 k sz) [(0,.cells cs true)]) (hb:zab cs=0) (hl:cs.length=ver) (hlt:k*sz<ver) :
  PO P inv j args (.sm 1 (k*sz) 0 k sz) [(1,.cells (cs.take (k*sz)) true)]:=by
 intro w0 M hM;refine (AC.truncW (R':=fun r σ=>r=.sm 1 (k*sz) 0 k sz/\σ=[(1,.cells (cs.take (k*sz)) true)]) (h w0 M hM) ?_)
 rintro r σ' ⟨rfl,rfl⟩;have hs:mx 0 (zax [(0,AO.cells cs true)])=1:=by simp[zax,AO.bound,hb,mx]
 simp only[cutW,zah,if_true];rw[if_pos ⟨by trivial,by trivial,hlt,hl⟩,hs]
 exact ⟨rfl,by simp[zfp,sput]⟩
theorem Mem.recell {β:Nat->Nat} {w:World} {k:Nat} {cs cs':List AV} {r:Bool} (hm:Mem inv w0 M σ β w) (hg:zah σ k=some (.cells cs r)) (hlen:cs'.length=cs.length) (hrel:r=true->∀ ys,relCs (ctx inv M σ β w) cs ys->relCs (ctx inv M σ β w) cs' ys) :
  Mem inv w0 M (sput σ k (.cells cs' r)) β w/\ctx inv M (sput σ k (.cells cs' r)) β w=ctx inv M σ β w:=by
 have hpl:zai β w (sput σ k (.cells cs' r))=zai β w σ:=by
  funext l
  unfold zai;rw[zag];by_cases h:l=k
  ·subst h;rw[if_pos rfl,hg];cases r<;>simp only[hlen]
  ·rw[if_neg h]
 have hav:avoid M (sput σ k (.cells cs' r)) β=avoid M σ β:=by
  funext b
  apply propext;constructor
  ·rintro (h|⟨l,o,e,hr,hb⟩)
   ·exact .inl h
   ·rw[zag]at e
    split at e
    ·rename_i h;subst h
     simp only[Option.some.injEq]at e;subst e;exact .inr ⟨l,_,hg,by cases r<;>(first|exact hr|(simp[AO.real]at hr;done)|simp[AO.real]),hb⟩
    ·exact .inr ⟨l,o,e,hr,hb⟩
  ·rintro (h|⟨l,o,e,hr,hb⟩)
   ·exact .inl h
   ·by_cases h:l=k
    ·subst h
     rw[hg]at e;simp only[Option.some.injEq]at e;subst e;exact .inr ⟨l,.cells cs' r,by rw[zag,if_pos rfl],by cases r<;>(first|exact hr|(simp[AO.real]at hr;done)|simp[AO.real]),hb⟩
    ·exact .inr ⟨l,o,by rw[zag,if_neg h];exact e,hr,hb⟩
 have hctx:ctx inv M (sput σ k (.cells cs' r)) β w=ctx inv M σ β w:=by unfold ctx;rw[hpl,hav]
 have hback:∀ l o,zah (sput σ k (.cells cs' r)) l=some o->o.real=true->∃ o',zah σ l=some o'/\o'.real=true:=by
  intro l o e hr;rw[zag]at e;split at e
  ·rename_i h;subst h
   simp only[Option.some.injEq]at e;subst e;exact ⟨_,hg,by cases r<;>(first|exact hr|(simp[AO.real]at hr;done)|simp[AO.real])⟩
  ·exact ⟨o,e,hr⟩
 refine ⟨⟨hm.below,fun l l' o o' e e' hr hr' hb=>?_,fun l o e hr=>?_,fun l cs1 e=>?_,fun l cs1 e=>?_,fun l kvs e=>?_⟩,hctx⟩
 ·obtain ⟨o1,e1,r1⟩:=hback l o e hr
  obtain ⟨o2,e2,r2⟩:=hback l' o' e' hr';exact hm.inj l l' o1 o2 e1 e2 r1 r2 hb
 ·obtain ⟨o1,e1,r1⟩:=hback l o e hr
  exact hm.own l o1 e1 r1
 ·rw[hctx]
  rw[zag]at e;split at e
  ·rename_i h;subst h
   simp only[Option.some.injEq,AO.cells.injEq]at e;obtain ⟨rfl,rfl⟩:=e;obtain ⟨xs,ty,h1,h2,h3⟩:=hm.cells _ cs hg;exact ⟨xs,ty,h1,by omega,by rw[hlen];exact hrel rfl _ h3⟩
  ·exact hm.cells l cs1 e
 ·rw[zag]at e
  split at e
  ·rename_i h;subst h
   simp only[Option.some.injEq,AO.cells.injEq]at e;obtain ⟨rfl,rfl⟩:=e;have:=hm.ghost _ cs hg;subst this;exact List.length_eq_zero_iff.1 hlen
  ·exact hm.ghost l cs1 e
 ·rw[zag]at e
  split at e
  ·cases e
  ·exact hm.maps l kvs e
theorem zig {c:Ctx} {x0 x:AV} (hx:∀ y,rel c x0 y->rel c x y):∀ {cs:List AV} {ys:List Value} {i:Nat},cs[i]?=some x0->relCs c cs ys->relCs c (cs.set i x) ys
 |[],_,_,h,_=>by simp at h
 |z::cs,ys,0,h,r=>by
  simp only[List.getElem?_cons_zero,Option.some.injEq]at h;subst h;simp only[relCs,List.set_cons_zero]at r |-
  obtain ⟨y,ys',e,ho,r1,r2⟩:=r;exact ⟨y,ys',e,ho,hx y r1,r2⟩
 |z::cs,ys,i+1,h,r=>by
  simp only[List.getElem?_cons_succ]at h;simp only[relCs,List.set_cons_succ]at r |-
  obtain ⟨y,ys',e,ho,r1,r2⟩:=r;exact ⟨y,ys',e,ho,r1,zig hx h r2⟩
theorem zde {c:ACode} {Q:Exit->AF->AS->Prop} (k i l sz:Nat) {cs:List AV} {r:Bool} (hk:zah σ k=some (.cells cs r)) (hi:cs[i]?=some (.s0 sz)) (h1:N<=l) (h2:zaM φ<=l) (h3:zax σ<=l)
  (h:AWp P inv w0 M N n c Q φ (sput (sput σ l (.cells [] false)) k (.cells (cs.set i (.sm l 0 0 0 sz)) r))):AWp P inv w0 M N n c Q φ σ:=by
 intro c₀ hc β a w hs;obtain ⟨hm,hx⟩:=hs.mem.empty h3;have hkl:k≠l:=fun e=>by have:=(zau σ k _ hk).1;omega
 have hg:zah (sput σ l (.cells [] false)) k=some (.cells cs r):=by rw[zag,if_neg hkl];exact hk
 obtain ⟨hm2,hctx⟩:=hm.recell (cs':=cs.set i (.sm l 0 0 0 sz)) hg (by simp) (fun _ ys hr=>zig (x0:=.s0 sz) (fun y hy=>by
  have hy':rel (ctx inv M σ β w) (.s0 sz) y:=by simpa only[rel] using hy
  exact zia hy') hi hr)
 refine Code.wp_mono ?_ (h c₀ hc β a w ⟨⟨fun j=>?_,hm2⟩,hs.size,hs.defers⟩)
 ·rintro e a' w' ⟨φ2,σ2,β2,q2,hst2,hext2⟩
  rw[hctx]at hext2;exact ⟨φ2,σ2,β2,q2,hst2,(hx N h1).trans hext2⟩
 ·rw[hctx]
  exact (hx l (Nat.le_refl _)).rel (zaK _ (Nat.le_trans (zbO φ j) h2)) (hs.slots j)
theorem zad {j:Nat} {F:AFn} (hF:Has P inv j F) {args:List AV} {R:AV->AS->Prop} (hl:args.length<=F.ntmps)
  (h:∀ Q:Exit->AF->AS->Prop,(∀ φ σ r,zeR φ σ F.res=some r->R r σ->Q .ret φ σ)->(∀ φ σ,Q .ret φ σ->Q .normal φ σ)->AWp P inv w0 M N F.ntmps F.body Q (zoH 0 args) σ):AC P inv w0 M N j args σ R :=
 AC.body hF hl (h _ (fun _ _ r h1 h2=>⟨r,h1,h2⟩) fun _ _ h=>h)
def midK (A:Prop) (φ1:List (Nat×AV)) (σ1:List (Nat×AO)):List (Nat×AV)->List (Nat×AO)->Prop:=fun φ σ=>A/\(ziG φ1 φ/\zdG σ1 σ)
theorem midK_app (A:Prop) (φ1:List (Nat×AV)) (σ1:List (Nat×AO)) (φ:List (Nat×AV)) (σ:List (Nat×AO)):midK A φ1 σ1 φ σ=(A/\(ziG φ1 φ/\zdG σ1 σ)):=rfl
attribute [go_sem] midK_app
theorem AWp.mid (ks:List Nat) (A:Prop) {x y:ACode} {Q:Exit->AF->AS->Prop} (h1:AWp P inv w0 M N n x (Then (midK A (zgr ks φ) σ) Q) φ σ) (h2:A->AWp P inv w0 M N n y Q (zgr ks φ) σ):AWp P inv w0 M N n (.seq x y) Q φ σ :=
 AWp.seq fun K hK=>by
  refine AWp.mono ?_ h1;intro e φ' σ' q;cases e with
  |normal=>exact hK _ _ ((h2 q.1).sub q.2.1 q.2.2)
  |exit id=>exact q
  |goto l=>exact q
  |ret=>exact q
  |panic ch=>exact q
  |outgrown=>exact q
end
section
variable {P:Program} {inv:Nat->Option Nat} {w0:World} {M:Nat->Prop} {N:Nat} {φ:AF} {σ:AS}
theorem wI (hH:HasAll P inv) {j:Nat} (F:AFn) {args:List AV} {K:AV->AS->Prop} (N':Nat) {n:Nat} {res:List ARes} {b:ACode} (h:∀ Q:Exit->AF->AS->Prop,(∀ φ σ r,zeR φ σ res=some r->K r σ->Q .ret φ σ)->(∀ φ σ,Q .ret φ σ->Q .normal φ σ)->AWp P inv w0 M N' n b Q (zoH 0 args) σ) (he:F=⟨n,res,b⟩:=by exact rfl) (hN:N<=N':=by omega) (hf:zaM φ<=N':=by first|omega|exact wF|((refine wD ?_;try exact wt);omega)) (hF:code j=some F:=by rfl) (hl:args.length<=F.ntmps:=by exact Nat.le_of_ble_eq_true rfl):CallK P inv w0 M N φ σ j args K:=by subst he;exact AC.callK N' hN hf (zad (hH.has _ _ hF) hl h)
theorem wJ (N':Nat) {j:Nat} {args:List AV} {r0:AV} {τ:AS} (h:AC P inv w0 M N' j args σ fun r σ'=>r=r0/\σ'=τ) {K:AV->AS->Prop} (hk:K r0 τ) (hN:N<=N':=by omega) (hf:zaM φ<=N':=by first|omega|exact wF|((refine wD ?_;try exact wt);omega)):CallK P inv w0 M N φ σ j args K:=zbp N' h hN hf hk
end
end Go.Eng
namespace Go.Lev
open Go.Eng
set_option maxRecDepth 10000
set_option maxHeartbeats 4000000
variable {P:Program} {inv:Nat->Option Nat}
structure Track where
 id:Int
 is:Int
 deriving DecidableEq,Inhabited
def Track.c (t:Track):List AV:=[.n t.id,.i .u8 t.is]
instance:Cells Track.c 2:=⟨fun _=>rfl,fun _=>rfl⟩
structure Switch where
 id:Int
 lie:Int
 call:Int
 deriving DecidableEq,Inhabited
def Switch.c (t:Switch):List AV:=[.n t.id,.n t.lie,.n t.call]
instance:Cells Switch.c 3:=⟨fun _=>rfl,fun _=>rfl⟩
structure Lock where
 id:Int
 phase:Int
 gone:Int
 left:Int
 deriving DecidableEq,Inhabited
def Lock.c (t:Lock):List AV:=[.n t.id,.i .u8 t.phase,.n t.gone,.n t.left]
instance:Cells Lock.c 4:=⟨fun _=>rfl,fun _=>rfl⟩
attribute [go_sem] Track.c Switch.c Lock.c
structure State where
 tracks:List Track
 switches:List Switch
 locks:List Lock
 deriving DecidableEq,Inhabited
def State.c (s:State):List AV:=[.sl 2 (s.tracks.map Track.c),.sl 3 (s.switches.map Switch.c),.sl 4 (s.locks.map Lock.c)]
instance:Cells State.c 3:=⟨fun _=>rfl,fun _=>rfl⟩
attribute [go_sem] State.c
def zaW {α β:Type} (p:α->β->Bool):List α->List β->Bool
 |[],[]=>true
 |x::xs,y::ys=>p x y&&zaW p xs ys
 |_,_=>false
theorem zcy {α β:Type} {p:α->β->Bool}:∀ {a:List α} {b:List β},zaW p a b=true->a.length=b.length
 |[],[],_=>rfl
 |x::xs,y::ys,h=>by simp only[zaW,Bool.and_eq_true]at h;simp[zcy h.2]
 |[],_::_,h=>by simp[zaW]at h
 |_::_,[],h=>by simp[zaW]at h
def zkM (s:State):Bool:=decide (200<(s.tracks.length:Int))||decide (200<(s.switches.length:Int))||decide (200<(s.locks.length:Int))
theorem zqh (hH:HasAll P inv) (s:State):PC P inv 8 [.agg s.c] (·=.b (zkM s)):=by
 refine wf hH cd8 fun w0 M Q hM hE hQ hR=>?_;refine wq ?_
 (repeat' first|refine zaa kj fun K hK=>?_|exact wt|refine wA ?_|(refine wB ?_ ?_<;>intro h<;>first|exact wN h|subst (h:(_:Bool)=_)|skip)|(refine wQ ?_;clear hQ hR hE hM)|fail)
 all_goals (first|rfl|(grind[zkM])|(simp[zkM, *];done)|(simp_all [zkM];done)|(simp_all [zkM]<;>first|omega|((repeat' split)<;>first|rfl|(exfalso;omega))))
def keptSw (x y:Switch):Bool:=decide (x.id=y.id)&&decide (x.call=y.call)
def keptLk (x y:Lock):Bool:=decide (x.id=y.id)&&decide (x.phase=y.phase)&&decide (x.gone=y.gone)
def za1 {α:Type} (p:α->Bool):Int->List α->Int
 |_,[]=>-1
 |k,x::r=>if p x=true then k else za1 p (k+1) r
theorem zrB (hH:HasAll P inv) {jc:Nat} {caps:List AV} {p:Rte->Bool} (l:List Rte) (hc:∀ x∈l,PC P inv jc ([.agg x.c]++caps) (·=.b (p x))) (hl:l.length<=1000000000):PC P inv 138 [.sl 7 (l.map Rte.c),.fn jc caps] (·=.n (za1 p 0 l)):=by
 refine wf hH cd138 fun w0 M Q hM hE hQ hR=>?_;refine wq ?_
 (repeat' first|refine zaa kA fun K hK=>?_|exact wt|refine wA ?_|(refine wB ?_ ?_<;>intro h<;>first|exact wN h|subst (h:(_:Bool)=_)|skip)|(refine wQ ?_;clear hQ hR hE hM)|fail)
 refine zcC (fun k=>[(0,.sl 7 (l.map Rte.c)),(1,.fn jc caps),(7,.n l.length),(8,.n k)]) (fun k=>[]) (l.length) (fun k=>za1 p k (l.drop k)=za1 p 0 l) ?_;rintro k ⟨hk,hg⟩;rcases Nat.lt_or_ge k l.length with hlt|hge
 ·rw[zae hlt]at hg
  rw[za1]at hg
  (repeat' first|refine zaa kA fun K hK=>?_|exact wt|refine wA ?_|(refine wB ?_ ?_<;>intro h<;>first|exact wN h|subst (h:(_:Bool)=_)|skip)|(refine wQ ?_;clear hQ hR hE hM)|(refine zak hM (hc _ (zac hlt)) ?_;try refine wD ?_)|fail)
  ·rw[<-hg,if_pos h]
  ·exact ⟨k+1,by omega,⟨by omega,by rw[<-hg,if_neg (by rw[h];simp)];rfl⟩,(by (try dsimp only);(first|omega|(simp;done)|(simp;omega)))⟩
 ·rw[List.drop_eq_nil_of_le hge]at hg
  (repeat' first|refine zaa kA fun K hK=>?_|exact wt|refine wA ?_|(refine wB ?_ ?_<;>intro h<;>first|exact wN h|subst (h:(_:Bool)=_)|skip)|(refine wQ ?_;clear hQ hR hE hM)|fail)
  rw[<-hg];rfl
theorem zrC (hH:HasAll P inv) {jc:Nat} {caps:List AV} {p:Pnt->Bool} (l:List Pnt) (hc:∀ x∈l,PC P inv jc ([.agg x.c]++caps) (·=.b (p x))) (hl:l.length<=1000000000):PC P inv 109 [.sl 2 (l.map Pnt.c),.fn jc caps] (·=.n (za1 p 0 l)):=by
 refine wf hH cd109 fun w0 M Q hM hE hQ hR=>?_;refine wq ?_
 (repeat' first|refine zaa kA fun K hK=>?_|exact wt|refine wA ?_|(refine wB ?_ ?_<;>intro h<;>first|exact wN h|subst (h:(_:Bool)=_)|skip)|(refine wQ ?_;clear hQ hR hE hM)|fail)
 refine zcC (fun k=>[(0,.sl 2 (l.map Pnt.c)),(1,.fn jc caps),(7,.n l.length),(8,.n k)]) (fun k=>[]) (l.length) (fun k=>za1 p k (l.drop k)=za1 p 0 l) ?_;rintro k ⟨hk,hg⟩;rcases Nat.lt_or_ge k l.length with hlt|hge
 ·rw[zae hlt]at hg
  rw[za1]at hg
  (repeat' first|refine zaa kA fun K hK=>?_|exact wt|refine wA ?_|(refine wB ?_ ?_<;>intro h<;>first|exact wN h|subst (h:(_:Bool)=_)|skip)|(refine wQ ?_;clear hQ hR hE hM)|(refine zak hM (hc _ (zac hlt)) ?_;try refine wD ?_)|fail)
  ·rw[<-hg,if_pos h]
  ·exact ⟨k+1,by omega,⟨by omega,by rw[<-hg,if_neg (by rw[h];simp)];rfl⟩,(by (try dsimp only);(first|omega|(simp;done)|(simp;omega)))⟩
 ·rw[List.drop_eq_nil_of_le hge]at hg
  (repeat' first|refine zaa kA fun K hK=>?_|exact wt|refine wA ?_|(refine wB ?_ ?_<;>intro h<;>first|exact wN h|subst (h:(_:Bool)=_)|skip)|(refine wQ ?_;clear hQ hR hE hM)|fail)
  rw[<-hg];rfl
theorem idx_sgn (hH:HasAll P inv) {jc:Nat} {caps:List AV} {p:Sgn->Bool} (l:List Sgn) (hc:∀ x∈l,PC P inv jc ([.agg x.c]++caps) (·=.b (p x))) (hl:l.length<=1000000000):PC P inv 143 [.sl 3 (l.map Sgn.c),.fn jc caps] (·=.n (za1 p 0 l)):=by
 refine wf hH cd143 fun w0 M Q hM hE hQ hR=>?_;refine wq ?_
 (repeat' first|refine zaa kA fun K hK=>?_|exact wt|refine wA ?_|(refine wB ?_ ?_<;>intro h<;>first|exact wN h|subst (h:(_:Bool)=_)|skip)|(refine wQ ?_;clear hQ hR hE hM)|fail)
 refine zcC (fun k=>[(0,.sl 3 (l.map Sgn.c)),(1,.fn jc caps),(7,.n l.length),(8,.n k)]) (fun k=>[]) (l.length) (fun k=>za1 p k (l.drop k)=za1 p 0 l) ?_;rintro k ⟨hk,hg⟩;rcases Nat.lt_or_ge k l.length with hlt|hge
 ·rw[zae hlt]at hg
  rw[za1]at hg
  (repeat' first|refine zaa kA fun K hK=>?_|exact wt|refine wA ?_|(refine wB ?_ ?_<;>intro h<;>first|exact wN h|subst (h:(_:Bool)=_)|skip)|(refine wQ ?_;clear hQ hR hE hM)|(refine zak hM (hc _ (zac hlt)) ?_;try refine wD ?_)|fail)
  ·rw[<-hg,if_pos h]
  ·exact ⟨k+1,by omega,⟨by omega,by rw[<-hg,if_neg (by rw[h];simp)];rfl⟩,(by (try dsimp only);(first|omega|(simp;done)|(simp;omega)))⟩
 ·rw[List.drop_eq_nil_of_le hge]at hg
  (repeat' first|refine zaa kA fun K hK=>?_|exact wt|refine wA ?_|(refine wB ?_ ?_<;>intro h<;>first|exact wN h|subst (h:(_:Bool)=_)|skip)|(refine wQ ?_;clear hQ hR hE hM)|fail)
  rw[<-hg];rfl
theorem ziB (hH:HasAll P inv) {jc:Nat} {caps:List AV} {p:Section->Bool} (l:List Section) (hc:∀ x∈l,PC P inv jc ([.agg x.c]++caps) (·=.b (p x))) (hl:l.length<=1000000000):PC P inv 94 [.sl 3 (l.map Section.c),.fn jc caps] (·=.n (za1 p 0 l)):=by
 refine wf hH cd94 fun w0 M Q hM hE hQ hR=>?_;refine wq ?_
 (repeat' first|refine zaa kA fun K hK=>?_|exact wt|refine wA ?_|(refine wB ?_ ?_<;>intro h<;>first|exact wN h|subst (h:(_:Bool)=_)|skip)|(refine wQ ?_;clear hQ hR hE hM)|fail)
 refine zcC (fun k=>[(0,.sl 3 (l.map Section.c)),(1,.fn jc caps),(7,.n l.length),(8,.n k)]) (fun k=>[]) (l.length) (fun k=>za1 p k (l.drop k)=za1 p 0 l) ?_;rintro k ⟨hk,hg⟩;rcases Nat.lt_or_ge k l.length with hlt|hge
 ·rw[zae hlt]at hg
  rw[za1]at hg
  (repeat' first|refine zaa kA fun K hK=>?_|exact wt|refine wA ?_|(refine wB ?_ ?_<;>intro h<;>first|exact wN h|subst (h:(_:Bool)=_)|skip)|(refine wQ ?_;clear hQ hR hE hM)|(refine zak hM (hc _ (zac hlt)) ?_;try refine wD ?_)|fail)
  ·rw[<-hg,if_pos h]
  ·exact ⟨k+1,by omega,⟨by omega,by rw[<-hg,if_neg (by rw[h];simp)];rfl⟩,(by (try dsimp only);(first|omega|(simp;done)|(simp;omega)))⟩
 ·rw[List.drop_eq_nil_of_le hge]at hg
  (repeat' first|refine zaa kA fun K hK=>?_|exact wt|refine wA ?_|(refine wB ?_ ?_<;>intro h<;>first|exact wN h|subst (h:(_:Bool)=_)|skip)|(refine wQ ?_;clear hQ hR hE hM)|fail)
  rw[<-hg];rfl
theorem idx_trk (hH:HasAll P inv) {jc:Nat} {caps:List AV} {p:Track->Bool} (l:List Track) (hc:∀ x∈l,PC P inv jc ([.agg x.c]++caps) (·=.b (p x))) (hl:l.length<=1000000000):PC P inv 96 [.sl 2 (l.map Track.c),.fn jc caps] (·=.n (za1 p 0 l)):=by
 refine wf hH cd96 fun w0 M Q hM hE hQ hR=>?_;refine wq ?_
 (repeat' first|refine zaa kA fun K hK=>?_|exact wt|refine wA ?_|(refine wB ?_ ?_<;>intro h<;>first|exact wN h|subst (h:(_:Bool)=_)|skip)|(refine wQ ?_;clear hQ hR hE hM)|fail)
 refine zcC (fun k=>[(0,.sl 2 (l.map Track.c)),(1,.fn jc caps),(7,.n l.length),(8,.n k)]) (fun k=>[]) (l.length) (fun k=>za1 p k (l.drop k)=za1 p 0 l) ?_;rintro k ⟨hk,hg⟩;rcases Nat.lt_or_ge k l.length with hlt|hge
 ·rw[zae hlt]at hg
  rw[za1]at hg
  (repeat' first|refine zaa kA fun K hK=>?_|exact wt|refine wA ?_|(refine wB ?_ ?_<;>intro h<;>first|exact wN h|subst (h:(_:Bool)=_)|skip)|(refine wQ ?_;clear hQ hR hE hM)|(refine zak hM (hc _ (zac hlt)) ?_;try refine wD ?_)|fail)
  ·rw[<-hg,if_pos h]
  ·exact ⟨k+1,by omega,⟨by omega,by rw[<-hg,if_neg (by rw[h];simp)];rfl⟩,(by (try dsimp only);(first|omega|(simp;done)|(simp;omega)))⟩
 ·rw[List.drop_eq_nil_of_le hge]at hg
  (repeat' first|refine zaa kA fun K hK=>?_|exact wt|refine wA ?_|(refine wB ?_ ?_<;>intro h<;>first|exact wN h|subst (h:(_:Bool)=_)|skip)|(refine wQ ?_;clear hQ hR hE hM)|fail)
  rw[<-hg];rfl
theorem idx_swt (hH:HasAll P inv) {jc:Nat} {caps:List AV} {p:Switch->Bool} (l:List Switch) (hc:∀ x∈l,PC P inv jc ([.agg x.c]++caps) (·=.b (p x))) (hl:l.length<=1000000000):PC P inv 97 [.sl 3 (l.map Switch.c),.fn jc caps] (·=.n (za1 p 0 l)):=by
 refine wf hH cd97 fun w0 M Q hM hE hQ hR=>?_;refine wq ?_
 (repeat' first|refine zaa kA fun K hK=>?_|exact wt|refine wA ?_|(refine wB ?_ ?_<;>intro h<;>first|exact wN h|subst (h:(_:Bool)=_)|skip)|(refine wQ ?_;clear hQ hR hE hM)|fail)
 refine zcC (fun k=>[(0,.sl 3 (l.map Switch.c)),(1,.fn jc caps),(7,.n l.length),(8,.n k)]) (fun k=>[]) (l.length) (fun k=>za1 p k (l.drop k)=za1 p 0 l) ?_;rintro k ⟨hk,hg⟩;rcases Nat.lt_or_ge k l.length with hlt|hge
 ·rw[zae hlt]at hg
  rw[za1]at hg
  (repeat' first|refine zaa kA fun K hK=>?_|exact wt|refine wA ?_|(refine wB ?_ ?_<;>intro h<;>first|exact wN h|subst (h:(_:Bool)=_)|skip)|(refine wQ ?_;clear hQ hR hE hM)|(refine zak hM (hc _ (zac hlt)) ?_;try refine wD ?_)|fail)
  ·rw[<-hg,if_pos h]
  ·exact ⟨k+1,by omega,⟨by omega,by rw[<-hg,if_neg (by rw[h];simp)];rfl⟩,(by (try dsimp only);(first|omega|(simp;done)|(simp;omega)))⟩
 ·rw[List.drop_eq_nil_of_le hge]at hg
  (repeat' first|refine zaa kA fun K hK=>?_|exact wt|refine wA ?_|(refine wB ?_ ?_<;>intro h<;>first|exact wN h|subst (h:(_:Bool)=_)|skip)|(refine wQ ?_;clear hQ hR hE hM)|fail)
  rw[<-hg];rfl
theorem idx_int (hH:HasAll P inv) {jc:Nat} {caps:List AV} {p:Int->Bool} (l:List Int) (hc:∀ x∈l,PC P inv jc ([.n x]++caps) (·=.b (p x))) (hl:l.length<=1000000000):PC P inv 185 [.sl 1 (l.map zaJ),.fn jc caps] (·=.n (za1 p 0 l)):=by
 refine wf hH cd185 fun w0 M Q hM hE hQ hR=>?_;refine wq ?_
 (repeat' first|refine zaa kA fun K hK=>?_|exact wt|refine wA ?_|(refine wB ?_ ?_<;>intro h<;>first|exact wN h|subst (h:(_:Bool)=_)|skip)|(refine wQ ?_;clear hQ hR hE hM)|fail)
 refine zcC (fun k=>[(0,.sl 1 (l.map zaJ)),(1,.fn jc caps),(7,.n l.length),(8,.n k)]) (fun k=>[]) (l.length) (fun k=>za1 p k (l.drop k)=za1 p 0 l) ?_;rintro k ⟨hk,hg⟩;rcases Nat.lt_or_ge k l.length with hlt|hge
 ·rw[zae hlt]at hg
  rw[za1]at hg
  (repeat' first|refine zaa kA fun K hK=>?_|exact wt|refine wA ?_|(refine wB ?_ ?_<;>intro h<;>first|exact wN h|subst (h:(_:Bool)=_)|skip)|(refine wQ ?_;clear hQ hR hE hM)|(refine zak hM (hc _ (zac hlt)) ?_;try refine wD ?_)|fail)
  ·rw[<-hg,if_pos h]
  ·exact ⟨k+1,by omega,⟨by omega,by rw[<-hg,if_neg (by rw[h];simp)];rfl⟩,(by (try dsimp only);(first|omega|(simp;done)|(simp;omega)))⟩
 ·rw[List.drop_eq_nil_of_le hge]at hg
  (repeat' first|refine zaa kA fun K hK=>?_|exact wt|refine wA ?_|(refine wB ?_ ?_<;>intro h<;>first|exact wN h|subst (h:(_:Bool)=_)|skip)|(refine wQ ?_;clear hQ hR hE hM)|fail)
  rw[<-hg];rfl
theorem idx_ask (hH:HasAll P inv) {jc:Nat} {caps:List AV} {p:AskR->Bool} (l:List AskR) (hc:∀ x∈l,PC P inv jc ([.agg x.c]++caps) (·=.b (p x))) (hl:l.length<=1000000000):PC P inv 266 [.sl 3 (l.map AskR.c),.fn jc caps] (·=.n (za1 p 0 l)):=by
 refine wf hH cd266 fun w0 M Q hM hE hQ hR=>?_;refine wq ?_
 (repeat' first|refine zaa kA fun K hK=>?_|exact wt|refine wA ?_|(refine wB ?_ ?_<;>intro h<;>first|exact wN h|subst (h:(_:Bool)=_)|skip)|(refine wQ ?_;clear hQ hR hE hM)|fail)
 refine zcC (fun k=>[(0,.sl 3 (l.map AskR.c)),(1,.fn jc caps),(7,.n l.length),(8,.n k)]) (fun k=>[]) (l.length) (fun k=>za1 p k (l.drop k)=za1 p 0 l) ?_;rintro k ⟨hk,hg⟩;rcases Nat.lt_or_ge k l.length with hlt|hge
 ·rw[zae hlt]at hg
  rw[za1]at hg
  (repeat' first|refine zaa kA fun K hK=>?_|exact wt|refine wA ?_|(refine wB ?_ ?_<;>intro h<;>first|exact wN h|subst (h:(_:Bool)=_)|skip)|(refine wQ ?_;clear hQ hR hE hM)|(refine zak hM (hc _ (zac hlt)) ?_;try refine wD ?_)|fail)
  ·rw[<-hg,if_pos h]
  ·exact ⟨k+1,by omega,⟨by omega,by rw[<-hg,if_neg (by rw[h];simp)];rfl⟩,(by (try dsimp only);(first|omega|(simp;done)|(simp;omega)))⟩
 ·rw[List.drop_eq_nil_of_le hge]at hg
  (repeat' first|refine zaa kA fun K hK=>?_|exact wt|refine wA ?_|(refine wB ?_ ?_<;>intro h<;>first|exact wN h|subst (h:(_:Bool)=_)|skip)|(refine wQ ?_;clear hQ hR hE hM)|fail)
  rw[<-hg];rfl
theorem idx_jon (hH:HasAll P inv) {jc:Nat} {caps:List AV} {p:Join->Bool} (l:List Join) (hc:∀ x∈l,PC P inv jc ([.agg x.c]++caps) (·=.b (p x))) (hl:l.length<=1000000000):PC P inv 278 [.sl 2 (l.map Join.c),.fn jc caps] (·=.n (za1 p 0 l)):=by
 refine wf hH cd278 fun w0 M Q hM hE hQ hR=>?_;refine wq ?_
 (repeat' first|refine zaa kA fun K hK=>?_|exact wt|refine wA ?_|(refine wB ?_ ?_<;>intro h<;>first|exact wN h|subst (h:(_:Bool)=_)|skip)|(refine wQ ?_;clear hQ hR hE hM)|fail)
 refine zcC (fun k=>[(0,.sl 2 (l.map Join.c)),(1,.fn jc caps),(7,.n l.length),(8,.n k)]) (fun k=>[]) (l.length) (fun k=>za1 p k (l.drop k)=za1 p 0 l) ?_;rintro k ⟨hk,hg⟩;rcases Nat.lt_or_ge k l.length with hlt|hge
 ·rw[zae hlt]at hg
  rw[za1]at hg
  (repeat' first|refine zaa kA fun K hK=>?_|exact wt|refine wA ?_|(refine wB ?_ ?_<;>intro h<;>first|exact wN h|subst (h:(_:Bool)=_)|skip)|(refine wQ ?_;clear hQ hR hE hM)|(refine zak hM (hc _ (zac hlt)) ?_;try refine wD ?_)|fail)
  ·rw[<-hg,if_pos h]
  ·exact ⟨k+1,by omega,⟨by omega,by rw[<-hg,if_neg (by rw[h];simp)];rfl⟩,(by (try dsimp only);(first|omega|(simp;done)|(simp;omega)))⟩
 ·rw[List.drop_eq_nil_of_le hge]at hg
  (repeat' first|refine zaa kA fun K hK=>?_|exact wt|refine wA ?_|(refine wB ?_ ?_<;>intro h<;>first|exact wN h|subst (h:(_:Bool)=_)|skip)|(refine wQ ?_;clear hQ hR hE hM)|fail)
  rw[<-hg];rfl
theorem zca {α:Type} [Inhabited α] (p:α->Bool):∀ (l:List α) (k:Int),(za1 p k l=-1/\l.find? p=none)\/∃ i:Nat,i<l.length/\za1 p k l=k+i/\l.find? p=some (nth l i)
 |[],k=>.inl ⟨rfl,rfl⟩
 |x::r,k=>by
  simp only[za1,List.find?_cons];cases h:p x with
  |true=>exact .inr ⟨0,by simp,by simp,rfl⟩
  |false =>
   rcases zca p r (k+1) with ⟨h1,h2⟩|⟨i,h1,h2,h3⟩
   ·exact .inl ⟨by simpa using h1,h2⟩
   ·exact .inr ⟨i+1,by simp;omega,by simp[h2];omega,by simp only[h3];rfl⟩
theorem is_rte (hH:HasAll P inv) (hI:HasIds P inv) (n:Int) (x:Rte):PC P inv 139 ([.agg x.c]++[.ip 1 [[.n n]] 0 0]) (·=.b (decide (x.id=n))):=by
 refine wf hH cd139 fun w0 M Q hM hE hQ hR=>?_;refine wq ?_
 (repeat' first|refine zaa kD fun K hK=>?_|exact wt|refine wA ?_|(refine wB ?_ ?_<;>intro h<;>first|exact wN h|subst (h:(_:Bool)=_)|skip)|(refine wQ ?_;clear hQ hR hE hM)|(refine zak hM (hI.rte _) ?_;try refine wD ?_)|fail)
 all_goals (first|rfl|(grind[])|(simp[ *];done)|(simp_all [];done)|(simp_all []<;>first|omega|((repeat' split)<;>first|rfl|(exfalso;omega))))
def Rte.z:Rte:=⟨0,0,0,[],[],[],0⟩
theorem find_rte (hH:HasAll P inv) (hI:HasIds P inv) (l:List Rte) (hl:l.length<=1000000000) (n:Int):PC P inv 127 [.sl 7 (l.map Rte.c),.n n] (·=.tup [.agg ((l.find? fun x=>decide (x.id=n)).getD Rte.z).c,.b (l.find? fun x=>decide (x.id=n)).isSome]):=by
 have hs:=zca (fun x:Rte=>decide (x.id=n)) l 0
 refine wf hH cd127 fun w0 M Q hM hE hQ hR=>?_;refine wq ?_
 (repeat' first|refine zaa kv fun K hK=>?_|exact wt|refine wA ?_|(refine wB ?_ ?_<;>intro h<;>first|exact wN h|subst (h:(_:Bool)=_)|skip)|(refine wQ ?_;clear hQ hR hE hM)|(refine zcM hM 4 (zrB hH l (fun x _=>is_rte hH hI n x) hl) ?_ rfl ?_;(focus exact wF);try refine wD ?_)|fail)
 ·rcases hs with ⟨h1,h2⟩|⟨i,h1,h2,h3⟩
  ·rw[h2];rfl
  ·omega
 ·rcases hs with ⟨h1,_⟩|⟨i,h1,h2,h3⟩
  ·omega
  ·rw[show (za1 (fun x:Rte=>decide (x.id=n)) 0 l).toNat=i by omega]
   (refine wD ?_;try exact wt)
   (repeat' first|refine zaa kv fun K hK=>?_|exact wt|refine wA ?_|(refine wB ?_ ?_<;>intro h<;>first|exact wN h|subst (h:(_:Bool)=_)|skip)|(refine wQ ?_;clear hQ hR hE hM)|fail)
   rw[h3];rfl
theorem is_sgn (hH:HasAll P inv) (hI:HasIds P inv) (n:Int) (x:Sgn):PC P inv 144 ([.agg x.c]++[.ip 1 [[.n n]] 0 0]) (·=.b (decide (x.id=n))):=by
 refine wf hH cd144 fun w0 M Q hM hE hQ hR=>?_;refine wq ?_
 (repeat' first|refine zaa kD fun K hK=>?_|exact wt|refine wA ?_|(refine wB ?_ ?_<;>intro h<;>first|exact wN h|subst (h:(_:Bool)=_)|skip)|(refine wQ ?_;clear hQ hR hE hM)|(refine zak hM (hI.sgn _) ?_;try refine wD ?_)|fail)
 all_goals (first|rfl|(grind[])|(simp[ *];done)|(simp_all [];done)|(simp_all []<;>first|omega|((repeat' split)<;>first|rfl|(exfalso;omega))))
def Sgn.z:Sgn:=⟨0,0,0⟩
theorem zoq (hH:HasAll P inv) (hI:HasIds P inv) (l:List Sgn) (hl:l.length<=1000000000) (n:Int):PC P inv 136 [.sl 3 (l.map Sgn.c),.n n] (·=.tup [.agg ((l.find? fun x=>decide (x.id=n)).getD Sgn.z).c,.b (l.find? fun x=>decide (x.id=n)).isSome]):=by
 have hs:=zca (fun x:Sgn=>decide (x.id=n)) l 0
 refine wf hH cd136 fun w0 M Q hM hE hQ hR=>?_;refine wq ?_
 (repeat' first|refine zaa kv fun K hK=>?_|exact wt|refine wA ?_|(refine wB ?_ ?_<;>intro h<;>first|exact wN h|subst (h:(_:Bool)=_)|skip)|(refine wQ ?_;clear hQ hR hE hM)|(refine zcM hM 4 (idx_sgn hH l (fun x _=>is_sgn hH hI n x) hl) ?_ rfl ?_;(focus exact wF);try refine wD ?_)|fail)
 ·rcases hs with ⟨h1,h2⟩|⟨i,h1,h2,h3⟩
  ·rw[h2];rfl
  ·omega
 ·rcases hs with ⟨h1,_⟩|⟨i,h1,h2,h3⟩
  ·omega
  ·rw[show (za1 (fun x:Sgn=>decide (x.id=n)) 0 l).toNat=i by omega]
   (refine wD ?_;try exact wt)
   (repeat' first|refine zaa kv fun K hK=>?_|exact wt|refine wA ?_|(refine wB ?_ ?_<;>intro h<;>first|exact wN h|subst (h:(_:Bool)=_)|skip)|(refine wQ ?_;clear hQ hR hE hM)|fail)
   rw[h3];rfl
theorem is_pnt (hH:HasAll P inv) (hI:HasIds P inv) (n:Int) (x:Pnt):PC P inv 145 ([.agg x.c]++[.ip 1 [[.n n]] 0 0]) (·=.b (decide (x.id=n))):=by
 refine wf hH cd145 fun w0 M Q hM hE hQ hR=>?_;refine wq ?_
 (repeat' first|refine zaa kD fun K hK=>?_|exact wt|refine wA ?_|(refine wB ?_ ?_<;>intro h<;>first|exact wN h|subst (h:(_:Bool)=_)|skip)|(refine wQ ?_;clear hQ hR hE hM)|(refine zak hM (hI.pnt _) ?_;try refine wD ?_)|fail)
 all_goals (first|rfl|(grind[])|(simp[ *];done)|(simp_all [];done)|(simp_all []<;>first|omega|((repeat' split)<;>first|rfl|(exfalso;omega))))
def Pnt.z:Pnt:=⟨0,0⟩
theorem find_pnt (hH:HasAll P inv) (hI:HasIds P inv) (l:List Pnt) (hl:l.length<=1000000000) (n:Int):PC P inv 137 [.sl 2 (l.map Pnt.c),.n n] (·=.tup [.agg ((l.find? fun x=>decide (x.id=n)).getD Pnt.z).c,.b (l.find? fun x=>decide (x.id=n)).isSome]):=by
 have hs:=zca (fun x:Pnt=>decide (x.id=n)) l 0
 refine wf hH cd137 fun w0 M Q hM hE hQ hR=>?_;refine wq ?_
 (repeat' first|refine zaa kv fun K hK=>?_|exact wt|refine wA ?_|(refine wB ?_ ?_<;>intro h<;>first|exact wN h|subst (h:(_:Bool)=_)|skip)|(refine wQ ?_;clear hQ hR hE hM)|(refine zcM hM 4 (zrC hH l (fun x _=>is_pnt hH hI n x) hl) ?_ rfl ?_;(focus exact wF);try refine wD ?_)|fail)
 ·rcases hs with ⟨h1,h2⟩|⟨i,h1,h2,h3⟩
  ·rw[h2];rfl
  ·omega
 ·rcases hs with ⟨h1,_⟩|⟨i,h1,h2,h3⟩
  ·omega
  ·rw[show (za1 (fun x:Pnt=>decide (x.id=n)) 0 l).toNat=i by omega]
   (refine wD ?_;try exact wt)
   (repeat' first|refine zaa kv fun K hK=>?_|exact wt|refine wA ?_|(refine wB ?_ ?_<;>intro h<;>first|exact wN h|subst (h:(_:Bool)=_)|skip)|(refine wQ ?_;clear hQ hR hE hM)|fail)
   rw[h3];rfl
theorem zkL {α:Type} [Inhabited α] (p:α->Bool) (l:List α):decide (0<=za1 p 0 l)=l.any p:=by
 have h:∀ (l:List α) (k:Int),0<=k->(0<=za1 p k l↔l.any p=true):=by
  intro l
  induction l with
  |nil=>intro k _;simp[za1]
  |cons x r ih =>
   intro k hk;rw[za1,List.any_cons];cases h:p x with
   |true=>simp[hk]
   |false=>simpa using ih (k+1) (by omega)
 have:=h l 0 (by omega)
 grind
theorem any_pnt (hH:HasAll P inv) {jc:Nat} {caps:List AV} {p:Pnt->Bool} (l:List Pnt) (hc:∀ x∈l,PC P inv jc ([.agg x.c]++caps) (·=.b (p x))) (hl:l.length<=1000000000):PC P inv 91 [.sl 2 (l.map Pnt.c),.fn jc caps] (·=.b (l.any p)):=by
 rw[<-zkL];refine wf hH cd91 fun w0 M Q hM hE hQ hR=>?_;refine wq ?_
 (repeat' first|refine zaa kL fun K hK=>?_|exact wt|refine wA ?_|(refine wB ?_ ?_<;>intro h<;>first|exact wN h|subst (h:(_:Bool)=_)|skip)|(refine wQ ?_;clear hQ hR hE hM)|refine wC (zrC hH l hc hl) ?_|fail)
theorem any_jon (hH:HasAll P inv) {jc:Nat} {caps:List AV} {p:Join->Bool} (l:List Join) (hc:∀ x∈l,PC P inv jc ([.agg x.c]++caps) (·=.b (p x))) (hl:l.length<=1000000000):PC P inv 268 [.sl 2 (l.map Join.c),.fn jc caps] (·=.b (l.any p)):=by
 rw[<-zkL];refine wf hH cd268 fun w0 M Q hM hE hQ hR=>?_;refine wq ?_
 (repeat' first|refine zaa kL fun K hK=>?_|exact wt|refine wA ?_|(refine wB ?_ ?_<;>intro h<;>first|exact wN h|subst (h:(_:Bool)=_)|skip)|(refine wQ ?_;clear hQ hR hE hM)|refine wC (idx_jon hH l hc hl) ?_|fail)
def zcH (i:Int):Bool:=decide (1<=i)&&decide (i<=99)
theorem zfM (hH:HasAll P inv) (i:Int):PC P inv 50 [.n i] (·=.b (zcH i)):=by
 refine wf hH cd50 fun w0 M Q hM hE hQ hR=>?_;refine wq ?_
 (repeat' first|refine zaa [0,2] fun K hK=>?_|exact wt|refine wA ?_|(refine wB ?_ ?_<;>intro h<;>first|exact wN h|subst (h:(_:Bool)=_)|skip)|(refine wQ ?_;clear hQ hR hE hM)|fail)
 all_goals (first|rfl|(grind[zcH])|(simp[zcH, *];done)|(simp_all [zcH];done)|(simp_all [zcH]<;>first|omega|((repeat' split)<;>first|rfl|(exfalso;omega))))
def zcF (s:Section):Bool:=(decide (s.pt=0)&&decide ((s.ends.length:Int)=2))||(zcH s.pt&&decide ((s.ends.length:Int)=3))
theorem zdU (hH:HasAll P inv) (s:Section):PC P inv 41 [.agg s.c] (·=.b (zcF s)):=by
 refine wf hH cd41 fun w0 M Q hM hE hQ hR=>?_;refine wq ?_
 (repeat' first|refine zaa kj fun K hK=>?_|exact wt|refine wA ?_|(refine wB ?_ ?_<;>intro h<;>first|exact wN h|subst (h:(_:Bool)=_)|skip)|(refine wQ ?_;clear hQ hR hE hM)|(refine zak hM (zfM hH _) ?_;try refine wD ?_)|fail)
 all_goals (first|rfl|(grind[zcF])|(simp[zcF, *];done)|(simp_all [zcF];done)|(simp_all [zcF]<;>first|omega|((repeat' split)<;>first|rfl|(exfalso;omega))))
theorem isNaN_pc (hH:HasAll P inv) (i:Int):PC P inv 55 [.n i] (·=.b false):=by
 refine wf hH cd55 fun w0 M Q hM hE hQ hR=>?_;refine wq ?_
 (repeat' first|refine zaa [0,2] fun K hK=>?_|exact wt|refine wA ?_|(refine wB ?_ ?_<;>intro h<;>first|exact wN h|subst (h:(_:Bool)=_)|skip)|(refine wQ ?_;clear hQ hR hE hM)|fail)
 all_goals (first|rfl|(grind[])|(simp[ *];done)|(simp_all [];done)|(simp_all []<;>first|omega|((repeat' split)<;>first|rfl|(exfalso;omega))))
def zma (a b:Int):Int:=if a<b then -1 else if b<a then 1 else 0
theorem cmp_pc (hH:HasAll P inv) (a b:Int):PC P inv 53 [.n a,.n b] (·=.n (zma a b)):=by
 refine wf hH cd53 fun w0 M Q hM hE hQ hR=>?_;refine wq ?_
 (repeat' first|refine zaa [0,1,4,5,6,11,12,13,16,19] fun K hK=>?_|exact wt|refine wA ?_|(refine wB ?_ ?_<;>intro h<;>first|exact wN h|subst (h:(_:Bool)=_)|skip)|(refine wQ ?_;clear hQ hR hE hM)|(refine zak hM (isNaN_pc hH _) ?_;try refine wD ?_)|fail)
 all_goals (first|rfl|(grind[zma])|(simp[zma, *];done)|(simp_all [zma];done)|(simp_all [zma]<;>first|omega|((repeat' split)<;>first|rfl|(exfalso;omega))))
theorem zlz (hH:HasAll P inv) (s:Section) (b:Int):PC P inv 52 [.agg s.c,.n b] (·=.n (zma s.id b)):=by
 refine wf hH cd52 fun w0 M Q hM hE hQ hR=>?_;refine wq ?_
 (repeat' first|refine zaa [0,1,2,4] fun K hK=>?_|exact wt|refine wA ?_|(refine wB ?_ ?_<;>intro h<;>first|exact wN h|subst (h:(_:Bool)=_)|skip)|(refine wQ ?_;clear hQ hR hE hM)|(refine zak hM (cmp_pc hH _ _) ?_;try refine wD ?_)|fail)
 all_goals (first|rfl|(grind[zma])|(simp[zma, *];done)|(simp_all [zma];done)|(simp_all [zma]<;>first|omega|((repeat' split)<;>first|rfl|(exfalso;omega))))
def zhJ (l:List Section) (id:Int) (i j:Nat):Nat :=
 if _h:i<j then if zma (nth l ((i+j) / 2)).id id<0 then zhJ l id ((i+j) / 2+1) j else zhJ l id i ((i+j) / 2) else i
termination_by j-i
def zai (l:List Section) (id:Int):Nat×Bool :=
 (zhJ l id 0 l.length,decide (zhJ l id 0 l.length<l.length)&&decide (zma (nth l (zhJ l id 0 l.length)).id id=0))
theorem zme {l:List Section} {id:Int} {i j:Nat} (h:i<j):zhJ l id i j=if zma (nth l ((i+j) / 2)).id id<0 then zhJ l id ((i+j) / 2+1) j else zhJ l id i ((i+j) / 2):=by
 rw[zhJ,dif_pos h]
theorem zk3 {l:List Section} {id:Int} {i:Nat}:zhJ l id i i=i:=by rw[zhJ,dif_neg (by omega)]
theorem zsi (l:List Section) (id:Int):∀ (n i j:Nat),j-i<=n->i<=j->i<=zhJ l id i j/\zhJ l id i j<=j:=by
 intro n
 induction n with
 |zero=>intro i j h hij;unfold zhJ;rw[dif_neg (by omega)];omega
 |succ n ih =>
  intro i j h hij;unfold zhJ;split
  ·split
   ·have:=ih ((i+j) / 2+1) j (by omega) (by omega);omega
   ·have:=ih i ((i+j) / 2) (by omega) (by omega);omega
  ·omega
theorem bs_pc (hH:HasAll P inv) (l:List Section) (id:Int) (hl:l.length<=1000000000):PC P inv 51 [.sl 3 (l.map Section.c),.n id,.fn 52 []] (·=.tup [.n (zai l id).1,.b (zai l id).2]):=by
 have hb:=zsi l id l.length 0 l.length (by omega) (by omega)
 refine wf hH cd51 fun w0 M Q hM hE hQ hR=>?_;refine wq ?_
 (repeat' first|refine zaa kk fun K hK=>?_|exact wt|refine wA ?_|(refine wB ?_ ?_<;>intro h<;>first|exact wN h|subst (h:(_:Bool)=_)|skip)|(refine wQ ?_;clear hQ hR hE hM)|fail)
 refine zbu (ι:=Nat×Nat) (fun k=>[(0,.sl 3 (l.map Section.c)),(1,.n id),(2,.fn 52 []),(8,.n l.length),(9,.n k.1),(10,.n k.2)]) (fun _=>[]) (fun k=>k.1<=k.2/\k.2<=l.length/\zhJ l id k.1 k.2=zhJ l id 0 l.length) (fun k=>k.2-k.1) (0,l.length) ⟨by omega,by omega,rfl⟩ ?_ ?_ ?_
 ·(refine wD ?_;try exact wt)
  rfl
 ·(refine wD ?_;try exact wt)
 rintro ⟨i,j⟩ ⟨h1,h2,hg⟩;dsimp only at h1 h2 hg |-
 rcases Nat.lt_or_ge i j with hlt|hge
 ·rw[zme hlt]at hg
  have e1:(((i:Int)+j) / 2).toNat=(i+j) / 2:=by omega
  (repeat' first|refine zaa kk fun K hK=>?_|exact wt|refine wA ?_|(refine wB ?_ ?_<;>intro h<;>first|exact wN h|subst (h:(_:Bool)=_)|skip)|(refine wQ ?_;clear hQ hR hE hM)|(refine zak hM (zlz hH _ _) ?_;try refine wD ?_)|fail)
  ·simp only[e1]at h
   rw[if_pos h]at hg;exact ⟨((i+j) / 2+1,j),by dsimp only;omega,⟨by dsimp only;omega,h2,hg⟩,(by (try dsimp only);(first|omega|(simp;done)|(simp;omega)))⟩
  ·simp only[e1]at h
   rw[if_neg (by omega)]at hg
   exact ⟨(i,(i+j) / 2),by dsimp only;omega,⟨by dsimp only;omega,by dsimp only;omega,hg⟩,(by (try dsimp only);(first|omega|(simp;done)|(simp;omega)))⟩
 ·obtain rfl:i=j:=by omega
  rw[zk3]at hg
  (repeat' first|refine zaa kk fun K hK=>?_|exact wt|refine wA ?_|(refine wB ?_ ?_<;>intro h<;>first|exact wN h|subst (h:(_:Bool)=_)|skip)|(refine wQ ?_;clear hQ hR hE hM)|(refine zak hM (zlz hH _ _) ?_;try refine wD ?_)|fail)
  ·have h':zhJ l id 0 l.length<l.length:=by omega
   subst hg;simp[zai,h']
  ·have h':¬zhJ l id 0 l.length<l.length:=by omega
   subst hg;simp[zai,h']
theorem zn2 (hH:HasAll P inv) (l:List Section) (id:Int) (hl:l.length<=1000000000):PC P inv 46 [.sl 3 (l.map Section.c),.n id] (·=.tup [.n (zai l id).1,.b (zai l id).2]):=by
 refine wf hH cd46 fun w0 M Q hM hE hQ hR=>?_;refine wq ?_
 (repeat' first|refine zaa [0,1,4,5] fun K hK=>?_|exact wt|refine wA ?_|(refine wB ?_ ?_<;>intro h<;>first|exact wN h|subst (h:(_:Bool)=_)|skip)|(refine wQ ?_;clear hQ hR hE hM)|(refine zak hM (bs_pc hH _ _ (by omega)) ?_;try refine wD ?_)|fail)
def zdd (id:Int) (k:Nat):List Section->Int
 |[]=>-1
 |x::r=>if x.id=id then k else zdd id (k+1) r
theorem zfS (hH:HasAll P inv) (l:List Section) (id:Int) (hl:l.length<=1000000000):PC P inv 49 [.sl 3 (l.map Section.c),.n id] (·=.n (zdd id 0 l)):=by
 refine wf hH cd49 fun w0 M Q hM hE hQ hR=>?_;refine wq ?_
 (repeat' first|refine zaa kF fun K hK=>?_|exact wt|refine wA ?_|(refine wB ?_ ?_<;>intro h<;>first|exact wN h|subst (h:(_:Bool)=_)|skip)|(refine wQ ?_;clear hQ hR hE hM)|fail)
 refine zbu (fun k:Nat=>[(0,.sl 3 (l.map Section.c)),(1,.n id),(5,.n k)]) (fun _=>[]) (fun k=>k<=l.length/\zdd id k (l.drop k)=zdd id 0 l) (fun k=>l.length-k) 0 ⟨Nat.zero_le _,rfl⟩ ?_ ?_ ?_
 ·(refine wD ?_;try exact wt)
  rfl
 ·(refine wD ?_;try exact wt)
 rintro k ⟨hk,hg⟩;rcases Nat.lt_or_ge k l.length with hlt|hge
 ·rw[zae hlt]at hg
  rw[zdd]at hg
  (repeat' first|refine zaa kF fun K hK=>?_|exact wt|refine wA ?_|(refine wB ?_ ?_<;>intro h<;>first|exact wN h|subst (h:(_:Bool)=_)|skip)|(refine wQ ?_;clear hQ hR hE hM)|fail)
  ·rw[if_pos h]at hg;exact hg
  ·rw[if_neg h]at hg;exact ⟨k+1,by omega,⟨by omega,hg⟩,by simp⟩
 ·obtain rfl:k=l.length:=by omega
  rw[List.drop_length]at hg
  (repeat' first|refine zaa kF fun K hK=>?_|exact wt|refine wA ?_|(refine wB ?_ ?_<;>intro h<;>first|exact wN h|subst (h:(_:Bool)=_)|skip)|(refine wQ ?_;clear hQ hR hE hM)|fail)
  exact hg
def zgG (pt:Int):List Int:=if pt=0 then [0,3,0,3,0,0,0,0,0] else [0,1,2,1,0,0,2,0,0]
theorem zhK (hH:HasAll P inv) (s:Section):PC P inv 42 [.agg s.c] (·=.agg ((zgG s.pt).map AV.n)):=by
 refine wf hH cd42 fun w0 M Q hM hE hQ hR=>?_;refine wq ?_
 (repeat' first|refine zaa [0,1,2,5] fun K hK=>?_|exact wt|refine wA ?_|(refine wB ?_ ?_<;>intro h<;>first|exact wN h|subst (h:(_:Bool)=_)|skip)|(refine wQ ?_;clear hQ hR hE hM)|fail)
 all_goals (first|rfl|(grind[zgG])|(simp[zgG, *];done)|(simp_all [zgG];done)|(simp_all [zgG]<;>first|omega|((repeat' split)<;>first|rfl|(exfalso;omega))))
def zbh (s:Section):Bool:=if s.pt=0 then decide ((s.ends.length:Int)=2) else decide (1<=s.pt)&&decide (s.pt<=99)&&decide ((s.ends.length:Int)=3)
theorem zgO (hH:HasAll P inv) (s:Section):PC P inv 43 [.agg s.c] (·=.b (zbh s)):=by
 refine wf hH cd43 fun w0 M Q hM hE hQ hR=>?_;refine wq ?_
 (repeat' first|refine zaa [0,1,2,5] fun K hK=>?_|exact wt|refine wA ?_|(refine wB ?_ ?_<;>intro h<;>first|exact wN h|subst (h:(_:Bool)=_)|skip)|(refine wQ ?_;clear hQ hR hE hM)|fail)
 all_goals (first|rfl|(grind[zbh])|(simp[zbh, *];done)|(simp_all [zbh];done)|(simp_all [zbh]<;>first|omega|((repeat' split)<;>first|rfl|(exfalso;omega))))
def zeK (s:Section) (f t:Int):Int:=if s.pt=0 then (if f=0/\t=1\/f=1/\t=0 then 0 else -1) else if f=0/\(t=1\/t=2) then t else if t=0/\(f=1\/f=2) then f else -1
theorem zh9 (hH:HasAll P inv) (s:Section) (f t:Int):PC P inv 44 [.agg s.c,.n f,.n t] (·=.n (zeK s f t)):=by
 refine wf hH cd44 fun w0 M Q hM hE hQ hR=>?_;refine wq ?_
 (repeat' first|refine zaa [0,1,2,3,6,9,23,33,44] fun K hK=>?_|exact wt|refine wA ?_|(refine wB ?_ ?_<;>intro h<;>first|exact wN h|subst (h:(_:Bool)=_)|skip)|(refine wQ ?_;clear hQ hR hE hM)|fail)
 all_goals (first|rfl|(grind[zeK])|(simp[zeK, *];done)|(simp_all [zeK];done)|(simp_all [zeK]<;>first|omega|((repeat' split)<;>first|rfl|(exfalso;omega))))
def ziC (v:Int) (k:Nat):List Int->Int
 |[]=>-1
 |x::r=>if v=x then k else ziC v (k+1) r
theorem zen (hH:HasAll P inv) (l:List Int) (v:Int) (hl:l.length<=1000000000):PC P inv 45 [.sl 1 (l.map zaJ),.n v] (·=.n (ziC v 0 l)):=by
 refine wf hH cd45 fun w0 M Q hM hE hQ hR=>?_;refine wq ?_
 (repeat' first|refine zaa kA fun K hK=>?_|exact wt|refine wA ?_|(refine wB ?_ ?_<;>intro h<;>first|exact wN h|subst (h:(_:Bool)=_)|skip)|(refine wQ ?_;clear hQ hR hE hM)|fail)
 refine zbu (fun k:Nat=>[(0,.sl 1 (l.map zaJ)),(1,.n v),(7,.n l.length),(8,.n k)]) (fun _=>[]) (fun k=>k<=l.length/\ziC v k (l.drop k)=ziC v 0 l) (fun k=>l.length-k) 0 ⟨Nat.zero_le _,rfl⟩ (by (try dsimp only);(refine wD ?_;try exact wt)<;>omega) (by (try dsimp only);(refine wD ?_;try exact wt)<;>omega) ?_
 rintro k ⟨hk,hg⟩;rcases Nat.lt_or_ge k l.length with hlt|hge
 ·rw[zae hlt]at hg
  rw[ziC]at hg
  (repeat' first|refine zaa kA fun K hK=>?_|exact wt|refine wA ?_|(refine wB ?_ ?_<;>intro h<;>first|exact wN h|subst (h:(_:Bool)=_)|skip)|(refine wQ ?_;clear hQ hR hE hM)|fail)
  ·rw[if_pos h]at hg;exact hg
  ·rw[if_neg h]at hg;exact ⟨k+1,by omega,⟨by omega,hg⟩,(by (try dsimp only);(first|omega|(simp;done)|(simp;omega)))⟩
 ·obtain rfl:k=l.length:=by omega
  rw[List.drop_length]at hg
  (repeat' first|refine zaa kA fun K hK=>?_|exact wt|refine wA ?_|(refine wB ?_ ?_<;>intro h<;>first|exact wN h|subst (h:(_:Bool)=_)|skip)|(refine wQ ?_;clear hQ hR hE hM)|fail)
  exact hg
theorem twin_pc (hH:HasAll P inv) (s:Section) (h:s.ends.length<=1000000):PC P inv 15 [.agg s.c] (·=.agg s.c):=by
 refine wf hH cd15 fun w0 M Q hM hE hQ hR=>?_;refine wq ?_
 (repeat' first|refine zaa kD fun K hK=>?_|exact wt|refine wA ?_|(refine wB ?_ ?_<;>intro h<;>first|exact wN h|subst (h:(_:Bool)=_)|skip)|(refine wQ ?_;clear hQ hR hE hM)|fail)
def zeL (l:List Section):Bool:=(l.take 40).any (fun s=>decide (20<(s.ends.length:Int)))||decide (40<(l.length:Int))
theorem great_pc (hH:HasAll P inv) (l:List Section) (hl:l.length<=1000000000):PC P inv 21 [.sl 3 (l.map Section.c)] (·=.b (zeL l)):=by
 refine wf hH cd21 fun w0 M Q hM hE hQ hR=>?_;refine wq ?_
 (repeat' first|refine zaa kr fun K hK=>?_|exact wt|refine wA ?_|(refine wB ?_ ?_<;>intro h<;>first|exact wN h|subst (h:(_:Bool)=_)|skip)|(refine wQ ?_;clear hQ hR hE hM)|fail)
 refine zbu (fun k:Nat=>[(0,.sl 3 (l.map Section.c)),(3,.n k)]) (fun _=>[]) (fun k=>k<=l.length/\k<=40/\((l.take 40).drop k).any (fun s=>decide (20<(s.ends.length:Int)))=(l.take 40).any (fun s=>decide (20<(s.ends.length:Int)))) (fun k=>l.length-k) 0 ⟨Nat.zero_le _,Nat.zero_le _,rfl⟩ (by (try dsimp only);(refine wD ?_;try exact wt)<;>omega) (by (try dsimp only);(refine wD ?_;try exact wt)<;>omega) ?_
 rintro k ⟨hk,hk40,hg⟩;rcases Nat.lt_or_ge k (l.take 40).length with hlt|hge
 ·rw[zae hlt]at hg
  rw[List.any_cons,ze1 (by rw[List.length_take]at hlt;omega)]at hg
  rw[List.length_take]at hlt
  (repeat' first|refine zaa kr fun K hK=>?_|exact wt|refine wA ?_|(refine wB ?_ ?_<;>intro h<;>first|exact wN h|subst (h:(_:Bool)=_)|skip)|(refine wQ ?_;clear hQ hR hE hM)|fail)
  ·simp only[zeL,<-hg];simp[h]
  ·have h':¬(20<((nth l k).ends.length:Int)):=by omega
   rw[decide_eq_false h',Bool.false_or]at hg;exact ⟨k+1,by omega,⟨by omega,by omega,hg⟩,(by (try dsimp only);(first|omega|(simp;done)|(simp;omega)))⟩
 ·rw[List.drop_eq_nil_of_le hge]at hg
  rw[List.length_take]at hge
  (repeat' first|refine zaa kr fun K hK=>?_|exact wt|refine wA ?_|(refine wB ?_ ?_<;>intro h<;>first|exact wN h|subst (h:(_:Bool)=_)|skip)|(refine wQ ?_;clear hQ hR hE hM)|fail)
  all_goals (simp only[zeL,<-hg];simp)
def zhc (s:Section) (f lie:Int):Nat->Nat->AV
 |_,0=>.tup [.n 0,.n 2]
 |k,m+1=>if zeK s f k=lie then .tup [.n k,.n 0] else zhc s f lie (k+1) m
theorem rout_pc (hH:HasAll P inv) (s:Section) (f t:Int) (hl:s.ends.length<=1000000000):PC P inv 19 [.agg s.c,.n f,.n t] (·=if zbh s=true then (if t<0 then .tup [.n 0,.n 2] else zhc s f t 0 s.ends.length) else .tup [.n 0,.n 8]):=by
 refine wf hH cd19 fun w0 M Q hM hE hQ hR=>?_;refine wq ?_
 (repeat' first|refine zaa yr fun K hK=>?_|exact wt|refine wA ?_|(refine wB ?_ ?_<;>intro h<;>first|exact wN h|subst (h:(_:Bool)=_)|skip)|(refine wQ ?_;clear hQ hR hE hM)|(refine zak hM (zgO hH _) ?_;try refine wD ?_)|(refine zak hM (zh9 hH _ _ _) ?_;try refine wD ?_)|fail)
 ·simp_all
 ·simp_all
 have hs:zbh s=true:=by assumption
 rw[if_pos hs,if_neg (by omega)]at hQ
 refine zcC (fun k=>[(1,.n f),(2,.n t),(3,.ptr 0 3 0),(8,.n k)]) (fun k=>[(0,.cells s.c true)]) (s.ends.length) (fun k=>zhc s f t k (s.ends.length-k)=zhc s f t 0 s.ends.length) ?_;rintro k ⟨hk,hg⟩;rcases Nat.lt_or_ge k s.ends.length with hlt|hge
 ·rw[show s.ends.length-k=(s.ends.length-(k+1))+1 by omega,zhc]at hg
  (repeat' first|refine zaa yr fun K hK=>?_|exact wt|refine wA ?_|(refine wB ?_ ?_<;>intro h<;>first|exact wN h|subst (h:(_:Bool)=_)|skip)|(refine wQ ?_;clear hQ hR hE hM)|(refine zak hM (zh9 hH _ _ _) ?_;try refine wD ?_)|fail)
  ·rw[if_pos h]at hg;exact hg
  ·rw[if_neg h]at hg;exact ⟨k+1,by omega,⟨by omega,hg⟩,(by (try dsimp only);(first|omega|(simp;done)|(simp;omega)))⟩
 ·rw[show s.ends.length-k=0 by omega,zhc]at hg
  (repeat' first|refine zaa yr fun K hK=>?_|exact wt|refine wA ?_|(refine wB ?_ ?_<;>intro h<;>first|exact wN h|subst (h:(_:Bool)=_)|skip)|(refine wQ ?_;clear hQ hR hE hM)|fail)
  exact hg
def zbE (pt f t:Int):Int:=if pt=0 then (if f=0/\t=1\/f=1/\t=0 then 3 else 0) else if f=0/\(t=1\/t=2) then t else if t=0/\(f=1\/f=2) then f else 0
theorem zct {f:Int} (h:0<=f/\f<=2):f=0\/f=1\/f=2:=by omega
theorem seg_ways {pt f t:Int} (h:0<=f/\f<=2) (h':0<=t/\t<=2):(((((zgG pt).map AV.n).drop (f.toNat*3)).take 3))[t.toNat]?=some (.n (zbE pt f t)):=by
 rcases zct h with rfl|rfl|rfl<;>rcases zct h' with rfl|rfl|rfl<;>by_cases hp:pt=0<;>simp[zgG,zbE,hp]
theorem zqm (pt:Int):(((zgG pt).map AV.n).take 3)=[zbE pt 0 0,zbE pt 0 1,zbE pt 0 2].map AV.n:=by by_cases hp:pt=0<;>simp[zgG,zbE,hp]
theorem zql (pt:Int):((((zgG pt).map AV.n).drop 3).take 3)=[zbE pt 1 0,zbE pt 1 1,zbE pt 1 2].map AV.n:=by by_cases hp:pt=0<;>simp[zgG,zbE,hp]
theorem zqk (pt:Int):((((zgG pt).map AV.n).drop 6).take 3)=[zbE pt 2 0,zbE pt 2 1,zbE pt 2 2].map AV.n:=by by_cases hp:pt=0<;>simp[zgG,zbE,hp]
attribute [local go_sem] seg_ways zqm zql zqk
def zjY (s:Section) (f t:Int):AV:=if zcF s=true then (if f<0\/2<f\/t<0\/2<t\/zbE s.pt f t=0 then .tup [.n 0,.n 2] else .tup [.n ((zbE s.pt f t).tmod 3),.n 0]) else .tup [.n 0,.n 8]
theorem zoQ (hH:HasAll P inv) (s:Section) (f t:Int):PC P inv 16 [.agg s.c,.n f,.n t] (·=zjY s f t):=by
 refine wf hH cd16 fun w0 M Q hM hE hQ hR=>?_;refine wq ?_
 (repeat' first|refine zaa [0,1,2,3,6,7,10,33] fun K hK=>?_|exact wt|refine wA ?_|(refine wB ?_ ?_<;>intro h<;>first|exact wN h|subst (h:(_:Bool)=_)|skip)|(refine wQ ?_;clear hQ hR hE hM)|(refine zak hM (zdU hH _) ?_;try refine wD ?_)|(refine zak hM (zhK hH _) ?_;try refine wD ?_)|fail)
 all_goals (unfold zjY;simp only[*,if_true,if_false,true_or,or_true,reduceCtorEq,Bool.false_eq_true])
 rw[if_neg (by rintro (a|a|a|a|a)<;>first|omega|contradiction)]
def zlB (s:Section) (f lie:Int):Int:=ziC (if s.pt=0/\lie=0 then 3 else lie) 0 [zbE s.pt f 0,zbE s.pt f 1,zbE s.pt f 2]
def zkx (s:Section) (f lie:Int):AV:=if zcF s=true then (if f<0\/2<f\/lie<0\/2<lie then .tup [.n 0,.n 2] else if (¬s.pt=0/\lie=0)\/zlB s f lie<0 then .tup [.n 0,.n 2] else .tup [.n (zlB s f lie),.n 0]) else .tup [.n 0,.n 8]
theorem out_pc0 (hH:HasAll P inv) (s:Section) (f t:Int) (hf:¬(0<=f/\f<=2)):PC P inv 18 [.agg s.c,.n f,.n t] (·=zkx s f t):=by
 refine wf hH cd18 fun w0 M Q hM hE hQ hR=>?_;refine wq ?_
 (repeat' first|refine zaa yT fun K hK=>?_|exact wt|refine wA ?_|(refine wB ?_ ?_<;>intro h<;>first|exact wN h|subst (h:(_:Bool)=_)|skip)|(refine wQ ?_;clear hQ hR hE hM)|(refine zak hM (zdU hH _) ?_;try refine wD ?_)|(refine zak hM (zhK hH _) ?_;try refine wD ?_)|fail)
 all_goals (unfold zkx;simp only[*,if_true,if_false,true_or,or_true,reduceCtorEq,Bool.false_eq_true])
theorem out_pc1 (hH:HasAll P inv) (s:Section) (t:Int):PC P inv 18 [.agg s.c,.n 0,.n t] (·=zkx s 0 t):=by
 refine wf hH cd18 fun w0 M Q hM hE hQ hR=>?_;refine wq ?_
 (repeat' first|refine zaa yT fun K hK=>?_|exact wt|refine wA ?_|(refine wB ?_ ?_<;>intro h<;>first|exact wN h|subst (h:(_:Bool)=_)|skip)|(refine wQ ?_;clear hQ hR hE hM)|(refine zak hM (zdU hH _) ?_;try refine wD ?_)|(refine zak hM (zhK hH _) ?_;try refine wD ?_)|(refine zcM hM 4 (zen hH [zbE s.pt 0 0,zbE s.pt 0 1,zbE s.pt 0 2] 3 (by simp)) ?_ rfl ?_;(focus exact wF);try refine wD ?_)|(refine zcM hM 4 (zen hH [zbE s.pt 0 0,zbE s.pt 0 1,zbE s.pt 0 2] t (by simp)) ?_ rfl ?_;(focus exact wF);try refine wD ?_)|fail)
 all_goals (first|rfl|(grind[zkx,zlB])|(simp[zkx,zlB, *];done)|(simp_all [zkx,zlB];done)|(simp_all [zkx,zlB]<;>first|omega|((repeat' split)<;>first|rfl|(exfalso;omega))))
theorem out_pc2 (hH:HasAll P inv) (s:Section) (t:Int):PC P inv 18 [.agg s.c,.n 1,.n t] (·=zkx s 1 t):=by
 refine wf hH cd18 fun w0 M Q hM hE hQ hR=>?_;refine wq ?_
 (repeat' first|refine zaa yT fun K hK=>?_|exact wt|refine wA ?_|(refine wB ?_ ?_<;>intro h<;>first|exact wN h|subst (h:(_:Bool)=_)|skip)|(refine wQ ?_;clear hQ hR hE hM)|(refine zak hM (zdU hH _) ?_;try refine wD ?_)|(refine zak hM (zhK hH _) ?_;try refine wD ?_)|(refine zcM hM 4 (zen hH [zbE s.pt 1 0,zbE s.pt 1 1,zbE s.pt 1 2] 3 (by simp)) ?_ rfl ?_;(focus exact wF);try refine wD ?_)|(refine zcM hM 4 (zen hH [zbE s.pt 1 0,zbE s.pt 1 1,zbE s.pt 1 2] t (by simp)) ?_ rfl ?_;(focus exact wF);try refine wD ?_)|fail)
 all_goals (first|rfl|(grind[zkx,zlB])|(simp[zkx,zlB, *];done)|(simp_all [zkx,zlB];done)|(simp_all [zkx,zlB]<;>first|omega|((repeat' split)<;>first|rfl|(exfalso;omega))))
theorem out_pc3 (hH:HasAll P inv) (s:Section) (t:Int):PC P inv 18 [.agg s.c,.n 2,.n t] (·=zkx s 2 t):=by
 refine wf hH cd18 fun w0 M Q hM hE hQ hR=>?_;refine wq ?_
 (repeat' first|refine zaa yT fun K hK=>?_|exact wt|refine wA ?_|(refine wB ?_ ?_<;>intro h<;>first|exact wN h|subst (h:(_:Bool)=_)|skip)|(refine wQ ?_;clear hQ hR hE hM)|(refine zak hM (zdU hH _) ?_;try refine wD ?_)|(refine zak hM (zhK hH _) ?_;try refine wD ?_)|(refine zcM hM 4 (zen hH [zbE s.pt 2 0,zbE s.pt 2 1,zbE s.pt 2 2] 3 (by simp)) ?_ rfl ?_;(focus exact wF);try refine wD ?_)|(refine zcM hM 4 (zen hH [zbE s.pt 2 0,zbE s.pt 2 1,zbE s.pt 2 2] t (by simp)) ?_ rfl ?_;(focus exact wF);try refine wD ?_)|fail)
 all_goals (first|rfl|(grind[zkx,zlB])|(simp[zkx,zlB, *];done)|(simp_all [zkx,zlB];done)|(simp_all [zkx,zlB]<;>first|omega|((repeat' split)<;>first|rfl|(exfalso;omega))))
theorem out_pc (hH:HasAll P inv) (s:Section) (f t:Int):PC P inv 18 [.agg s.c,.n f,.n t] (·=zkx s f t):=by
 by_cases h:0<=f/\f<=2
 ·rcases zct h with rfl|rfl|rfl
  ·exact out_pc1 hH s t
  ·exact out_pc2 hH s t
  ·exact out_pc3 hH s t
 ·exact out_pc0 hH s f t h
theorem zg6 (id:Int):∀ (r:List Section) (k:Nat),zdd id k r=-1\/((k:Int)<=zdd id k r/\zdd id k r<k+r.length)
 |[],k=>.inl rfl
 |x::r,k=>by
  unfold zdd;split
  ·right;simp only[List.length_cons];omega
  ·have:=zg6 id r (k+1)
   simp only[List.length_cons];omega
def zcm (l:List Section) (s:Section) (e:Nat):Bool :=
 if (nth s.ends e).to=0/\(nth s.ends e).ed=0 then true
 else if zdd (nth s.ends e).to 0 l<0\/(nth s.ends e).ed<0\/((nth l (zdd (nth s.ends e).to 0 l).toNat).ends.length:Int)<=(nth s.ends e).ed\/((nth s.ends e).to=s.id/\(nth s.ends e).ed=(e:Int)) then false
 else decide ((nth (nth l (zdd (nth s.ends e).to 0 l).toNat).ends (nth s.ends e).ed.toNat).to=s.id)&&decide ((nth (nth l (zdd (nth s.ends e).to 0 l).toNat).ends (nth s.ends e).ed.toNat).ed=(e:Int))
theorem zjt (hH:HasAll P inv) (l:List Section) (s:Section) (e:Nat) (he:e<s.ends.length) (hl:l.length<=1000000000):PC P inv 54 [.sl 3 (l.map Section.c),.agg s.c,.n e] (·=.b (zcm l s e)):=by
 have hb:=zg6 (nth s.ends e).to l 0;refine wf hH cd54 fun w0 M Q hM hE hQ hR=>?_;refine wq ?_
 (repeat' first|refine zaa [0,1,2,4,6,7,8,9,22,57] fun K hK=>?_|exact wt|refine wA ?_|(refine wB ?_ ?_<;>intro h<;>first|exact wN h|subst (h:(_:Bool)=_)|skip)|(refine wQ ?_;clear hQ hR hE hM)|(refine zak hM (zfS hH _ _ hl) ?_;try refine wD ?_)|fail)
 all_goals (first|rfl|(grind[zcm])|(simp[zcm, *];done)|(simp_all [zcm];done)|(simp_all [zcm]<;>first|omega|((repeat' split)<;>first|rfl|(exfalso;omega))))
def zfw (s x:Section):Bool:=decide (s.id<=x.id)||(!decide (s.pt=0)&&decide (x.pt=s.pt))
def rOk (pre:List Section) (s:Section):Bool:=!(decide (s.id<1)||decide (99<s.id)||!zbh s)&&pre.all fun x=>!zfw s x
def zfq (pre:List Section):List Section->Bool
 |[]=>true
 |s::r=>rOk pre s&&zfq (pre++[s]) r
def zmP (l:List Section):Bool:=l.all fun s=>zbQ (zcm l s) 0 s.ends.length
def zbR (l:List Section):Bool:=!decide (16<(l.length:Int))&&zfq [] l&&zmP l
theorem zqw (hH:HasAll P inv) (l:List Section) (hl:l.length<=1000000000) (he:∀ s∈l,s.ends.length<=1000000000):PC P inv 48 [.sl 3 (l.map Section.c)] (·=.b (zbR l)):=by
 refine wf hH cd48 fun w0 M Q hM hE hQ hR=>?_;refine wq ?_
 (repeat' first|refine zaa kC fun K hK=>?_|exact wt|refine wA ?_|(refine wB ?_ ?_<;>intro h<;>first|exact wN h|subst (h:(_:Bool)=_)|skip)|(refine wQ ?_;clear hQ hR hE hM)|fail)
 ·simp[zbR,h]
 refine zcC (fun k=>[(0,.sl 3 (l.map Section.c)),(3,.n k)]) (fun k=>[]) (l.length) (fun k=>zfq (l.take k) (l.drop k)=zfq [] l) ?_;rintro k ⟨hk,hg⟩;rcases Nat.lt_or_ge k l.length with hlt|hge
 ·rw[zae hlt]at hg
  rw[zfq,zjZ hlt]at hg;have hs:=he _ (zac hlt)
  (repeat' first|refine zaa kC fun K hK=>?_|exact wt|refine wA ?_|(refine wB ?_ ?_<;>intro h<;>first|exact wN h|subst (h:(_:Bool)=_)|skip)|(refine wQ ?_;clear hQ hR hE hM)|(refine zak hM (zgO hH _) ?_;try refine wD ?_)|fail)
  iterate 3 (grind[zbR,rOk])
  have h1:¬(nth l k).id<1:=by assumption
  have h2:¬99<(nth l k).id:=by assumption
  have h3:zbh (nth l k)=true:=by assumption
  refine zbu (fun j:Nat=>[(0,.sl 3 (l.map Section.c)),(3,.n k),(4,.ptr 0 3 0),(5,.n j)]) (fun _=>[(0,.cells (nth l k).c true)]) (fun j=>j<=k/\((l.take k).drop j).all (fun x=>!zfw (nth l k) x)=(l.take k).all fun x=>!zfw (nth l k) x) (fun j=>k-j) 0 ⟨Nat.zero_le _,rfl⟩ (by (try dsimp only);(refine wD ?_;try exact wt)<;>omega) (by (try dsimp only);(refine wD ?_;try exact wt)<;>omega) ?_
  rintro j ⟨hj,hi⟩;have hkl:(l.take k).length=k:=by simp;omega
  rcases Nat.lt_or_ge j k with hjk|hjk
  ·rw[zae (by omega),List.all_cons,ze1 hjk]at hi
   have hs:=he _ (zac (Nat.lt_trans hjk hlt))
   (repeat' first|refine zaa kC fun K hK=>?_|exact wt|refine wA ?_|(refine wB ?_ ?_<;>intro h<;>first|exact wN h|subst (h:(_:Bool)=_)|skip)|(refine wQ ?_;clear hQ hR hE hM)|fail)
   all_goals (first|(refine ⟨j+1,by omega,⟨by omega,by grind[zbR,rOk,zfw]⟩,(by (try dsimp only);(first|omega|(simp;done)|(simp;omega)))⟩)|(grind[zbR,rOk,zfw]))
  ·rw[List.drop_eq_nil_of_le (by omega),List.all_nil]at hi
   (repeat' first|refine zaa kC fun K hK=>?_|exact wt|refine wA ?_|(refine wB ?_ ?_<;>intro h<;>first|exact wN h|subst (h:(_:Bool)=_)|skip)|(refine wQ ?_;clear hQ hR hE hM)|fail)
   all_goals (first|(refine ⟨k+1,by omega,⟨by omega,by grind[zbR,rOk]⟩,(by (try dsimp only);(first|omega|(simp;done)|(simp;omega)))⟩)|(grind[zbR,rOk]))
 ·rw[List.drop_eq_nil_of_le hge,zfq]at hg
  (repeat' first|refine zaa kC fun K hK=>?_|exact wt|refine wA ?_|(refine wB ?_ ?_<;>intro h<;>first|exact wN h|subst (h:(_:Bool)=_)|skip)|(refine wQ ?_;clear hQ hR hE hM)|fail)
  refine zcC (fun k=>[(0,.sl 3 (l.map Section.c)),(6,.n k)]) (fun k=>[]) (l.length) (fun k=>(l.drop k).all (fun s=>zbQ (zcm l s) 0 s.ends.length)=zmP l) ?_;rintro k ⟨hk,hg⟩;rcases Nat.lt_or_ge k l.length with hlt|hge
  ·rw[zae hlt]at hg
   rw[List.all_cons]at hg;have hs:=he _ (zac hlt)
   (repeat' first|refine zaa kC fun K hK=>?_|exact wt|refine wA ?_|(refine wB ?_ ?_<;>intro h<;>first|exact wN h|subst (h:(_:Bool)=_)|skip)|(refine wQ ?_;clear hQ hR hE hM)|fail)
   refine zbu (fun j:Nat=>[(0,.sl 3 (l.map Section.c)),(6,.n k),(7,.n j)]) (fun _=>[]) (fun j=>j<=(nth l k).ends.length/\zbQ (zcm l (nth l k)) j ((nth l k).ends.length-j)=zbQ (zcm l (nth l k)) 0 (nth l k).ends.length) (fun j=>(nth l k).ends.length-j) 0 ⟨Nat.zero_le _,rfl⟩ (by (try dsimp only);(refine wD ?_;try exact wt)<;>omega) (by (try dsimp only);(refine wD ?_;try exact wt)<;>omega) ?_
   rintro j ⟨hj,hi⟩;rcases Nat.lt_or_ge j (nth l k).ends.length with hjk|hjk
   ·rw[zeY hjk]at hi
    (repeat' first|refine zaa kC fun K hK=>?_|exact wt|refine wA ?_|(refine wB ?_ ?_<;>intro h<;>first|exact wN h|subst (h:(_:Bool)=_)|skip)|(refine wQ ?_;clear hQ hR hE hM)|refine wC (zjt hH l (nth l k) j hjk hl) ?_|fail)
    all_goals (first|(refine ⟨j+1,by omega,⟨by omega,by grind[zbR]⟩,(by (try dsimp only);(first|omega|(simp;done)|(simp;omega)))⟩)|(grind[zbR]))
   ·rw[zfU hjk]at hi
    (repeat' first|refine zaa kC fun K hK=>?_|exact wt|refine wA ?_|(refine wB ?_ ?_<;>intro h<;>first|exact wN h|subst (h:(_:Bool)=_)|skip)|(refine wQ ?_;clear hQ hR hE hM)|fail)
    all_goals (first|(refine ⟨k+1,by omega,⟨by omega,by grind[zbR]⟩,(by (try dsimp only);(first|omega|(simp;done)|(simp;omega)))⟩)|(grind[zbR]))
  ·rw[List.drop_eq_nil_of_le hge,List.all_nil]at hg
   (repeat' first|refine zaa kC fun K hK=>?_|exact wt|refine wA ?_|(refine wB ?_ ?_<;>intro h<;>first|exact wN h|subst (h:(_:Bool)=_)|skip)|(refine wQ ?_;clear hQ hR hE hM)|fail)
   all_goals (first|rfl|(grind[zbR])|(simp[zbR, *];done)|(simp_all [zbR];done)|(simp_all [zbR]<;>first|omega|((repeat' split)<;>first|rfl|(exfalso;omega))))
end Go.Lev
