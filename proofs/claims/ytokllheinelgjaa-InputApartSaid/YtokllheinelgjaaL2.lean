/-
  A part of the engine that walks the functions' codes, and of the functions' contracts. Conditions: those that each theorem names.
-/
import Derived.Test.YtokllheinelgjaaL1
import Derived.IntWalk
set_option linter.unusedSimpArgs false
set_option linter.unusedVariables false
set_option linter.unusedSectionVars false
namespace Go.Eng
open Go.RowKit
mutual
/-- The row l,whose cells are cs,as a slice that nobody writes. -/
def frV (l:Nat) (cs:List AV):AV→AV
 |.agg ds=>.agg (frL l cs ds)
 |.tup ds=>.tup (frL l cs ds)
 |.fn j ds=>.fn j (frL l cs ds)
 |.sm l' ver off n sz=>if l'=l∧ver=cs.length∧off=0 then .sl sz (zbx sz n cs) else .sm l' ver off n sz
 |.ptr l' ver off=>.ptr l' ver off
 |.mp l'=>.mp l'
 |.i k n=>.i k n
 |.b t=>.b t
 |.v x=>.v x
 |.u=>.u
 |.s0 sz=>.s0 sz
 |.sl sz es=>.sl sz es
 |.ip sz es i k=>.ip sz es i k
 |.top=>.top
def frL (l:Nat) (cs:List AV):List AV→List AV
 |[]=>[]
 |x::xs=>frV l cs x::frL l cs xs
end
def frO (l:Nat) (cs:List AV):AO→AO
 |.cells ds r=>.cells (frL l cs ds) r
 |.imap kvs=>.imap kvs
 |.rsv=>.rsv
def frS (l:Nat) (cs:List AV):List (Nat×AO)→List (Nat×AO)
 |[]=>[]
 |(k,o)::r=>(k,frO l cs o)::frS l cs r
def frF (l:Nat) (cs:List AV):List (Nat×AV)→List (Nat×AV)
 |[]=>[]
 |(i,x)::r=>(i,frV l cs x)::frF l cs r
mutual
theorem rel_fr {c c':Ctx} {l:Nat} {cs:List AV} (hle:c.Le c') (hS:∀ k p,c'.S k=some p→c.S k=some p) (hrow:∀ (n sz:Nat) (y:Value),rel c (.sm l cs.length 0 n sz) y→rel c' (.sl sz (zbx sz n cs)) y):∀ (x:AV) (y:Value),rel c x y→rel c' (frV l cs x) y
 |.agg ds,y,r=>by
  simp only[rel,frV]at r ⊢
  obtain ⟨xs,e,r⟩:=r
  exact ⟨xs,e,zk4 hle hS hrow ds _ r⟩
 |.tup ds,y,r=>by
  simp only[rel,frV]at r ⊢
  obtain ⟨xs,e,r⟩:=r
  exact ⟨xs,e,zki hle hS hrow ds _ r⟩
 |.fn j ds,y,r=>by
  simp only[rel,frV]at r ⊢
  obtain ⟨g,xs,e,hi,r⟩:=r
  exact ⟨g,xs,e,by rw[hle.inv];exact hi,zki hle hS hrow ds _ r⟩
 |.sm l' ver off n sz,y,r=>by
  simp only[frV]
  split
  ·rename_i h
   obtain ⟨rfl,rfl,rfl⟩:=h
   exact hrow n sz y r
  ·simp only[rel]at r ⊢
   exact ⟨r.1,fun p hp=>r.2 p (hS _ _ hp)⟩
 |.ptr l' ver off,y,r=>by
  simp only[rel,frV]at r ⊢
  exact ⟨r.1,fun p hp=>r.2 p (hS _ _ hp)⟩
 |.mp l',y,r=>by
  simp only[rel,frV]at r ⊢
  exact ⟨r.1,fun p hp=>r.2 p (hS _ _ hp)⟩
 |.i k n,y,r=>by simp only[frV];exact zaO hle rfl r
 |.b t,y,r=>by simp only[frV];exact zaO hle rfl r
 |.v x,y,r=>by simp only[frV];exact zaO hle rfl r
 |.u,y,r=>by simp only[frV];exact zaO hle rfl r
 |.s0 sz,y,r=>by simp only[frV];exact zaO hle rfl r
 |.sl sz es,y,r=>by simp only[frV];exact zaO hle rfl r
 |.ip sz es i k,y,r=>by simp only[frV];exact zaO hle rfl r
 |.top,y,r=>by simp only[frV,rel]
theorem zki {c c':Ctx} {l:Nat} {cs:List AV} (hle:c.Le c') (hS:∀ k p,c'.S k=some p→c.S k=some p) (hrow:∀ (n sz:Nat) (y:Value),rel c (.sm l cs.length 0 n sz) y→rel c' (.sl sz (zbx sz n cs)) y):∀ (xs:List AV) (ys:List Value),zbA c xs ys→zbA c' (frL l cs xs) ys
 |[],ys,r=>by simpa only[frL,zbA] using r
 |x::xs,ys,r=>by
  simp only[frL,zbA]at r ⊢
  obtain ⟨y,ys',e,r1,r2⟩:=r
  exact ⟨y,ys',e,rel_fr hle hS hrow x y r1,zki hle hS hrow xs ys' r2⟩
theorem zk4 {c c':Ctx} {l:Nat} {cs:List AV} (hle:c.Le c') (hS:∀ k p,c'.S k=some p→c.S k=some p) (hrow:∀ (n sz:Nat) (y:Value),rel c (.sm l cs.length 0 n sz) y→rel c' (.sl sz (zbx sz n cs)) y):∀ (xs:List AV) (ys:List Value),relCs c xs ys→relCs c' (frL l cs xs) ys
 |[],ys,r=>by simpa only[frL,relCs] using r
 |x::xs,ys,r=>by
  simp only[frL,relCs]at r ⊢
  obtain ⟨y,ys',e,ho,r1,r2⟩:=r
  exact ⟨y,ys',e,ho,rel_fr hle hS hrow x y r1,zk4 hle hS hrow xs ys' r2⟩
end
section
variable {P:Program} {inv:Nat→Option Nat} {w0:World} {M:Nat→Prop} {n N:Nat} {φ:AF} {σ:AS}
end
section cells
variable {α:Type} {c:α→List AV} {sz:Nat} [h:Cells c sz]
include h
mutual
theorem plain_fr (l:Nat) (cs:List AV):∀ x:AV,x.plain=true→frV l cs x=x
 |.agg ds,h=>by simp only[AV.plain]at h;simp only[frV,zgE l cs ds h]
 |.i _ _,_=>by simp only[frV]
 |.b _,_=>by simp only[frV]
 |.v _,_=>by simp only[frV]
 |.sl _ _,_=>by simp only[frV]
 |.ip _ _ _ _,_=>by simp only[frV]
 |.tup _,h=>by simp[AV.plain]at h
 |.u,h=>by simp[AV.plain]at h
 |.s0 _,h=>by simp[AV.plain]at h
 |.ptr _ _ _,h=>by simp[AV.plain]at h
 |.sm _ _ _ _ _,h=>by simp[AV.plain]at h
 |.fn _ _,h=>by simp[AV.plain]at h
 |.mp _,h=>by simp[AV.plain]at h
 |.top,h=>by simp[AV.plain]at h
theorem zgE (l:Nat) (cs:List AV):∀ xs:List AV,zaA xs=true→frL l cs xs=xs
 |[],_=>by simp only[frL]
 |x::xs,h=>by
  simp only[zaA,Bool.and_eq_true]at h
  simp only[frL,plain_fr l cs x h.1,zgE l cs xs h.2]
end
theorem flat_fr (l':Nat) (cs:List AV) (l:List α):frL l' cs (l.map c).flatten=(l.map c).flatten:=zgE (c:=c) l' cs _ (zb7 l)
end cells
attribute [go_sem] flat_fr
attribute [go_sem] frV frL frO frS frF
end Go.Eng
namespace Go.Eng
open Go.RowKit
def zjt:List (Nat×AV)→List (Nat×AV)→List (Nat×AV)
 |[],φ=>φ
 |(i,x)::r,φ=>zjt r (zbn φ i x)
def zlA:List (Nat×AO)→List (Nat×AO)→List (Nat×AO)
 |[],σ=>σ
 |(i,x)::r,σ=>zlA r (zaY σ i x)
attribute [go_sem] zjt zlA
section
variable {P:Program} {inv:Nat→Option Nat} {w0:World} {M:Nat→Prop} {n N:Nat} {φ:AF} {σ:AS}
theorem zaj {ι:Type} {x:ACode} {Q:Exit→AF→AS→Prop} (ks:List Nat) (m:ι→List (Nat×AV)) (t:ι→List (Nat×AO)) (Inv:ι→Prop) (μ:ι→Nat) (s0:ι) (hi:Inv s0) (h1:zhs (zjt (m s0) (zfq ks φ)) φ) (h2:zfV (zlA (t s0) σ) σ)
  (hr:∀ s,Inv s→AWp P inv w0 M N n x (Then (lend (fun s=>zjt (m s) (zfq ks φ)) (fun s=>zlA (t s) σ) Inv μ s) Q) (zjt (m s) (zfq ks φ)) (zlA (t s) σ)):AWp P inv w0 M N n (.loop x) Q φ σ :=
 zaT (fun s=>zjt (m s) (zfq ks φ)) (fun s=>zlA (t s) σ) Inv μ s0 hi h1 h2 hr
theorem AWp.swap {c:ACode} {Q:Exit→AF→AS→Prop} (sw:List (Nat×Nat)) (hok:swOk N sw) (h:AWp P inv w0 M N n c Q (swF sw φ) (swS sw σ)):AWp P inv w0 M N n c Q φ σ:=by
 intro c₀ hc β a w hs
 obtain ⟨β',hst,hx⟩:=zos N sw hok hs
 exact Code.wp_mono (fun _ _ _ ⟨φ2,σ2,β2,q2,hst2,hext2⟩=>⟨φ2,σ2,β2,q2,hst2,hx.trans hext2⟩) (h c₀ hc β' a w hst)
theorem PO.pc {j:Nat} {args:List AV} {r:AV} {σ0:AS} (h:PO P inv j args r σ0):PC P inv j args (·=zdt 4 σ0 r):=by
 intro g hg M w vs hM ha
 have hm:=Mem.none (inv:=inv) (M:=M) w
 have hle:(⟨inv,w,M,fun _=>none⟩:Ctx).Le (ctx inv M [] (fun _=>0) w):=⟨rfl,Nat.le_refl _,fun _ _ _=>rfl,fun b _ h=>by
  rcases h with h|⟨l,o,e,_⟩
  ·exact h
  ·simp[zaD]at e⟩
 have hS:(ctx inv M [] (fun _=>0) w).S=fun _=>none:=by funext l;simp[ctx,zan,zaD]
 refine (h w M hM g hg (fun _=>0) w vs hm (zch (N:=0) hle _ _ (.inr hS) ha)).mono ?_
 rintro e w' ⟨v,r',σ',β',rfl,⟨rfl,rfl⟩,hm',_,hr⟩
 have hf:=zfW hm' hM (A':=M) (fun _ h=>h) 4
 exact ⟨v,_,rfl,rfl,hm'.below,zfc hf _,zev hm' hM (fun _ h=>h) hf _ v hr⟩
theorem AC.mono {j:Nat} {args:List AV} {R R':AV→AS→Prop} (h:AC P inv w0 M N j args σ R) (hr:∀ r σ',R r σ'→R' r σ'):AC P inv w0 M N j args σ R' :=
 fun g hg β w vs hm ha=>(h g hg β w vs hm ha).mono fun _ _ ⟨v,r,σ',β',e,h1,h2⟩=>⟨v,r,σ',β',e,hr r σ' h1,h2⟩
theorem zd4 (N':Nat) {j:Nat} {args:List AV} {r0:AV} {τ:AS} (h:AC P inv w0 M N' j args σ fun r σ'=>r=r0∧σ'=τ) (hN:N≤N') (hφ:zaK φ≤N') {K:AV→AS→Prop} (hk:K r0 τ):CallK P inv w0 M N φ σ j args K :=
 ⟨N',hN,hφ,h.mono fun _ _ ⟨e1,e2⟩=>e1▸e2▸hk⟩
theorem zaV {j:Nat} {F:AFn} (hF:Has P inv j F) {args:List AV} {r0:AV} {σ0 τ:AS} (hb:r0.bare=true) (hl:args.length≤F.ntmps)
  (h:∀ Q:Exit→AF→AS→Prop,(∀ φ σ r,zd5 φ σ F.res=some r→(∃ sw,(r=r0∧swOk N sw)∧zfV τ (swS sw σ))→Q .ret φ σ)→(∀ φ σ,Q .ret φ σ→Q .normal φ σ)→AWp P inv w0 M N F.ntmps F.body Q (zmg 0 args) σ0) :
  AC P inv w0 M N j args σ0 fun r σ'=>r=r0∧σ'=τ:=by
 intro g hg β w vs hm ha
 refine (AC.body hF hl (R:=fun r σ=>∃ sw,(r=r0∧swOk N sw)∧zfV τ (swS sw σ)) (h _ (fun φ σ r h1 h2=>⟨r,h1,h2⟩) fun _ _ h=>h) g hg β w vs hm ha).mono ?_
 rintro e w' ⟨v,r,σ',β',rfl,⟨sw,⟨rfl,hok⟩,hs⟩,hm',hx,hr⟩
 have key:∀ (sw:List (Nat×Nat)) {σ:AS} {β:Nat→Nat},swOk N sw→Mem inv w0 M σ β w'→rel (ctx inv M σ β w') r v→∃ β',Mem inv w0 M (swS sw σ) β' w'∧Ext N (ctx inv M σ β w') (ctx inv M (swS sw σ) β' w')∧rel (ctx inv M (swS sw σ) β' w') r v:=by
  intro sw
  induction sw with
  |nil=>intro σ β _ hm hr;exact ⟨β,hm,.refl _ _,hr⟩
  |cons p sw ih =>
   obtain ⟨x,y⟩:=p
   intro σ β hok hm hr
   obtain ⟨h1,h2,h3⟩:=hm.rename (zmA x y)
   have hx:=h2 N fun l hl=>by have:=hok.1;unfold swN;rw[if_neg (by omega),if_neg (by omega)]
   obtain ⟨β',k1,k2,k3⟩:=ih hok.2 h1 ((h2 0 fun l hl=>absurd hl (Nat.not_lt_zero _)).rel (zaH r (by rw[zfv r hb];exact Nat.le_refl _)) hr)
   exact ⟨β',k1,hx.trans k2,k3⟩
 obtain ⟨β'',k1,k2,k3⟩:=key sw hok hm' hr
 have hd:=fun N=>k1.drop (zdM hs) N
 exact ⟨v,r,τ,β'',rfl,⟨rfl,rfl⟩,(hd 0).1,hx.trans (k2.trans (hd N).2),(hd 0).2.rel (zaH r (by rw[zfv r hb];exact Nat.le_refl _)) k3⟩
theorem zd3 (hM:∀ b,M b→b<w0.heap.size) {j:Nat} {args:List AV} {r:AV} (h:PC P inv j args (·=r)) {K:AV→Prop} (hk:K r):PureK P inv w0 M σ j args K :=
 ⟨r,fun _ _ _ _=>h.callK hM fun _ e=>⟨e,rfl⟩,hk⟩
end
end Go.Eng
namespace Go.Eng
open Go.RowKit
section
variable {P:Program} {inv:Nat→Option Nat} {w0:World} {M:Nat→Prop} {n N:Nat} {φ:AF} {σ:AS}
theorem Mem.truncW {β:Nat→Nat} {w:World} {l l' k:Nat} {cs:List AV} (h:Mem inv w0 M σ β w) (hg:zaD σ l=some (.cells cs true)) (hl:za1 σ≤l') (hk:k≤cs.length) {N1:Nat} (hN:N1≤l') :
  Mem inv w0 M (zaY (zhF σ l) l' (.cells (cs.take k) true)) (upd β l' (β l)) w∧Ext N1 (ctx inv M σ β w) (ctx inv M (zaY (zhF σ l) l' (.cells (cs.take k) true)) (upd β l' (β l)) w) ∧
   zan (upd β l' (β l)) w (zaY (zhF σ l) l' (.cells (cs.take k) true)) l'=some ⟨β l,k,zaP w (β l),true⟩:=by
 have hno:∀ l2 o,zaD σ l2=some o→l2≠l':=fun l2 o e e'=>by have:=(zaC σ l2 o e).1;omega
 have hget:∀ l2 o,l2≠l'→zaD (zaY (zhF σ l) l' (.cells (cs.take k) true)) l2=some o→l2≠l∧zaD σ l2=some o:=by
  intro l2 o hne e
  rw[zal,if_neg hne,zeC]at e
  split at e
  ·cases e
  ·exact ⟨by assumption,e⟩
 have hself:zaD (zaY (zhF σ l) l' (.cells (cs.take k) true)) l'=some (.cells (cs.take k) true):=by rw[zal,if_pos rfl]
 have hpl:zan (upd β l' (β l)) w (zaY (zhF σ l) l' (.cells (cs.take k) true)) l'=some ⟨β l,k,zaP w (β l),true⟩:=by
  unfold zan
  rw[hself]
  simp[zaX,Nat.min_eq_left hk]
 have hx:∀ N1,N1≤l'→Ext N1 (ctx inv M σ β w) (ctx inv M (zaY (zhF σ l) l' (.cells (cs.take k) true)) (upd β l' (β l)) w):=by
  intro N1 hN
  refine ⟨⟨rfl,Nat.le_refl _,fun _ _ _=>rfl,fun b _ hA=>?_⟩,fun l2 hl2 p' hp'=>?_⟩
  ·rcases hA with hm|⟨l2,o,e,hr,hb⟩
   ·exact .inl hm
   ·by_cases hne:l2=l'
    ·subst hne
     rw[zaX]at hb
     exact .inr ⟨l,_,hg,rfl,hb⟩
    ·rw[zaz β _ hne]at hb
     exact .inr ⟨l2,o,(hget l2 o hne e).2,hr,hb⟩
  ·have hne:l2≠l':=by omega
   refine ⟨p', ?_,Nat.le_refl _,fun _=>rfl⟩
   have hp2:zan (upd β l' (β l)) w (zaY (zhF σ l) l' (.cells (cs.take k) true)) l2=some p':=hp'
   show zan β w σ l2=some p'
   unfold zan at hp2 ⊢
   cases e:zaD (zaY (zhF σ l) l' (.cells (cs.take k) true)) l2 with
   |none=>rw[e]at hp2;cases hp2
   |some o=>rw[e]at hp2;rw[(hget l2 o hne e).2];simpa only[zaz β _ hne] using hp2
 refine ⟨⟨h.below,fun l1 l2 o1 o2 e1 e2 r1 r2 he=>?_,fun l1 o1 e1 r1=>?_,fun l1 cs1 e1=>?_,fun l1 cs1 e1=>?_,fun l1 kvs e1=>?_⟩,hx N1 hN,hpl⟩
 ·by_cases h1:l1=l'<;>by_cases h2:l2=l'
  ·rw[h1,h2]
  ·rw[h1,zaX,zaz β _ h2]at he
   obtain ⟨q1,q2⟩:=hget l2 o2 h2 e2
   exact absurd (h.inj l l2 _ o2 hg q2 rfl r2 he).symm q1
  ·rw[h2,zaX,zaz β _ h1]at he
   obtain ⟨q1,q2⟩:=hget l1 o1 h1 e1
   exact absurd (h.inj l1 l o1 _ q2 hg r1 rfl he) q1
  ·rw[zaz β _ h1,zaz β _ h2]at he
   exact h.inj l1 l2 o1 o2 (hget l1 o1 h1 e1).2 (hget l2 o2 h2 e2).2 r1 r2 he
 ·by_cases h1:l1=l'
  ·rw[h1,zaX];exact h.own l _ hg rfl
  ·rw[zaz β _ h1];exact h.own l1 o1 (hget l1 o1 h1 e1).2 r1
 ·by_cases h1:l1=l'
  ·rw[h1,hself]at e1
   simp only[Option.some.injEq,AO.cells.injEq,and_true]at e1
   subst e1
   rw[h1,zaX]
   obtain ⟨xs,ty,q1,q2,q3⟩:=h.cells l cs hg
   refine ⟨xs,ty,q1,by rw[List.length_take];omega, ?_⟩
   have hb:zah (cs.take k)≤l':=zdH fun x hx=>Nat.le_trans (zc1 (zaC σ l _ hg).2 x (List.mem_of_mem_take hx)) hl
   refine (hx l' (Nat.le_refl _)).relCs (zax _ hb) ?_
   have:=zb0 k q3
   rw[List.take_take,Nat.min_eq_left hk]at this
   rw[List.length_take,Nat.min_eq_left hk]
   exact this
  ·rw[zaz β _ h1]
   obtain ⟨q1,q2⟩:=hget l1 _ h1 e1
   obtain ⟨xs,ty,q3,q4,q5⟩:=h.cells l1 cs1 q2
   exact ⟨xs,ty,q3,q4,(hx l' (Nat.le_refl _)).relCs (zax _ (Nat.le_trans (zaC σ l1 _ q2).2 hl)) q5⟩
 ·by_cases h1:l1=l'
  ·rw[h1,hself]at e1;simp at e1
  ·exact h.ghost l1 cs1 (hget l1 _ h1 e1).2
 ·by_cases h1:l1=l'
  ·rw[h1,hself]at e1;simp at e1
  ·rw[zaz β _ h1];exact h.maps l1 kvs (hget l1 _ h1 e1).2
def cutW (N:Nat) (r:AV) (σ:List (Nat×AO)):AV×List (Nat×AO) :=
 match r with
 |.sm l ver off n sz=>match zaD σ l with
  |some (.cells cs true)=>if Nat.blt l N=false∧off=0∧n*sz<ver∧cs.length=ver then (.sm (mx N (za1 σ)) (n*sz) 0 n sz,zaY (zhF σ l) (mx N (za1 σ)) (.cells (cs.take (n*sz)) true)) else (r,σ)
  |_=>(r,σ)
 |_=>(r,σ)
theorem AC.truncW {j:Nat} {args:List AV} {R R':AV→AS→Prop} (h:AC P inv w0 M N j args σ R) (hr:∀ r σ',R r σ'→R' (cutW N r σ').1 (cutW N r σ').2):AC P inv w0 M N j args σ R':=by
 intro g hg β w vs hm hv
 refine (h g hg β w vs hm hv).mono ?_
 rintro e w' ⟨v,r,σ',β',k1,k2,k3,k4,k5⟩
 have h1:=hr r σ' k2
 unfold cutW at h1
 split at h1
 ·rename_i l ver off n sz
  split at h1
  ·rename_i cs hgl
   split at h1
   ·rename_i hc
    obtain ⟨_,rfl,c1,c2⟩:=hc
    have ht:=k3.truncW (l:=l) (l':=mx N (za1 σ')) (k:=n*sz) hgl (zay _ _) (by omega) (N1:=N) (zaU _ _)
    refine ⟨v,_,_,_,k1,h1,ht.1,k4.trans ht.2.1, ?_⟩
    have hlive:zbM σ' l ver:=by unfold zbM;rw[hgl];exact c2
    obtain ⟨p,ad,cap,hp,hv',hb,rfl,hcap,hreal⟩:=zc7 hlive k5
    have hpe:p=⟨β' l,cs.length,zaP w' (β' l),true⟩:=by unfold zan at hp;rw[hgl]at hp;cases hp;rfl
    subst hpe
    simp only[if_true]at hreal
    simp only[rel]
    refine ⟨rfl,fun p' hp'=>?_⟩
    have:p'=⟨β' l,n*sz,zaP w' (β' l),true⟩:=by have:=(show zan _ _ _ _=some p' from hp').symm.trans ht.2.2;simpa using this
    subst this
    exact ⟨Nat.le_refl _,fun _=>⟨by omega,ad,cap,rfl,hcap,by simpa using hreal⟩⟩
   ·exact ⟨v,_,σ',β',k1,h1,k3,k4,k5⟩
  ·exact ⟨v,_,σ',β',k1,h1,k3,k4,k5⟩
 ·exact ⟨v,_,σ',β',k1,h1,k3,k4,k5⟩
theorem PO.trunc {j:Nat} {args:List AV} {ver k sz:Nat} {cs:List AV} (h:PO P inv j args (.sm 0 ver 0 k sz) [(0,.cells cs true)]) (hb:zah cs=0) (hl:cs.length=ver) (hlt:k*sz<ver) :
  PO P inv j args (.sm 1 (k*sz) 0 k sz) [(1,.cells (cs.take (k*sz)) true)]:=by
 intro w0 M hM
 refine (AC.truncW (R':=fun r σ=>r=.sm 1 (k*sz) 0 k sz∧σ=[(1,.cells (cs.take (k*sz)) true)]) (h w0 M hM) ?_)
 rintro r σ' ⟨rfl,rfl⟩
 have hs:mx 0 (za1 [(0,AO.cells cs true)])=1:=by simp[za1,AO.bound,hb,mx]
 simp only[cutW,zaD,if_true]
 rw[if_pos ⟨by trivial,by trivial,hlt,hl⟩,hs]
 exact ⟨rfl,by simp[zhF,zaY]⟩
theorem Mem.recell {β:Nat→Nat} {w:World} {k:Nat} {cs cs':List AV} {r:Bool} (hm:Mem inv w0 M σ β w) (hg:zaD σ k=some (.cells cs r)) (hlen:cs'.length=cs.length) (hrel:r=true→∀ ys,relCs (ctx inv M σ β w) cs ys→relCs (ctx inv M σ β w) cs' ys) :
  Mem inv w0 M (zaY σ k (.cells cs' r)) β w∧ctx inv M (zaY σ k (.cells cs' r)) β w=ctx inv M σ β w:=by
 have hpl:zan β w (zaY σ k (.cells cs' r))=zan β w σ:=by
  funext l
  unfold zan
  rw[zal]
  by_cases h:l=k
  ·subst h;rw[if_pos rfl,hg];cases r<;>simp only[hlen]
  ·rw[if_neg h]
 have hav:avoid M (zaY σ k (.cells cs' r)) β=avoid M σ β:=by
  funext b
  apply propext
  constructor
  ·rintro (h|⟨l,o,e,hr,hb⟩)
   ·exact .inl h
   ·rw[zal]at e
    split at e
    ·rename_i h;subst h
     simp only[Option.some.injEq]at e;subst e
     exact .inr ⟨l,_,hg,by cases r<;>(first|exact hr|(simp [AO.real] at hr;done)|simp [AO.real]),hb⟩
    ·exact .inr ⟨l,o,e,hr,hb⟩
  ·rintro (h|⟨l,o,e,hr,hb⟩)
   ·exact .inl h
   ·by_cases h:l=k
    ·subst h
     rw[hg]at e
     simp only[Option.some.injEq]at e;subst e
     exact .inr ⟨l,.cells cs' r,by rw[zal,if_pos rfl],by cases r<;>(first|exact hr|(simp [AO.real] at hr;done)|simp [AO.real]),hb⟩
    ·exact .inr ⟨l,o,by rw[zal,if_neg h];exact e,hr,hb⟩
 have hctx:ctx inv M (zaY σ k (.cells cs' r)) β w=ctx inv M σ β w:=by unfold ctx;rw[hpl,hav]
 have hback:∀ l o,zaD (zaY σ k (.cells cs' r)) l=some o→o.real=true→∃ o',zaD σ l=some o'∧o'.real=true:=by
  intro l o e hr
  rw[zal]at e
  split at e
  ·rename_i h;subst h
   simp only[Option.some.injEq]at e;subst e
   exact ⟨_,hg,by cases r<;>(first|exact hr|(simp [AO.real] at hr;done)|simp [AO.real])⟩
  ·exact ⟨o,e,hr⟩
 refine ⟨⟨hm.below,fun l l' o o' e e' hr hr' hb=>?_,fun l o e hr=>?_,fun l cs1 e=>?_,fun l cs1 e=>?_,fun l kvs e=>?_⟩,hctx⟩
 ·obtain ⟨o1,e1,r1⟩:=hback l o e hr
  obtain ⟨o2,e2,r2⟩:=hback l' o' e' hr'
  exact hm.inj l l' o1 o2 e1 e2 r1 r2 hb
 ·obtain ⟨o1,e1,r1⟩:=hback l o e hr
  exact hm.own l o1 e1 r1
 ·rw[hctx]
  rw[zal]at e
  split at e
  ·rename_i h;subst h
   simp only[Option.some.injEq,AO.cells.injEq]at e
   obtain ⟨rfl,rfl⟩:=e
   obtain ⟨xs,ty,h1,h2,h3⟩:=hm.cells _ cs hg
   exact ⟨xs,ty,h1,by omega,by rw[hlen];exact hrel rfl _ h3⟩
  ·exact hm.cells l cs1 e
 ·rw[zal]at e
  split at e
  ·rename_i h;subst h
   simp only[Option.some.injEq,AO.cells.injEq]at e
   obtain ⟨rfl,rfl⟩:=e
   have:=hm.ghost _ cs hg
   subst this
   exact List.length_eq_zero_iff.1 hlen
  ·exact hm.ghost l cs1 e
 ·rw[zal]at e
  split at e
  ·cases e
  ·exact hm.maps l kvs e
theorem zgu {c:Ctx} {x0 x:AV} (hx:∀ y,rel c x0 y→rel c x y):∀ {cs:List AV} {ys:List Value} {i:Nat},cs[i]?=some x0→relCs c cs ys→relCs c (cs.set i x) ys
 |[],_,_,h,_=>by simp at h
 |z::cs,ys,0,h,r=>by
  simp only[List.getElem?_cons_zero,Option.some.injEq]at h
  subst h
  simp only[relCs,List.set_cons_zero]at r ⊢
  obtain ⟨y,ys',e,ho,r1,r2⟩:=r
  exact ⟨y,ys',e,ho,hx y r1,r2⟩
 |z::cs,ys,i+1,h,r=>by
  simp only[List.getElem?_cons_succ]at h
  simp only[relCs,List.set_cons_succ]at r ⊢
  obtain ⟨y,ys',e,ho,r1,r2⟩:=r
  exact ⟨y,ys',e,ho,r1,zgu hx h r2⟩
theorem zc3 {c:ACode} {Q:Exit→AF→AS→Prop} (k i l sz:Nat) {cs:List AV} {r:Bool} (hk:zaD σ k=some (.cells cs r)) (hi:cs[i]?=some (.s0 sz)) (h1:N≤l) (h2:zaK φ≤l) (h3:za1 σ≤l)
  (h:AWp P inv w0 M N n c Q φ (zaY (zaY σ l (.cells [] false)) k (.cells (cs.set i (.sm l 0 0 0 sz)) r))):AWp P inv w0 M N n c Q φ σ:=by
 intro c₀ hc β a w hs
 obtain ⟨hm,hx⟩:=hs.mem.empty h3
 have hkl:k≠l:=fun e=>by have:=(zaC σ k _ hk).1;omega
 have hg:zaD (zaY σ l (.cells [] false)) k=some (.cells cs r):=by rw[zal,if_neg hkl];exact hk
 obtain ⟨hm2,hctx⟩:=hm.recell (cs':=cs.set i (.sm l 0 0 0 sz)) hg (by simp) (fun _ ys hr=>zgu (x0:=.s0 sz) (fun y hy=>by
  have hy':rel (ctx inv M σ β w) (.s0 sz) y:=by simpa only[rel] using hy
  exact zgo hy') hi hr)
 refine Code.wp_mono ?_ (h c₀ hc β a w ⟨⟨fun j=>?_,hm2⟩,hs.size,hs.defers⟩)
 ·rintro e a' w' ⟨φ2,σ2,β2,q2,hst2,hext2⟩
  rw[hctx]at hext2
  exact ⟨φ2,σ2,β2,q2,hst2,(hx N h1).trans hext2⟩
 ·rw[hctx]
  exact (hx l (Nat.le_refl _)).rel (zaH _ (Nat.le_trans (zbp φ j) h2)) (hs.slots j)
theorem zaw {j:Nat} {F:AFn} (hF:Has P inv j F) {args:List AV} {R:AV→AS→Prop} (hl:args.length≤F.ntmps)
  (h:∀ Q:Exit→AF→AS→Prop,(∀ φ σ r,zd5 φ σ F.res=some r→R r σ→Q .ret φ σ)→(∀ φ σ,Q .ret φ σ→Q .normal φ σ)→AWp P inv w0 M N F.ntmps F.body Q (zmg 0 args) σ):AC P inv w0 M N j args σ R :=
 AC.body hF hl (h _ (fun _ _ r h1 h2=>⟨r,h1,h2⟩) fun _ _ h=>h)
def midK (A:Prop) (φ1:List (Nat×AV)) (σ1:List (Nat×AO)):List (Nat×AV)→List (Nat×AO)→Prop:=fun φ σ=>A∧(zhs φ1 φ∧zfV σ1 σ)
theorem midK_app (A:Prop) (φ1:List (Nat×AV)) (σ1:List (Nat×AO)) (φ:List (Nat×AV)) (σ:List (Nat×AO)):midK A φ1 σ1 φ σ=(A∧(zhs φ1 φ∧zfV σ1 σ)):=rfl
attribute [go_sem] midK_app
theorem AWp.mid (ks:List Nat) (A:Prop) {x y:ACode} {Q:Exit→AF→AS→Prop} (h1:AWp P inv w0 M N n x (Then (midK A (zfq ks φ) σ) Q) φ σ) (h2:A→AWp P inv w0 M N n y Q (zfq ks φ) σ):AWp P inv w0 M N n (.seq x y) Q φ σ :=
 AWp.seq fun K hK=>by
  refine AWp.mono ?_ h1
  intro e φ' σ' q
  cases e with
  |normal=>exact hK _ _ ((h2 q.1).sub q.2.1 q.2.2)
  |exit id=>exact q
  |goto l=>exact q
  |ret=>exact q
  |panic ch=>exact q
  |outgrown=>exact q
end
end Go.Eng
namespace Go.Lev
open Go.Eng
set_option maxRecDepth 10000
set_option maxHeartbeats 4000000
variable {P:Program} {inv:Nat→Option Nat}
structure Track where
 id:Int
 is:Int
 deriving DecidableEq,Inhabited
def Track.c (t:Track):List AV:=[.n t.id,.i .u8 t.is]
instance:Cells Track.c 2:=⟨fun _=>rfl,fun _=>rfl⟩
theorem zjW (a b:Track):a=b↔a.id=b.id∧a.is=b.is:=by cases a;cases b;simp
structure Switch where
 id:Int
 lie:Int
 call:Int
 deriving DecidableEq,Inhabited
def Switch.c (t:Switch):List AV:=[.n t.id,.n t.lie,.n t.call]
instance:Cells Switch.c 3:=⟨fun _=>rfl,fun _=>rfl⟩
theorem ziN (a b:Switch):a=b↔a.id=b.id∧a.lie=b.lie∧a.call=b.call:=by cases a;cases b;simp
structure Lock where
 id:Int
 phase:Int
 gone:Int
 left:Int
 deriving DecidableEq,Inhabited
def Lock.c (t:Lock):List AV:=[.n t.id,.i .u8 t.phase,.n t.gone,.n t.left]
instance:Cells Lock.c 4:=⟨fun _=>rfl,fun _=>rfl⟩
theorem zkL (a b:Lock):a=b↔a.id=b.id∧a.phase=b.phase∧a.gone=b.gone∧a.left=b.left:=by cases a;cases b;simp
attribute [go_sem] Track.c Switch.c Lock.c
structure State where
 tracks:List Track
 switches:List Switch
 locks:List Lock
 deriving DecidableEq,Inhabited
def State.c (s:State):List AV:=[.sl 2 (s.tracks.map Track.c),.sl 3 (s.switches.map Switch.c),.sl 4 (s.locks.map Lock.c)]
instance:Cells State.c 3:=⟨fun _=>rfl,fun _=>rfl⟩
theorem zfO (a b:State):a=b↔a.tracks=b.tracks∧a.switches=b.switches∧a.locks=b.locks:=by cases a;cases b;simp
attribute [go_sem] State.c
def zaq {α β:Type} (p:α→β→Bool):List α→List β→Bool
 |[],[]=>true
 |x::xs,y::ys=>p x y&&zaq p xs ys
 |_,_=>false
theorem zbo {α β:Type} {p:α→β→Bool}:∀ {a:List α} {b:List β},zaq p a b=true→a.length=b.length
 |[],[],_=>rfl
 |x::xs,y::ys,h=>by simp only[zaq,Bool.and_eq_true]at h;simp[zbo h.2]
 |[],_::_,h=>by simp[zaq]at h
 |_::_,[],h=>by simp[zaq]at h
def zeo (s:State):Bool:=decide (200<(s.tracks.length:Int))||decide (200<(s.switches.length:Int))||decide (200<(s.locks.length:Int))
theorem zcu (hH:HasAll P inv) (s:State):PC P inv 8 [.agg s.c] (·=.b (zeo s)):=by
 refine zae (F:=cd8) (hH.has _ _ rfl) (Nat.le_of_ble_eq_true rfl) fun w0 M Q hM hQ hR=>?_;have hE:=hH.callable;dsimp only[cd8,qm,ql,qf,qi,qb,qc,qp,qv,qN,qT,qF,qt]at hQ ⊢
 repeat' (first|refine zab [0,1,2] fun K hK=>?_|refine AWp.block ?_|(refine hK.go ?_;clear hK K)|refine Cont.go (by assumption) ?_|(refine cnd2 rfl (fun h=>?_) (fun h=>?_)<;>(try first|exact h.elim|obtain rfl:(_:Bool)=true:=h|obtain rfl:(_:Bool)=false:=h)<;>first|(exfalso;omega)|skip)|((first|refine AWp.reg hE hM ?_|refine AWp.regd hE hM ?_|refine AWp.ret ?_|refine AWp.skip ?_|refine AWp.exit ?_|(refine pk2 (fun h=>?_) (fun h=>?_)<;>(try first|exact h.elim|obtain rfl:(_:Bool)=true:=h|obtain rfl:(_:Bool)=false:=h))|refine zac (fun h=>?_) ?_|(refine hQ _ _ _ rfl ?_;clear hQ hR hE hM)|(refine hR _ _ (hQ _ _ _ rfl ?_);clear hQ hR hE hM)|(refine zaf ?_ ?_;focus first|omega|(refine zad ?_;(refine no_implicit_lambda% (st ?_);try with_reducible exact True.intro);done)))<;>try (refine no_implicit_lambda% (st ?_);try with_reducible exact True.intro)))
 all_goals (first|rfl|(grind[zeo])|(simp[zeo, *];done)|(simp_all [zeo];done)|(simp_all [zeo]<;>first|omega|((repeat' split)<;>first|rfl|(exfalso;omega))))
theorem ziE (hH:HasAll P inv) (l:List Track) (h:l.length≤1000000):PO P inv 31 [.sl 2 (l.map Track.c)] (.sm 0 (l.length*2) 0 l.length 2) [(0,.cells (l.map Track.c).flatten (decide (0<l.length)))]:=by
 refine zbF (F:=cd31) (hH.has _ _ rfl) (Nat.le_of_ble_eq_true rfl) fun w0 M Q hM hQ hR=>?_;have hE:=hH.callable;dsimp only[cd31,qm,ql,qf,qi,qb,qc,qp,qv,qN,qT,qF,qt]at hQ ⊢
 repeat' (first|refine zab [0,2,4] fun K hK=>?_|refine AWp.block ?_|(refine hK.go ?_;clear hK K)|refine Cont.go (by assumption) ?_|(refine cnd2 rfl (fun h=>?_) (fun h=>?_)<;>(try first|exact h.elim|obtain rfl:(_:Bool)=true:=h|obtain rfl:(_:Bool)=false:=h)<;>first|(exfalso;omega)|skip)|((first|refine AWp.reg hE hM ?_|refine AWp.regd hE hM ?_|refine AWp.ret ?_|refine AWp.skip ?_|refine AWp.exit ?_|(refine pk2 (fun h=>?_) (fun h=>?_)<;>(try first|exact h.elim|obtain rfl:(_:Bool)=true:=h|obtain rfl:(_:Bool)=false:=h))|refine zac (fun h=>?_) ?_|(refine zaf ?_ ?_;focus first|omega|(refine zad ?_;(refine no_implicit_lambda% (st ?_);try with_reducible exact True.intro);done)))<;>try (refine no_implicit_lambda% (st ?_);try with_reducible exact True.intro))|(refine hQ _ _ _ rfl ?_;clear hQ hR hE hM)|(refine hR _ _ (hQ _ _ _ rfl ?_);clear hQ hR hE hM))
 ·right
  have h0:l.length=0:=by assumption
  obtain rfl:=List.length_eq_zero_iff.1 h0
  exact ⟨2,rfl,by simp,by simp⟩
 ·left
  constructor
  ·(refine no_implicit_lambda% (st ?_);try with_reducible exact True.intro)
  ·(refine no_implicit_lambda% (st ?_);try with_reducible exact True.intro)
theorem ziC (hH:HasAll P inv) (a b:List Track) (hl:a.length≤1000000000):PC P inv 34 [.sl 2 (a.map Track.c),.sl 2 (b.map Track.c)] (·=.b (decide (a=b))):=by
 refine zae (F:=cd34) (hH.has _ _ rfl) (Nat.le_of_ble_eq_true rfl) fun w0 M Q hM hQ hR=>?_;have hE:=hH.callable;dsimp only[cd34,qm,ql,qf,qi,qb,qc,qp,qv,qN,qT,qF,qt]at hQ ⊢
 repeat' (first|refine zab [0,1,4,5,10,12,13,14,24] fun K hK=>?_|refine AWp.block ?_|(refine hK.go ?_;clear hK K)|refine Cont.go (by assumption) ?_|(refine cnd2 rfl (fun h=>?_) (fun h=>?_)<;>(try first|exact h.elim|obtain rfl:(_:Bool)=true:=h|obtain rfl:(_:Bool)=false:=h)<;>first|(exfalso;omega)|skip)|((first|refine AWp.reg hE hM ?_|refine AWp.regd hE hM ?_|refine AWp.ret ?_|refine AWp.skip ?_|refine AWp.exit ?_|(refine pk2 (fun h=>?_) (fun h=>?_)<;>(try first|exact h.elim|obtain rfl:(_:Bool)=true:=h|obtain rfl:(_:Bool)=false:=h))|refine zac (fun h=>?_) ?_|(refine hQ _ _ _ rfl ?_;clear hQ hR hE hM)|(refine hR _ _ (hQ _ _ _ rfl ?_);clear hQ hR hE hM)|(refine zaf ?_ ?_;focus first|omega|(refine zad ?_;(refine no_implicit_lambda% (st ?_);try with_reducible exact True.intro);done)))<;>try (refine no_implicit_lambda% (st ?_);try with_reducible exact True.intro)))
 ·have:¬a=b:=fun e=>h (by rw[e])
  simp[this]
 have hab:a.length=b.length:=by omega
 refine zaT (fun k:Nat=>[(0,.sl 2 (a.map Track.c)),(1,.sl 2 (b.map Track.c)),(12,.n a.length),(13,.n k)]) (fun k:Nat=>[]) (fun k:Nat=>k≤a.length∧((a.drop k=b.drop k)↔a=b)) (fun k=>a.length-k) 0 ⟨Nat.zero_le _,by first|rfl|simp⟩ (by (try dsimp only);(refine no_implicit_lambda% (st ?_);try with_reducible exact True.intro)<;>omega) (by (try dsimp only);(refine no_implicit_lambda% (st ?_);try with_reducible exact True.intro)<;>omega) ?_;rintro k ⟨hk,hg⟩;rcases Nat.lt_or_ge k a.length with hlt|hge
 ·rw[zao hlt,zao (l:=b) (i:=k) (by omega),List.cons.injEq,zjW]at hg
  repeat' (first|refine zab [0,1,4,5,10,12,13,14,24] fun K hK=>?_|refine AWp.block ?_|(refine hK.go ?_;clear hK K)|refine Cont.go (by assumption) ?_|(refine cnd2 rfl (fun h=>?_) (fun h=>?_)<;>(try first|exact h.elim|obtain rfl:(_:Bool)=true:=h|obtain rfl:(_:Bool)=false:=h)<;>first|(exfalso;omega)|skip)|((first|refine AWp.reg hE hM ?_|refine AWp.regd hE hM ?_|refine AWp.ret ?_|refine AWp.skip ?_|refine AWp.exit ?_|(refine pk2 (fun h=>?_) (fun h=>?_)<;>(try first|exact h.elim|obtain rfl:(_:Bool)=true:=h|obtain rfl:(_:Bool)=false:=h))|refine zac (fun h=>?_) ?_|(refine hQ _ _ _ rfl ?_;clear hQ hR hE hM)|(refine hR _ _ (hQ _ _ _ rfl ?_);clear hQ hR hE hM)|(refine zaf ?_ ?_;focus first|omega|(refine zad ?_;(refine no_implicit_lambda% (st ?_);try with_reducible exact True.intro);done)))<;>try (refine no_implicit_lambda% (st ?_);try with_reducible exact True.intro)))
  ·have:¬a=b:=by rw[←hg];grind
   simp[this]
  ·exact ⟨k+1,by omega,⟨by omega,by rw[←hg];grind⟩,(by (try dsimp only);(first|omega|(simp;done)|(simp;omega)))⟩
 ·rw[List.drop_eq_nil_of_le hge,List.drop_eq_nil_of_le (by omega)]at hg
  repeat' (first|refine zab [0,1,4,5,10,12,13,14,24] fun K hK=>?_|refine AWp.block ?_|(refine hK.go ?_;clear hK K)|refine Cont.go (by assumption) ?_|(refine cnd2 rfl (fun h=>?_) (fun h=>?_)<;>(try first|exact h.elim|obtain rfl:(_:Bool)=true:=h|obtain rfl:(_:Bool)=false:=h)<;>first|(exfalso;omega)|skip)|((first|refine AWp.reg hE hM ?_|refine AWp.regd hE hM ?_|refine AWp.ret ?_|refine AWp.skip ?_|refine AWp.exit ?_|(refine pk2 (fun h=>?_) (fun h=>?_)<;>(try first|exact h.elim|obtain rfl:(_:Bool)=true:=h|obtain rfl:(_:Bool)=false:=h))|refine zac (fun h=>?_) ?_|(refine hQ _ _ _ rfl ?_;clear hQ hR hE hM)|(refine hR _ _ (hQ _ _ _ rfl ?_);clear hQ hR hE hM)|(refine zaf ?_ ?_;focus first|omega|(refine zad ?_;(refine no_implicit_lambda% (st ?_);try with_reducible exact True.intro);done)))<;>try (refine no_implicit_lambda% (st ?_);try with_reducible exact True.intro)))
  simp[←hg]
theorem zhv (hH:HasAll P inv) (l:List Switch) (h:l.length≤1000000):PO P inv 32 [.sl 3 (l.map Switch.c)] (.sm 0 (l.length*3) 0 l.length 3) [(0,.cells (l.map Switch.c).flatten (decide (0<l.length)))]:=by
 refine zbF (F:=cd32) (hH.has _ _ rfl) (Nat.le_of_ble_eq_true rfl) fun w0 M Q hM hQ hR=>?_;have hE:=hH.callable;dsimp only[cd32,qm,ql,qf,qi,qb,qc,qp,qv,qN,qT,qF,qt]at hQ ⊢
 repeat' (first|refine zab [0,2,4] fun K hK=>?_|refine AWp.block ?_|(refine hK.go ?_;clear hK K)|refine Cont.go (by assumption) ?_|(refine cnd2 rfl (fun h=>?_) (fun h=>?_)<;>(try first|exact h.elim|obtain rfl:(_:Bool)=true:=h|obtain rfl:(_:Bool)=false:=h)<;>first|(exfalso;omega)|skip)|((first|refine AWp.reg hE hM ?_|refine AWp.regd hE hM ?_|refine AWp.ret ?_|refine AWp.skip ?_|refine AWp.exit ?_|(refine pk2 (fun h=>?_) (fun h=>?_)<;>(try first|exact h.elim|obtain rfl:(_:Bool)=true:=h|obtain rfl:(_:Bool)=false:=h))|refine zac (fun h=>?_) ?_|(refine zaf ?_ ?_;focus first|omega|(refine zad ?_;(refine no_implicit_lambda% (st ?_);try with_reducible exact True.intro);done)))<;>try (refine no_implicit_lambda% (st ?_);try with_reducible exact True.intro))|(refine hQ _ _ _ rfl ?_;clear hQ hR hE hM)|(refine hR _ _ (hQ _ _ _ rfl ?_);clear hQ hR hE hM))
 ·right
  have h0:l.length=0:=by assumption
  obtain rfl:=List.length_eq_zero_iff.1 h0
  exact ⟨3,rfl,by simp,by simp⟩
 ·left
  constructor
  ·(refine no_implicit_lambda% (st ?_);try with_reducible exact True.intro)
  ·(refine no_implicit_lambda% (st ?_);try with_reducible exact True.intro)
theorem zhu (hH:HasAll P inv) (a b:List Switch) (hl:a.length≤1000000000):PC P inv 35 [.sl 3 (a.map Switch.c),.sl 3 (b.map Switch.c)] (·=.b (decide (a=b))):=by
 refine zae (F:=cd35) (hH.has _ _ rfl) (Nat.le_of_ble_eq_true rfl) fun w0 M Q hM hQ hR=>?_;have hE:=hH.callable;dsimp only[cd35,qm,ql,qf,qi,qb,qc,qp,qv,qN,qT,qF,qt]at hQ ⊢
 repeat' (first|refine zab [0,1,4,5,10,12,13,14,24] fun K hK=>?_|refine AWp.block ?_|(refine hK.go ?_;clear hK K)|refine Cont.go (by assumption) ?_|(refine cnd2 rfl (fun h=>?_) (fun h=>?_)<;>(try first|exact h.elim|obtain rfl:(_:Bool)=true:=h|obtain rfl:(_:Bool)=false:=h)<;>first|(exfalso;omega)|skip)|((first|refine AWp.reg hE hM ?_|refine AWp.regd hE hM ?_|refine AWp.ret ?_|refine AWp.skip ?_|refine AWp.exit ?_|(refine pk2 (fun h=>?_) (fun h=>?_)<;>(try first|exact h.elim|obtain rfl:(_:Bool)=true:=h|obtain rfl:(_:Bool)=false:=h))|refine zac (fun h=>?_) ?_|(refine hQ _ _ _ rfl ?_;clear hQ hR hE hM)|(refine hR _ _ (hQ _ _ _ rfl ?_);clear hQ hR hE hM)|(refine zaf ?_ ?_;focus first|omega|(refine zad ?_;(refine no_implicit_lambda% (st ?_);try with_reducible exact True.intro);done)))<;>try (refine no_implicit_lambda% (st ?_);try with_reducible exact True.intro)))
 ·have:¬a=b:=fun e=>h (by rw[e])
  simp[this]
 have hab:a.length=b.length:=by omega
 refine zaT (fun k:Nat=>[(0,.sl 3 (a.map Switch.c)),(1,.sl 3 (b.map Switch.c)),(12,.n a.length),(13,.n k)]) (fun k:Nat=>[]) (fun k:Nat=>k≤a.length∧((a.drop k=b.drop k)↔a=b)) (fun k=>a.length-k) 0 ⟨Nat.zero_le _,by first|rfl|simp⟩ (by (try dsimp only);(refine no_implicit_lambda% (st ?_);try with_reducible exact True.intro)<;>omega) (by (try dsimp only);(refine no_implicit_lambda% (st ?_);try with_reducible exact True.intro)<;>omega) ?_;rintro k ⟨hk,hg⟩;rcases Nat.lt_or_ge k a.length with hlt|hge
 ·rw[zao hlt,zao (l:=b) (i:=k) (by omega),List.cons.injEq,ziN]at hg
  repeat' (first|refine zab [0,1,4,5,10,12,13,14,24] fun K hK=>?_|refine AWp.block ?_|(refine hK.go ?_;clear hK K)|refine Cont.go (by assumption) ?_|(refine cnd2 rfl (fun h=>?_) (fun h=>?_)<;>(try first|exact h.elim|obtain rfl:(_:Bool)=true:=h|obtain rfl:(_:Bool)=false:=h)<;>first|(exfalso;omega)|skip)|((first|refine AWp.reg hE hM ?_|refine AWp.regd hE hM ?_|refine AWp.ret ?_|refine AWp.skip ?_|refine AWp.exit ?_|(refine pk2 (fun h=>?_) (fun h=>?_)<;>(try first|exact h.elim|obtain rfl:(_:Bool)=true:=h|obtain rfl:(_:Bool)=false:=h))|refine zac (fun h=>?_) ?_|(refine hQ _ _ _ rfl ?_;clear hQ hR hE hM)|(refine hR _ _ (hQ _ _ _ rfl ?_);clear hQ hR hE hM)|(refine zaf ?_ ?_;focus first|omega|(refine zad ?_;(refine no_implicit_lambda% (st ?_);try with_reducible exact True.intro);done)))<;>try (refine no_implicit_lambda% (st ?_);try with_reducible exact True.intro)))
  ·have:¬a=b:=by rw[←hg];grind
   simp[this]
  ·exact ⟨k+1,by omega,⟨by omega,by rw[←hg];grind⟩,(by (try dsimp only);(first|omega|(simp;done)|(simp;omega)))⟩
 ·rw[List.drop_eq_nil_of_le hge,List.drop_eq_nil_of_le (by omega)]at hg
  repeat' (first|refine zab [0,1,4,5,10,12,13,14,24] fun K hK=>?_|refine AWp.block ?_|(refine hK.go ?_;clear hK K)|refine Cont.go (by assumption) ?_|(refine cnd2 rfl (fun h=>?_) (fun h=>?_)<;>(try first|exact h.elim|obtain rfl:(_:Bool)=true:=h|obtain rfl:(_:Bool)=false:=h)<;>first|(exfalso;omega)|skip)|((first|refine AWp.reg hE hM ?_|refine AWp.regd hE hM ?_|refine AWp.ret ?_|refine AWp.skip ?_|refine AWp.exit ?_|(refine pk2 (fun h=>?_) (fun h=>?_)<;>(try first|exact h.elim|obtain rfl:(_:Bool)=true:=h|obtain rfl:(_:Bool)=false:=h))|refine zac (fun h=>?_) ?_|(refine hQ _ _ _ rfl ?_;clear hQ hR hE hM)|(refine hR _ _ (hQ _ _ _ rfl ?_);clear hQ hR hE hM)|(refine zaf ?_ ?_;focus first|omega|(refine zad ?_;(refine no_implicit_lambda% (st ?_);try with_reducible exact True.intro);done)))<;>try (refine no_implicit_lambda% (st ?_);try with_reducible exact True.intro)))
  simp[←hg]
theorem zjM (hH:HasAll P inv) (l:List Lock) (h:l.length≤1000000):PO P inv 33 [.sl 4 (l.map Lock.c)] (.sm 0 (l.length*4) 0 l.length 4) [(0,.cells (l.map Lock.c).flatten (decide (0<l.length)))]:=by
 refine zbF (F:=cd33) (hH.has _ _ rfl) (Nat.le_of_ble_eq_true rfl) fun w0 M Q hM hQ hR=>?_;have hE:=hH.callable;dsimp only[cd33,qm,ql,qf,qi,qb,qc,qp,qv,qN,qT,qF,qt]at hQ ⊢
 repeat' (first|refine zab [0,2,4] fun K hK=>?_|refine AWp.block ?_|(refine hK.go ?_;clear hK K)|refine Cont.go (by assumption) ?_|(refine cnd2 rfl (fun h=>?_) (fun h=>?_)<;>(try first|exact h.elim|obtain rfl:(_:Bool)=true:=h|obtain rfl:(_:Bool)=false:=h)<;>first|(exfalso;omega)|skip)|((first|refine AWp.reg hE hM ?_|refine AWp.regd hE hM ?_|refine AWp.ret ?_|refine AWp.skip ?_|refine AWp.exit ?_|(refine pk2 (fun h=>?_) (fun h=>?_)<;>(try first|exact h.elim|obtain rfl:(_:Bool)=true:=h|obtain rfl:(_:Bool)=false:=h))|refine zac (fun h=>?_) ?_|(refine zaf ?_ ?_;focus first|omega|(refine zad ?_;(refine no_implicit_lambda% (st ?_);try with_reducible exact True.intro);done)))<;>try (refine no_implicit_lambda% (st ?_);try with_reducible exact True.intro))|(refine hQ _ _ _ rfl ?_;clear hQ hR hE hM)|(refine hR _ _ (hQ _ _ _ rfl ?_);clear hQ hR hE hM))
 ·right
  have h0:l.length=0:=by assumption
  obtain rfl:=List.length_eq_zero_iff.1 h0
  exact ⟨4,rfl,by simp,by simp⟩
 ·left
  constructor
  ·(refine no_implicit_lambda% (st ?_);try with_reducible exact True.intro)
  ·(refine no_implicit_lambda% (st ?_);try with_reducible exact True.intro)
theorem zjB (hH:HasAll P inv) (a b:List Lock) (hl:a.length≤1000000000):PC P inv 36 [.sl 4 (a.map Lock.c),.sl 4 (b.map Lock.c)] (·=.b (decide (a=b))):=by
 refine zae (F:=cd36) (hH.has _ _ rfl) (Nat.le_of_ble_eq_true rfl) fun w0 M Q hM hQ hR=>?_;have hE:=hH.callable;dsimp only[cd36,qm,ql,qf,qi,qb,qc,qp,qv,qN,qT,qF,qt]at hQ ⊢
 repeat' (first|refine zab [0,1,4,5,10,12,13,14,24] fun K hK=>?_|refine AWp.block ?_|(refine hK.go ?_;clear hK K)|refine Cont.go (by assumption) ?_|(refine cnd2 rfl (fun h=>?_) (fun h=>?_)<;>(try first|exact h.elim|obtain rfl:(_:Bool)=true:=h|obtain rfl:(_:Bool)=false:=h)<;>first|(exfalso;omega)|skip)|((first|refine AWp.reg hE hM ?_|refine AWp.regd hE hM ?_|refine AWp.ret ?_|refine AWp.skip ?_|refine AWp.exit ?_|(refine pk2 (fun h=>?_) (fun h=>?_)<;>(try first|exact h.elim|obtain rfl:(_:Bool)=true:=h|obtain rfl:(_:Bool)=false:=h))|refine zac (fun h=>?_) ?_|(refine hQ _ _ _ rfl ?_;clear hQ hR hE hM)|(refine hR _ _ (hQ _ _ _ rfl ?_);clear hQ hR hE hM)|(refine zaf ?_ ?_;focus first|omega|(refine zad ?_;(refine no_implicit_lambda% (st ?_);try with_reducible exact True.intro);done)))<;>try (refine no_implicit_lambda% (st ?_);try with_reducible exact True.intro)))
 ·have:¬a=b:=fun e=>h (by rw[e])
  simp[this]
 have hab:a.length=b.length:=by omega
 refine zaT (fun k:Nat=>[(0,.sl 4 (a.map Lock.c)),(1,.sl 4 (b.map Lock.c)),(12,.n a.length),(13,.n k)]) (fun k:Nat=>[]) (fun k:Nat=>k≤a.length∧((a.drop k=b.drop k)↔a=b)) (fun k=>a.length-k) 0 ⟨Nat.zero_le _,by first|rfl|simp⟩ (by (try dsimp only);(refine no_implicit_lambda% (st ?_);try with_reducible exact True.intro)<;>omega) (by (try dsimp only);(refine no_implicit_lambda% (st ?_);try with_reducible exact True.intro)<;>omega) ?_;rintro k ⟨hk,hg⟩;rcases Nat.lt_or_ge k a.length with hlt|hge
 ·rw[zao hlt,zao (l:=b) (i:=k) (by omega),List.cons.injEq,zkL]at hg
  repeat' (first|refine zab [0,1,4,5,10,12,13,14,24] fun K hK=>?_|refine AWp.block ?_|(refine hK.go ?_;clear hK K)|refine Cont.go (by assumption) ?_|(refine cnd2 rfl (fun h=>?_) (fun h=>?_)<;>(try first|exact h.elim|obtain rfl:(_:Bool)=true:=h|obtain rfl:(_:Bool)=false:=h)<;>first|(exfalso;omega)|skip)|((first|refine AWp.reg hE hM ?_|refine AWp.regd hE hM ?_|refine AWp.ret ?_|refine AWp.skip ?_|refine AWp.exit ?_|(refine pk2 (fun h=>?_) (fun h=>?_)<;>(try first|exact h.elim|obtain rfl:(_:Bool)=true:=h|obtain rfl:(_:Bool)=false:=h))|refine zac (fun h=>?_) ?_|(refine hQ _ _ _ rfl ?_;clear hQ hR hE hM)|(refine hR _ _ (hQ _ _ _ rfl ?_);clear hQ hR hE hM)|(refine zaf ?_ ?_;focus first|omega|(refine zad ?_;(refine no_implicit_lambda% (st ?_);try with_reducible exact True.intro);done)))<;>try (refine no_implicit_lambda% (st ?_);try with_reducible exact True.intro)))
  ·have:¬a=b:=by rw[←hg];grind
   simp[this]
  ·exact ⟨k+1,by omega,⟨by omega,by rw[←hg];grind⟩,(by (try dsimp only);(first|omega|(simp;done)|(simp;omega)))⟩
 ·rw[List.drop_eq_nil_of_le hge,List.drop_eq_nil_of_le (by omega)]at hg
  repeat' (first|refine zab [0,1,4,5,10,12,13,14,24] fun K hK=>?_|refine AWp.block ?_|(refine hK.go ?_;clear hK K)|refine Cont.go (by assumption) ?_|(refine cnd2 rfl (fun h=>?_) (fun h=>?_)<;>(try first|exact h.elim|obtain rfl:(_:Bool)=true:=h|obtain rfl:(_:Bool)=false:=h)<;>first|(exfalso;omega)|skip)|((first|refine AWp.reg hE hM ?_|refine AWp.regd hE hM ?_|refine AWp.ret ?_|refine AWp.skip ?_|refine AWp.exit ?_|(refine pk2 (fun h=>?_) (fun h=>?_)<;>(try first|exact h.elim|obtain rfl:(_:Bool)=true:=h|obtain rfl:(_:Bool)=false:=h))|refine zac (fun h=>?_) ?_|(refine hQ _ _ _ rfl ?_;clear hQ hR hE hM)|(refine hR _ _ (hQ _ _ _ rfl ?_);clear hQ hR hE hM)|(refine zaf ?_ ?_;focus first|omega|(refine zad ?_;(refine no_implicit_lambda% (st ?_);try with_reducible exact True.intro);done)))<;>try (refine no_implicit_lambda% (st ?_);try with_reducible exact True.intro)))
  simp[←hg]
def zbB (x y:Switch):Bool:=decide (x.id=y.id)&&decide (x.call=y.call)
def zbu (x y:Lock):Bool:=decide (x.id=y.id)&&decide (x.phase=y.phase)&&decide (x.gone=y.gone)
theorem znq (hH:HasAll P inv) (x y:Switch):PC P inv 37 [.agg x.c,.agg y.c] (·=.b (zbB x y)):=by
 refine zae (F:=cd37) (hH.has _ _ rfl) (Nat.le_of_ble_eq_true rfl) fun w0 M Q hM hQ hR=>?_;have hE:=hH.callable;dsimp only[cd37,qm,ql,qf,qi,qb,qc,qp,qv,qN,qT,qF,qt]at hQ ⊢
 repeat' (first|refine zab [0,1,2,3,4] fun K hK=>?_|refine AWp.block ?_|(refine hK.go ?_;clear hK K)|refine Cont.go (by assumption) ?_|(refine cnd2 rfl (fun h=>?_) (fun h=>?_)<;>(try first|exact h.elim|obtain rfl:(_:Bool)=true:=h|obtain rfl:(_:Bool)=false:=h)<;>first|(exfalso;omega)|skip)|((first|refine AWp.reg hE hM ?_|refine AWp.regd hE hM ?_|refine AWp.ret ?_|refine AWp.skip ?_|refine AWp.exit ?_|(refine pk2 (fun h=>?_) (fun h=>?_)<;>(try first|exact h.elim|obtain rfl:(_:Bool)=true:=h|obtain rfl:(_:Bool)=false:=h))|refine zac (fun h=>?_) ?_|(refine hQ _ _ _ rfl ?_;clear hQ hR hE hM)|(refine hR _ _ (hQ _ _ _ rfl ?_);clear hQ hR hE hM)|(refine zaf ?_ ?_;focus first|omega|(refine zad ?_;(refine no_implicit_lambda% (st ?_);try with_reducible exact True.intro);done)))<;>try (refine no_implicit_lambda% (st ?_);try with_reducible exact True.intro)))
 all_goals (first|rfl|(grind[zbB])|(simp[zbB, *];done)|(simp_all [zbB];done)|(simp_all [zbB]<;>first|omega|((repeat' split)<;>first|rfl|(exfalso;omega))))
theorem znr (hH:HasAll P inv) (x y:Lock):PC P inv 38 [.agg x.c,.agg y.c] (·=.b (zbu x y)):=by
 refine zae (F:=cd38) (hH.has _ _ rfl) (Nat.le_of_ble_eq_true rfl) fun w0 M Q hM hQ hR=>?_;have hE:=hH.callable;dsimp only[cd38,qm,ql,qf,qi,qb,qc,qp,qv,qN,qT,qF,qt]at hQ ⊢
 repeat' (first|refine zab [0,1,2,3,4] fun K hK=>?_|refine AWp.block ?_|(refine hK.go ?_;clear hK K)|refine Cont.go (by assumption) ?_|(refine cnd2 rfl (fun h=>?_) (fun h=>?_)<;>(try first|exact h.elim|obtain rfl:(_:Bool)=true:=h|obtain rfl:(_:Bool)=false:=h)<;>first|(exfalso;omega)|skip)|((first|refine AWp.reg hE hM ?_|refine AWp.regd hE hM ?_|refine AWp.ret ?_|refine AWp.skip ?_|refine AWp.exit ?_|(refine pk2 (fun h=>?_) (fun h=>?_)<;>(try first|exact h.elim|obtain rfl:(_:Bool)=true:=h|obtain rfl:(_:Bool)=false:=h))|refine zac (fun h=>?_) ?_|(refine hQ _ _ _ rfl ?_;clear hQ hR hE hM)|(refine hR _ _ (hQ _ _ _ rfl ?_);clear hQ hR hE hM)|(refine zaf ?_ ?_;focus first|omega|(refine zad ?_;(refine no_implicit_lambda% (st ?_);try with_reducible exact True.intro);done)))<;>try (refine no_implicit_lambda% (st ?_);try with_reducible exact True.intro)))
 all_goals (first|rfl|(grind[zbu])|(simp[zbu, *];done)|(simp_all [zbu];done)|(simp_all [zbu]<;>first|omega|((repeat' split)<;>first|rfl|(exfalso;omega))))
theorem zjC (hH:HasAll P inv) (a b:List Switch) (hl:a.length≤1000000000):PC P inv 39 [.sl 3 (a.map Switch.c),.sl 3 (b.map Switch.c),.fn 37 []] (·=.b (zaq zbB a b)):=by
 refine zae (F:=cd39) (hH.has _ _ rfl) (Nat.le_of_ble_eq_true rfl) fun w0 M Q hM hQ hR=>?_;have hE:=hH.callable;dsimp only[cd39,qm,ql,qf,qi,qb,qc,qp,qv,qN,qT,qF,qt]at hQ ⊢
 repeat' (first|refine zab [0,1,2,6,7,8,9,14,15,16,17,18,30] fun K hK=>?_|refine AWp.block ?_|(refine hK.go ?_;clear hK K)|refine Cont.go (by assumption) ?_|(refine cnd2 rfl (fun h=>?_) (fun h=>?_)<;>(try first|exact h.elim|obtain rfl:(_:Bool)=true:=h|obtain rfl:(_:Bool)=false:=h)<;>first|(exfalso;omega)|skip)|((first|refine AWp.reg hE hM ?_|refine AWp.regd hE hM ?_|refine AWp.ret ?_|refine AWp.skip ?_|refine AWp.exit ?_|(refine pk2 (fun h=>?_) (fun h=>?_)<;>(try first|exact h.elim|obtain rfl:(_:Bool)=true:=h|obtain rfl:(_:Bool)=false:=h))|refine zac (fun h=>?_) ?_|(refine hQ _ _ _ rfl ?_;clear hQ hR hE hM)|(refine hR _ _ (hQ _ _ _ rfl ?_);clear hQ hR hE hM)|(refine zaf ?_ ?_;focus first|omega|(refine zad ?_;(refine no_implicit_lambda% (st ?_);try with_reducible exact True.intro);done)))<;>try (refine no_implicit_lambda% (st ?_);try with_reducible exact True.intro)))
 ·cases hz:zaq zbB a b with
  |false=>rfl
  |true=>exact absurd (congrArg Int.ofNat (zbo hz)) (by simpa using h)
 have hab:a.length=b.length:=by omega
 refine zaT (fun k:Nat=>[(0,.sl 3 (a.map Switch.c)),(1,.sl 3 (b.map Switch.c)),(2,.fn 37 []),(15,.sl 3 (a.map Switch.c)),(16,.n a.length),(17,.n k)]) (fun k:Nat=>[]) (fun k:Nat=>k≤a.length∧zaq zbB (a.drop k) (b.drop k)=zaq zbB a b) (fun k=>a.length-k) 0 ⟨Nat.zero_le _,by first|rfl|simp⟩ (by (try dsimp only);(refine no_implicit_lambda% (st ?_);try with_reducible exact True.intro)<;>omega) (by (try dsimp only);(refine no_implicit_lambda% (st ?_);try with_reducible exact True.intro)<;>omega) ?_;rintro k ⟨hk,hg⟩;rcases Nat.lt_or_ge k a.length with hlt|hge
 ·rw[zao hlt,zao (l:=b) (i:=k) (by omega),zaq]at hg
  repeat' (first|refine zab [0,1,2,6,7,8,9,14,15,16,17,18,30] fun K hK=>?_|refine AWp.block ?_|(refine hK.go ?_;clear hK K)|refine Cont.go (by assumption) ?_|(refine cnd2 rfl (fun h=>?_) (fun h=>?_)<;>(try first|exact h.elim|obtain rfl:(_:Bool)=true:=h|obtain rfl:(_:Bool)=false:=h)<;>first|(exfalso;omega)|skip)|((first|refine AWp.reg hE hM ?_|refine AWp.regd hE hM ?_|refine AWp.ret ?_|refine AWp.skip ?_|refine AWp.exit ?_|(refine pk2 (fun h=>?_) (fun h=>?_)<;>(try first|exact h.elim|obtain rfl:(_:Bool)=true:=h|obtain rfl:(_:Bool)=false:=h))|refine zac (fun h=>?_) ?_|refine zaa hM (znq hH _ _) ?_|(refine hQ _ _ _ rfl ?_;clear hQ hR hE hM)|(refine hR _ _ (hQ _ _ _ rfl ?_);clear hQ hR hE hM)|(refine zaf ?_ ?_;focus first|omega|(refine zad ?_;(refine no_implicit_lambda% (st ?_);try with_reducible exact True.intro);done)))<;>try (refine no_implicit_lambda% (st ?_);try with_reducible exact True.intro)))
  all_goals (first|(refine ⟨k+1,by omega,⟨by omega,by grind[]⟩,(by (try dsimp only);(first|omega|(simp;done)|(simp;omega)))⟩)|(grind[]))
 ·rw[List.drop_eq_nil_of_le hge,List.drop_eq_nil_of_le (by omega),zaq]at hg
  repeat' (first|refine zab [0,1,2,6,7,8,9,14,15,16,17,18,30] fun K hK=>?_|refine AWp.block ?_|(refine hK.go ?_;clear hK K)|refine Cont.go (by assumption) ?_|(refine cnd2 rfl (fun h=>?_) (fun h=>?_)<;>(try first|exact h.elim|obtain rfl:(_:Bool)=true:=h|obtain rfl:(_:Bool)=false:=h)<;>first|(exfalso;omega)|skip)|((first|refine AWp.reg hE hM ?_|refine AWp.regd hE hM ?_|refine AWp.ret ?_|refine AWp.skip ?_|refine AWp.exit ?_|(refine pk2 (fun h=>?_) (fun h=>?_)<;>(try first|exact h.elim|obtain rfl:(_:Bool)=true:=h|obtain rfl:(_:Bool)=false:=h))|refine zac (fun h=>?_) ?_|(refine hQ _ _ _ rfl ?_;clear hQ hR hE hM)|(refine hR _ _ (hQ _ _ _ rfl ?_);clear hQ hR hE hM)|(refine zaf ?_ ?_;focus first|omega|(refine zad ?_;(refine no_implicit_lambda% (st ?_);try with_reducible exact True.intro);done)))<;>try (refine no_implicit_lambda% (st ?_);try with_reducible exact True.intro)))
  exact hg
theorem zl6 (hH:HasAll P inv) (a b:List Lock) (hl:a.length≤1000000000):PC P inv 40 [.sl 4 (a.map Lock.c),.sl 4 (b.map Lock.c),.fn 38 []] (·=.b (zaq zbu a b)):=by
 refine zae (F:=cd40) (hH.has _ _ rfl) (Nat.le_of_ble_eq_true rfl) fun w0 M Q hM hQ hR=>?_;have hE:=hH.callable;dsimp only[cd40,qm,ql,qf,qi,qb,qc,qp,qv,qN,qT,qF,qt]at hQ ⊢
 repeat' (first|refine zab [0,1,2,6,7,8,9,14,15,16,17,18,30] fun K hK=>?_|refine AWp.block ?_|(refine hK.go ?_;clear hK K)|refine Cont.go (by assumption) ?_|(refine cnd2 rfl (fun h=>?_) (fun h=>?_)<;>(try first|exact h.elim|obtain rfl:(_:Bool)=true:=h|obtain rfl:(_:Bool)=false:=h)<;>first|(exfalso;omega)|skip)|((first|refine AWp.reg hE hM ?_|refine AWp.regd hE hM ?_|refine AWp.ret ?_|refine AWp.skip ?_|refine AWp.exit ?_|(refine pk2 (fun h=>?_) (fun h=>?_)<;>(try first|exact h.elim|obtain rfl:(_:Bool)=true:=h|obtain rfl:(_:Bool)=false:=h))|refine zac (fun h=>?_) ?_|(refine hQ _ _ _ rfl ?_;clear hQ hR hE hM)|(refine hR _ _ (hQ _ _ _ rfl ?_);clear hQ hR hE hM)|(refine zaf ?_ ?_;focus first|omega|(refine zad ?_;(refine no_implicit_lambda% (st ?_);try with_reducible exact True.intro);done)))<;>try (refine no_implicit_lambda% (st ?_);try with_reducible exact True.intro)))
 ·cases hz:zaq zbu a b with
  |false=>rfl
  |true=>exact absurd (congrArg Int.ofNat (zbo hz)) (by simpa using h)
 have hab:a.length=b.length:=by omega
 refine zaT (fun k:Nat=>[(0,.sl 4 (a.map Lock.c)),(1,.sl 4 (b.map Lock.c)),(2,.fn 38 []),(15,.sl 4 (a.map Lock.c)),(16,.n a.length),(17,.n k)]) (fun k:Nat=>[]) (fun k:Nat=>k≤a.length∧zaq zbu (a.drop k) (b.drop k)=zaq zbu a b) (fun k=>a.length-k) 0 ⟨Nat.zero_le _,by first|rfl|simp⟩ (by (try dsimp only);(refine no_implicit_lambda% (st ?_);try with_reducible exact True.intro)<;>omega) (by (try dsimp only);(refine no_implicit_lambda% (st ?_);try with_reducible exact True.intro)<;>omega) ?_;rintro k ⟨hk,hg⟩;rcases Nat.lt_or_ge k a.length with hlt|hge
 ·rw[zao hlt,zao (l:=b) (i:=k) (by omega),zaq]at hg
  repeat' (first|refine zab [0,1,2,6,7,8,9,14,15,16,17,18,30] fun K hK=>?_|refine AWp.block ?_|(refine hK.go ?_;clear hK K)|refine Cont.go (by assumption) ?_|(refine cnd2 rfl (fun h=>?_) (fun h=>?_)<;>(try first|exact h.elim|obtain rfl:(_:Bool)=true:=h|obtain rfl:(_:Bool)=false:=h)<;>first|(exfalso;omega)|skip)|((first|refine AWp.reg hE hM ?_|refine AWp.regd hE hM ?_|refine AWp.ret ?_|refine AWp.skip ?_|refine AWp.exit ?_|(refine pk2 (fun h=>?_) (fun h=>?_)<;>(try first|exact h.elim|obtain rfl:(_:Bool)=true:=h|obtain rfl:(_:Bool)=false:=h))|refine zac (fun h=>?_) ?_|refine zaa hM (znr hH _ _) ?_|(refine hQ _ _ _ rfl ?_;clear hQ hR hE hM)|(refine hR _ _ (hQ _ _ _ rfl ?_);clear hQ hR hE hM)|(refine zaf ?_ ?_;focus first|omega|(refine zad ?_;(refine no_implicit_lambda% (st ?_);try with_reducible exact True.intro);done)))<;>try (refine no_implicit_lambda% (st ?_);try with_reducible exact True.intro)))
  all_goals (first|(refine ⟨k+1,by omega,⟨by omega,by grind[]⟩,(by (try dsimp only);(first|omega|(simp;done)|(simp;omega)))⟩)|(grind[]))
 ·rw[List.drop_eq_nil_of_le hge,List.drop_eq_nil_of_le (by omega),zaq]at hg
  repeat' (first|refine zab [0,1,2,6,7,8,9,14,15,16,17,18,30] fun K hK=>?_|refine AWp.block ?_|(refine hK.go ?_;clear hK K)|refine Cont.go (by assumption) ?_|(refine cnd2 rfl (fun h=>?_) (fun h=>?_)<;>(try first|exact h.elim|obtain rfl:(_:Bool)=true:=h|obtain rfl:(_:Bool)=false:=h)<;>first|(exfalso;omega)|skip)|((first|refine AWp.reg hE hM ?_|refine AWp.regd hE hM ?_|refine AWp.ret ?_|refine AWp.skip ?_|refine AWp.exit ?_|(refine pk2 (fun h=>?_) (fun h=>?_)<;>(try first|exact h.elim|obtain rfl:(_:Bool)=true:=h|obtain rfl:(_:Bool)=false:=h))|refine zac (fun h=>?_) ?_|(refine hQ _ _ _ rfl ?_;clear hQ hR hE hM)|(refine hR _ _ (hQ _ _ _ rfl ?_);clear hQ hR hE hM)|(refine zaf ?_ ?_;focus first|omega|(refine zad ?_;(refine no_implicit_lambda% (st ?_);try with_reducible exact True.intro);done)))<;>try (refine no_implicit_lambda% (st ?_);try with_reducible exact True.intro)))
  exact hg
end Go.Lev
namespace Go.Lev
open Go.Eng
set_option maxRecDepth 10000
set_option maxHeartbeats 4000000
variable {P:Program} {inv:Nat→Option Nat}
def zcY {α:Type} (p:α→Bool):Int→List α→Int
 |_,[]=>-1
 |k,x::r=>if p x=true then k else zcY p (k+1) r
theorem idx_rte (hH:HasAll P inv) {jc:Nat} {caps:List AV} {p:Rte→Bool} (l:List Rte) (hc:∀ x∈l,PC P inv jc ([.agg x.c]++caps) (·=.b (p x))) (hl:l.length≤1000000000):PC P inv 138 [.sl 7 (l.map Rte.c),.fn jc caps] (·=.n (zcY p 0 l)):=by
 refine zae (F:=cd138) (hH.has _ _ rfl) (Nat.le_of_ble_eq_true rfl) fun w0 M Q hM hQ hR=>?_;have hE:=hH.callable;dsimp only[cd138,qm,ql,qf,qi,qb,qc,qp,qv,qN,qT,qF,qt]at hQ ⊢
 repeat' (first|refine zab [0,1,4,5,7,8,9,16] fun K hK=>?_|refine AWp.block ?_|(refine hK.go ?_;clear hK K)|refine Cont.go (by assumption) ?_|(refine cnd2 rfl (fun h=>?_) (fun h=>?_)<;>(try first|exact h.elim|obtain rfl:(_:Bool)=true:=h|obtain rfl:(_:Bool)=false:=h)<;>first|(exfalso;omega)|skip)|((first|refine AWp.reg hE hM ?_|refine AWp.regd hE hM ?_|refine AWp.ret ?_|refine AWp.skip ?_|refine AWp.exit ?_|(refine pk2 (fun h=>?_) (fun h=>?_)<;>(try first|exact h.elim|obtain rfl:(_:Bool)=true:=h|obtain rfl:(_:Bool)=false:=h))|refine zac (fun h=>?_) ?_|(refine hQ _ _ _ rfl ?_;clear hQ hR hE hM)|(refine hR _ _ (hQ _ _ _ rfl ?_);clear hQ hR hE hM)|(refine zaf ?_ ?_;focus first|omega|(refine zad ?_;(refine no_implicit_lambda% (st ?_);try with_reducible exact True.intro);done)))<;>try (refine no_implicit_lambda% (st ?_);try with_reducible exact True.intro)))
 refine zaT (fun k:Nat=>[(0,.sl 7 (l.map Rte.c)),(1,.fn jc caps),(7,.n l.length),(8,.n k)]) (fun k:Nat=>[]) (fun k:Nat=>k≤l.length∧zcY p k (l.drop k)=zcY p 0 l) (fun k=>l.length-k) 0 ⟨Nat.zero_le _,by first|rfl|simp⟩ (by (try dsimp only);(refine no_implicit_lambda% (st ?_);try with_reducible exact True.intro)<;>omega) (by (try dsimp only);(refine no_implicit_lambda% (st ?_);try with_reducible exact True.intro)<;>omega) ?_;rintro k ⟨hk,hg⟩;rcases Nat.lt_or_ge k l.length with hlt|hge
 ·rw[zao hlt]at hg
  rw[zcY]at hg
  repeat' (first|refine zab [0,1,4,5,7,8,9,16] fun K hK=>?_|refine AWp.block ?_|(refine hK.go ?_;clear hK K)|refine Cont.go (by assumption) ?_|(refine cnd2 rfl (fun h=>?_) (fun h=>?_)<;>(try first|exact h.elim|obtain rfl:(_:Bool)=true:=h|obtain rfl:(_:Bool)=false:=h)<;>first|(exfalso;omega)|skip)|((first|refine AWp.reg hE hM ?_|refine AWp.regd hE hM ?_|refine AWp.ret ?_|refine AWp.skip ?_|refine AWp.exit ?_|(refine pk2 (fun h=>?_) (fun h=>?_)<;>(try first|exact h.elim|obtain rfl:(_:Bool)=true:=h|obtain rfl:(_:Bool)=false:=h))|refine zac (fun h=>?_) ?_|refine zaa hM (hc _ (zat hlt)) ?_|(refine hQ _ _ _ rfl ?_;clear hQ hR hE hM)|(refine hR _ _ (hQ _ _ _ rfl ?_);clear hQ hR hE hM)|(refine zaf ?_ ?_;focus first|omega|(refine zad ?_;(refine no_implicit_lambda% (st ?_);try with_reducible exact True.intro);done)))<;>try (refine no_implicit_lambda% (st ?_);try with_reducible exact True.intro)))
  ·rw[←hg,if_pos h]
  ·exact ⟨k+1,by omega,⟨by omega,by rw[←hg,if_neg (by rw[h];simp)];rfl⟩,(by (try dsimp only);(first|omega|(simp;done)|(simp;omega)))⟩
 ·rw[List.drop_eq_nil_of_le hge]at hg
  repeat' (first|refine zab [0,1,4,5,7,8,9,16] fun K hK=>?_|refine AWp.block ?_|(refine hK.go ?_;clear hK K)|refine Cont.go (by assumption) ?_|(refine cnd2 rfl (fun h=>?_) (fun h=>?_)<;>(try first|exact h.elim|obtain rfl:(_:Bool)=true:=h|obtain rfl:(_:Bool)=false:=h)<;>first|(exfalso;omega)|skip)|((first|refine AWp.reg hE hM ?_|refine AWp.regd hE hM ?_|refine AWp.ret ?_|refine AWp.skip ?_|refine AWp.exit ?_|(refine pk2 (fun h=>?_) (fun h=>?_)<;>(try first|exact h.elim|obtain rfl:(_:Bool)=true:=h|obtain rfl:(_:Bool)=false:=h))|refine zac (fun h=>?_) ?_|(refine hQ _ _ _ rfl ?_;clear hQ hR hE hM)|(refine hR _ _ (hQ _ _ _ rfl ?_);clear hQ hR hE hM)|(refine zaf ?_ ?_;focus first|omega|(refine zad ?_;(refine no_implicit_lambda% (st ?_);try with_reducible exact True.intro);done)))<;>try (refine no_implicit_lambda% (st ?_);try with_reducible exact True.intro)))
  rw[←hg];rfl
theorem zkv (hH:HasAll P inv) {jc:Nat} {caps:List AV} {p:Pnt→Bool} (l:List Pnt) (hc:∀ x∈l,PC P inv jc ([.agg x.c]++caps) (·=.b (p x))) (hl:l.length≤1000000000):PC P inv 109 [.sl 2 (l.map Pnt.c),.fn jc caps] (·=.n (zcY p 0 l)):=by
 refine zae (F:=cd109) (hH.has _ _ rfl) (Nat.le_of_ble_eq_true rfl) fun w0 M Q hM hQ hR=>?_;have hE:=hH.callable;dsimp only[cd109,qm,ql,qf,qi,qb,qc,qp,qv,qN,qT,qF,qt]at hQ ⊢
 repeat' (first|refine zab [0,1,4,5,7,8,9,16] fun K hK=>?_|refine AWp.block ?_|(refine hK.go ?_;clear hK K)|refine Cont.go (by assumption) ?_|(refine cnd2 rfl (fun h=>?_) (fun h=>?_)<;>(try first|exact h.elim|obtain rfl:(_:Bool)=true:=h|obtain rfl:(_:Bool)=false:=h)<;>first|(exfalso;omega)|skip)|((first|refine AWp.reg hE hM ?_|refine AWp.regd hE hM ?_|refine AWp.ret ?_|refine AWp.skip ?_|refine AWp.exit ?_|(refine pk2 (fun h=>?_) (fun h=>?_)<;>(try first|exact h.elim|obtain rfl:(_:Bool)=true:=h|obtain rfl:(_:Bool)=false:=h))|refine zac (fun h=>?_) ?_|(refine hQ _ _ _ rfl ?_;clear hQ hR hE hM)|(refine hR _ _ (hQ _ _ _ rfl ?_);clear hQ hR hE hM)|(refine zaf ?_ ?_;focus first|omega|(refine zad ?_;(refine no_implicit_lambda% (st ?_);try with_reducible exact True.intro);done)))<;>try (refine no_implicit_lambda% (st ?_);try with_reducible exact True.intro)))
 refine zaT (fun k:Nat=>[(0,.sl 2 (l.map Pnt.c)),(1,.fn jc caps),(7,.n l.length),(8,.n k)]) (fun k:Nat=>[]) (fun k:Nat=>k≤l.length∧zcY p k (l.drop k)=zcY p 0 l) (fun k=>l.length-k) 0 ⟨Nat.zero_le _,by first|rfl|simp⟩ (by (try dsimp only);(refine no_implicit_lambda% (st ?_);try with_reducible exact True.intro)<;>omega) (by (try dsimp only);(refine no_implicit_lambda% (st ?_);try with_reducible exact True.intro)<;>omega) ?_;rintro k ⟨hk,hg⟩;rcases Nat.lt_or_ge k l.length with hlt|hge
 ·rw[zao hlt]at hg
  rw[zcY]at hg
  repeat' (first|refine zab [0,1,4,5,7,8,9,16] fun K hK=>?_|refine AWp.block ?_|(refine hK.go ?_;clear hK K)|refine Cont.go (by assumption) ?_|(refine cnd2 rfl (fun h=>?_) (fun h=>?_)<;>(try first|exact h.elim|obtain rfl:(_:Bool)=true:=h|obtain rfl:(_:Bool)=false:=h)<;>first|(exfalso;omega)|skip)|((first|refine AWp.reg hE hM ?_|refine AWp.regd hE hM ?_|refine AWp.ret ?_|refine AWp.skip ?_|refine AWp.exit ?_|(refine pk2 (fun h=>?_) (fun h=>?_)<;>(try first|exact h.elim|obtain rfl:(_:Bool)=true:=h|obtain rfl:(_:Bool)=false:=h))|refine zac (fun h=>?_) ?_|refine zaa hM (hc _ (zat hlt)) ?_|(refine hQ _ _ _ rfl ?_;clear hQ hR hE hM)|(refine hR _ _ (hQ _ _ _ rfl ?_);clear hQ hR hE hM)|(refine zaf ?_ ?_;focus first|omega|(refine zad ?_;(refine no_implicit_lambda% (st ?_);try with_reducible exact True.intro);done)))<;>try (refine no_implicit_lambda% (st ?_);try with_reducible exact True.intro)))
  ·rw[←hg,if_pos h]
  ·exact ⟨k+1,by omega,⟨by omega,by rw[←hg,if_neg (by rw[h];simp)];rfl⟩,(by (try dsimp only);(first|omega|(simp;done)|(simp;omega)))⟩
 ·rw[List.drop_eq_nil_of_le hge]at hg
  repeat' (first|refine zab [0,1,4,5,7,8,9,16] fun K hK=>?_|refine AWp.block ?_|(refine hK.go ?_;clear hK K)|refine Cont.go (by assumption) ?_|(refine cnd2 rfl (fun h=>?_) (fun h=>?_)<;>(try first|exact h.elim|obtain rfl:(_:Bool)=true:=h|obtain rfl:(_:Bool)=false:=h)<;>first|(exfalso;omega)|skip)|((first|refine AWp.reg hE hM ?_|refine AWp.regd hE hM ?_|refine AWp.ret ?_|refine AWp.skip ?_|refine AWp.exit ?_|(refine pk2 (fun h=>?_) (fun h=>?_)<;>(try first|exact h.elim|obtain rfl:(_:Bool)=true:=h|obtain rfl:(_:Bool)=false:=h))|refine zac (fun h=>?_) ?_|(refine hQ _ _ _ rfl ?_;clear hQ hR hE hM)|(refine hR _ _ (hQ _ _ _ rfl ?_);clear hQ hR hE hM)|(refine zaf ?_ ?_;focus first|omega|(refine zad ?_;(refine no_implicit_lambda% (st ?_);try with_reducible exact True.intro);done)))<;>try (refine no_implicit_lambda% (st ?_);try with_reducible exact True.intro)))
  rw[←hg];rfl
theorem idx_sgn (hH:HasAll P inv) {jc:Nat} {caps:List AV} {p:Sgn→Bool} (l:List Sgn) (hc:∀ x∈l,PC P inv jc ([.agg x.c]++caps) (·=.b (p x))) (hl:l.length≤1000000000):PC P inv 143 [.sl 3 (l.map Sgn.c),.fn jc caps] (·=.n (zcY p 0 l)):=by
 refine zae (F:=cd143) (hH.has _ _ rfl) (Nat.le_of_ble_eq_true rfl) fun w0 M Q hM hQ hR=>?_;have hE:=hH.callable;dsimp only[cd143,qm,ql,qf,qi,qb,qc,qp,qv,qN,qT,qF,qt]at hQ ⊢
 repeat' (first|refine zab [0,1,4,5,7,8,9,16] fun K hK=>?_|refine AWp.block ?_|(refine hK.go ?_;clear hK K)|refine Cont.go (by assumption) ?_|(refine cnd2 rfl (fun h=>?_) (fun h=>?_)<;>(try first|exact h.elim|obtain rfl:(_:Bool)=true:=h|obtain rfl:(_:Bool)=false:=h)<;>first|(exfalso;omega)|skip)|((first|refine AWp.reg hE hM ?_|refine AWp.regd hE hM ?_|refine AWp.ret ?_|refine AWp.skip ?_|refine AWp.exit ?_|(refine pk2 (fun h=>?_) (fun h=>?_)<;>(try first|exact h.elim|obtain rfl:(_:Bool)=true:=h|obtain rfl:(_:Bool)=false:=h))|refine zac (fun h=>?_) ?_|(refine hQ _ _ _ rfl ?_;clear hQ hR hE hM)|(refine hR _ _ (hQ _ _ _ rfl ?_);clear hQ hR hE hM)|(refine zaf ?_ ?_;focus first|omega|(refine zad ?_;(refine no_implicit_lambda% (st ?_);try with_reducible exact True.intro);done)))<;>try (refine no_implicit_lambda% (st ?_);try with_reducible exact True.intro)))
 refine zaT (fun k:Nat=>[(0,.sl 3 (l.map Sgn.c)),(1,.fn jc caps),(7,.n l.length),(8,.n k)]) (fun k:Nat=>[]) (fun k:Nat=>k≤l.length∧zcY p k (l.drop k)=zcY p 0 l) (fun k=>l.length-k) 0 ⟨Nat.zero_le _,by first|rfl|simp⟩ (by (try dsimp only);(refine no_implicit_lambda% (st ?_);try with_reducible exact True.intro)<;>omega) (by (try dsimp only);(refine no_implicit_lambda% (st ?_);try with_reducible exact True.intro)<;>omega) ?_;rintro k ⟨hk,hg⟩;rcases Nat.lt_or_ge k l.length with hlt|hge
 ·rw[zao hlt]at hg
  rw[zcY]at hg
  repeat' (first|refine zab [0,1,4,5,7,8,9,16] fun K hK=>?_|refine AWp.block ?_|(refine hK.go ?_;clear hK K)|refine Cont.go (by assumption) ?_|(refine cnd2 rfl (fun h=>?_) (fun h=>?_)<;>(try first|exact h.elim|obtain rfl:(_:Bool)=true:=h|obtain rfl:(_:Bool)=false:=h)<;>first|(exfalso;omega)|skip)|((first|refine AWp.reg hE hM ?_|refine AWp.regd hE hM ?_|refine AWp.ret ?_|refine AWp.skip ?_|refine AWp.exit ?_|(refine pk2 (fun h=>?_) (fun h=>?_)<;>(try first|exact h.elim|obtain rfl:(_:Bool)=true:=h|obtain rfl:(_:Bool)=false:=h))|refine zac (fun h=>?_) ?_|refine zaa hM (hc _ (zat hlt)) ?_|(refine hQ _ _ _ rfl ?_;clear hQ hR hE hM)|(refine hR _ _ (hQ _ _ _ rfl ?_);clear hQ hR hE hM)|(refine zaf ?_ ?_;focus first|omega|(refine zad ?_;(refine no_implicit_lambda% (st ?_);try with_reducible exact True.intro);done)))<;>try (refine no_implicit_lambda% (st ?_);try with_reducible exact True.intro)))
  ·rw[←hg,if_pos h]
  ·exact ⟨k+1,by omega,⟨by omega,by rw[←hg,if_neg (by rw[h];simp)];rfl⟩,(by (try dsimp only);(first|omega|(simp;done)|(simp;omega)))⟩
 ·rw[List.drop_eq_nil_of_le hge]at hg
  repeat' (first|refine zab [0,1,4,5,7,8,9,16] fun K hK=>?_|refine AWp.block ?_|(refine hK.go ?_;clear hK K)|refine Cont.go (by assumption) ?_|(refine cnd2 rfl (fun h=>?_) (fun h=>?_)<;>(try first|exact h.elim|obtain rfl:(_:Bool)=true:=h|obtain rfl:(_:Bool)=false:=h)<;>first|(exfalso;omega)|skip)|((first|refine AWp.reg hE hM ?_|refine AWp.regd hE hM ?_|refine AWp.ret ?_|refine AWp.skip ?_|refine AWp.exit ?_|(refine pk2 (fun h=>?_) (fun h=>?_)<;>(try first|exact h.elim|obtain rfl:(_:Bool)=true:=h|obtain rfl:(_:Bool)=false:=h))|refine zac (fun h=>?_) ?_|(refine hQ _ _ _ rfl ?_;clear hQ hR hE hM)|(refine hR _ _ (hQ _ _ _ rfl ?_);clear hQ hR hE hM)|(refine zaf ?_ ?_;focus first|omega|(refine zad ?_;(refine no_implicit_lambda% (st ?_);try with_reducible exact True.intro);done)))<;>try (refine no_implicit_lambda% (st ?_);try with_reducible exact True.intro)))
  rw[←hg];rfl
theorem zgS (hH:HasAll P inv) {jc:Nat} {caps:List AV} {p:Section→Bool} (l:List Section) (hc:∀ x∈l,PC P inv jc ([.agg x.c]++caps) (·=.b (p x))) (hl:l.length≤1000000000):PC P inv 94 [.sl 3 (l.map Section.c),.fn jc caps] (·=.n (zcY p 0 l)):=by
 refine zae (F:=cd94) (hH.has _ _ rfl) (Nat.le_of_ble_eq_true rfl) fun w0 M Q hM hQ hR=>?_;have hE:=hH.callable;dsimp only[cd94,qm,ql,qf,qi,qb,qc,qp,qv,qN,qT,qF,qt]at hQ ⊢
 repeat' (first|refine zab [0,1,4,5,7,8,9,16] fun K hK=>?_|refine AWp.block ?_|(refine hK.go ?_;clear hK K)|refine Cont.go (by assumption) ?_|(refine cnd2 rfl (fun h=>?_) (fun h=>?_)<;>(try first|exact h.elim|obtain rfl:(_:Bool)=true:=h|obtain rfl:(_:Bool)=false:=h)<;>first|(exfalso;omega)|skip)|((first|refine AWp.reg hE hM ?_|refine AWp.regd hE hM ?_|refine AWp.ret ?_|refine AWp.skip ?_|refine AWp.exit ?_|(refine pk2 (fun h=>?_) (fun h=>?_)<;>(try first|exact h.elim|obtain rfl:(_:Bool)=true:=h|obtain rfl:(_:Bool)=false:=h))|refine zac (fun h=>?_) ?_|(refine hQ _ _ _ rfl ?_;clear hQ hR hE hM)|(refine hR _ _ (hQ _ _ _ rfl ?_);clear hQ hR hE hM)|(refine zaf ?_ ?_;focus first|omega|(refine zad ?_;(refine no_implicit_lambda% (st ?_);try with_reducible exact True.intro);done)))<;>try (refine no_implicit_lambda% (st ?_);try with_reducible exact True.intro)))
 refine zaT (fun k:Nat=>[(0,.sl 3 (l.map Section.c)),(1,.fn jc caps),(7,.n l.length),(8,.n k)]) (fun k:Nat=>[]) (fun k:Nat=>k≤l.length∧zcY p k (l.drop k)=zcY p 0 l) (fun k=>l.length-k) 0 ⟨Nat.zero_le _,by first|rfl|simp⟩ (by (try dsimp only);(refine no_implicit_lambda% (st ?_);try with_reducible exact True.intro)<;>omega) (by (try dsimp only);(refine no_implicit_lambda% (st ?_);try with_reducible exact True.intro)<;>omega) ?_;rintro k ⟨hk,hg⟩;rcases Nat.lt_or_ge k l.length with hlt|hge
 ·rw[zao hlt]at hg
  rw[zcY]at hg
  repeat' (first|refine zab [0,1,4,5,7,8,9,16] fun K hK=>?_|refine AWp.block ?_|(refine hK.go ?_;clear hK K)|refine Cont.go (by assumption) ?_|(refine cnd2 rfl (fun h=>?_) (fun h=>?_)<;>(try first|exact h.elim|obtain rfl:(_:Bool)=true:=h|obtain rfl:(_:Bool)=false:=h)<;>first|(exfalso;omega)|skip)|((first|refine AWp.reg hE hM ?_|refine AWp.regd hE hM ?_|refine AWp.ret ?_|refine AWp.skip ?_|refine AWp.exit ?_|(refine pk2 (fun h=>?_) (fun h=>?_)<;>(try first|exact h.elim|obtain rfl:(_:Bool)=true:=h|obtain rfl:(_:Bool)=false:=h))|refine zac (fun h=>?_) ?_|refine zaa hM (hc _ (zat hlt)) ?_|(refine hQ _ _ _ rfl ?_;clear hQ hR hE hM)|(refine hR _ _ (hQ _ _ _ rfl ?_);clear hQ hR hE hM)|(refine zaf ?_ ?_;focus first|omega|(refine zad ?_;(refine no_implicit_lambda% (st ?_);try with_reducible exact True.intro);done)))<;>try (refine no_implicit_lambda% (st ?_);try with_reducible exact True.intro)))
  ·rw[←hg,if_pos h]
  ·exact ⟨k+1,by omega,⟨by omega,by rw[←hg,if_neg (by rw[h];simp)];rfl⟩,(by (try dsimp only);(first|omega|(simp;done)|(simp;omega)))⟩
 ·rw[List.drop_eq_nil_of_le hge]at hg
  repeat' (first|refine zab [0,1,4,5,7,8,9,16] fun K hK=>?_|refine AWp.block ?_|(refine hK.go ?_;clear hK K)|refine Cont.go (by assumption) ?_|(refine cnd2 rfl (fun h=>?_) (fun h=>?_)<;>(try first|exact h.elim|obtain rfl:(_:Bool)=true:=h|obtain rfl:(_:Bool)=false:=h)<;>first|(exfalso;omega)|skip)|((first|refine AWp.reg hE hM ?_|refine AWp.regd hE hM ?_|refine AWp.ret ?_|refine AWp.skip ?_|refine AWp.exit ?_|(refine pk2 (fun h=>?_) (fun h=>?_)<;>(try first|exact h.elim|obtain rfl:(_:Bool)=true:=h|obtain rfl:(_:Bool)=false:=h))|refine zac (fun h=>?_) ?_|(refine hQ _ _ _ rfl ?_;clear hQ hR hE hM)|(refine hR _ _ (hQ _ _ _ rfl ?_);clear hQ hR hE hM)|(refine zaf ?_ ?_;focus first|omega|(refine zad ?_;(refine no_implicit_lambda% (st ?_);try with_reducible exact True.intro);done)))<;>try (refine no_implicit_lambda% (st ?_);try with_reducible exact True.intro)))
  rw[←hg];rfl
theorem znH (hH:HasAll P inv) {jc:Nat} {caps:List AV} {p:Track→Bool} (l:List Track) (hc:∀ x∈l,PC P inv jc ([.agg x.c]++caps) (·=.b (p x))) (hl:l.length≤1000000000):PC P inv 96 [.sl 2 (l.map Track.c),.fn jc caps] (·=.n (zcY p 0 l)):=by
 refine zae (F:=cd96) (hH.has _ _ rfl) (Nat.le_of_ble_eq_true rfl) fun w0 M Q hM hQ hR=>?_;have hE:=hH.callable;dsimp only[cd96,qm,ql,qf,qi,qb,qc,qp,qv,qN,qT,qF,qt]at hQ ⊢
 repeat' (first|refine zab [0,1,4,5,7,8,9,16] fun K hK=>?_|refine AWp.block ?_|(refine hK.go ?_;clear hK K)|refine Cont.go (by assumption) ?_|(refine cnd2 rfl (fun h=>?_) (fun h=>?_)<;>(try first|exact h.elim|obtain rfl:(_:Bool)=true:=h|obtain rfl:(_:Bool)=false:=h)<;>first|(exfalso;omega)|skip)|((first|refine AWp.reg hE hM ?_|refine AWp.regd hE hM ?_|refine AWp.ret ?_|refine AWp.skip ?_|refine AWp.exit ?_|(refine pk2 (fun h=>?_) (fun h=>?_)<;>(try first|exact h.elim|obtain rfl:(_:Bool)=true:=h|obtain rfl:(_:Bool)=false:=h))|refine zac (fun h=>?_) ?_|(refine hQ _ _ _ rfl ?_;clear hQ hR hE hM)|(refine hR _ _ (hQ _ _ _ rfl ?_);clear hQ hR hE hM)|(refine zaf ?_ ?_;focus first|omega|(refine zad ?_;(refine no_implicit_lambda% (st ?_);try with_reducible exact True.intro);done)))<;>try (refine no_implicit_lambda% (st ?_);try with_reducible exact True.intro)))
 refine zaT (fun k:Nat=>[(0,.sl 2 (l.map Track.c)),(1,.fn jc caps),(7,.n l.length),(8,.n k)]) (fun k:Nat=>[]) (fun k:Nat=>k≤l.length∧zcY p k (l.drop k)=zcY p 0 l) (fun k=>l.length-k) 0 ⟨Nat.zero_le _,by first|rfl|simp⟩ (by (try dsimp only);(refine no_implicit_lambda% (st ?_);try with_reducible exact True.intro)<;>omega) (by (try dsimp only);(refine no_implicit_lambda% (st ?_);try with_reducible exact True.intro)<;>omega) ?_;rintro k ⟨hk,hg⟩;rcases Nat.lt_or_ge k l.length with hlt|hge
 ·rw[zao hlt]at hg
  rw[zcY]at hg
  repeat' (first|refine zab [0,1,4,5,7,8,9,16] fun K hK=>?_|refine AWp.block ?_|(refine hK.go ?_;clear hK K)|refine Cont.go (by assumption) ?_|(refine cnd2 rfl (fun h=>?_) (fun h=>?_)<;>(try first|exact h.elim|obtain rfl:(_:Bool)=true:=h|obtain rfl:(_:Bool)=false:=h)<;>first|(exfalso;omega)|skip)|((first|refine AWp.reg hE hM ?_|refine AWp.regd hE hM ?_|refine AWp.ret ?_|refine AWp.skip ?_|refine AWp.exit ?_|(refine pk2 (fun h=>?_) (fun h=>?_)<;>(try first|exact h.elim|obtain rfl:(_:Bool)=true:=h|obtain rfl:(_:Bool)=false:=h))|refine zac (fun h=>?_) ?_|refine zaa hM (hc _ (zat hlt)) ?_|(refine hQ _ _ _ rfl ?_;clear hQ hR hE hM)|(refine hR _ _ (hQ _ _ _ rfl ?_);clear hQ hR hE hM)|(refine zaf ?_ ?_;focus first|omega|(refine zad ?_;(refine no_implicit_lambda% (st ?_);try with_reducible exact True.intro);done)))<;>try (refine no_implicit_lambda% (st ?_);try with_reducible exact True.intro)))
  ·rw[←hg,if_pos h]
  ·exact ⟨k+1,by omega,⟨by omega,by rw[←hg,if_neg (by rw[h];simp)];rfl⟩,(by (try dsimp only);(first|omega|(simp;done)|(simp;omega)))⟩
 ·rw[List.drop_eq_nil_of_le hge]at hg
  repeat' (first|refine zab [0,1,4,5,7,8,9,16] fun K hK=>?_|refine AWp.block ?_|(refine hK.go ?_;clear hK K)|refine Cont.go (by assumption) ?_|(refine cnd2 rfl (fun h=>?_) (fun h=>?_)<;>(try first|exact h.elim|obtain rfl:(_:Bool)=true:=h|obtain rfl:(_:Bool)=false:=h)<;>first|(exfalso;omega)|skip)|((first|refine AWp.reg hE hM ?_|refine AWp.regd hE hM ?_|refine AWp.ret ?_|refine AWp.skip ?_|refine AWp.exit ?_|(refine pk2 (fun h=>?_) (fun h=>?_)<;>(try first|exact h.elim|obtain rfl:(_:Bool)=true:=h|obtain rfl:(_:Bool)=false:=h))|refine zac (fun h=>?_) ?_|(refine hQ _ _ _ rfl ?_;clear hQ hR hE hM)|(refine hR _ _ (hQ _ _ _ rfl ?_);clear hQ hR hE hM)|(refine zaf ?_ ?_;focus first|omega|(refine zad ?_;(refine no_implicit_lambda% (st ?_);try with_reducible exact True.intro);done)))<;>try (refine no_implicit_lambda% (st ?_);try with_reducible exact True.intro)))
  rw[←hg];rfl
theorem znI (hH:HasAll P inv) {jc:Nat} {caps:List AV} {p:Switch→Bool} (l:List Switch) (hc:∀ x∈l,PC P inv jc ([.agg x.c]++caps) (·=.b (p x))) (hl:l.length≤1000000000):PC P inv 97 [.sl 3 (l.map Switch.c),.fn jc caps] (·=.n (zcY p 0 l)):=by
 refine zae (F:=cd97) (hH.has _ _ rfl) (Nat.le_of_ble_eq_true rfl) fun w0 M Q hM hQ hR=>?_;have hE:=hH.callable;dsimp only[cd97,qm,ql,qf,qi,qb,qc,qp,qv,qN,qT,qF,qt]at hQ ⊢
 repeat' (first|refine zab [0,1,4,5,7,8,9,16] fun K hK=>?_|refine AWp.block ?_|(refine hK.go ?_;clear hK K)|refine Cont.go (by assumption) ?_|(refine cnd2 rfl (fun h=>?_) (fun h=>?_)<;>(try first|exact h.elim|obtain rfl:(_:Bool)=true:=h|obtain rfl:(_:Bool)=false:=h)<;>first|(exfalso;omega)|skip)|((first|refine AWp.reg hE hM ?_|refine AWp.regd hE hM ?_|refine AWp.ret ?_|refine AWp.skip ?_|refine AWp.exit ?_|(refine pk2 (fun h=>?_) (fun h=>?_)<;>(try first|exact h.elim|obtain rfl:(_:Bool)=true:=h|obtain rfl:(_:Bool)=false:=h))|refine zac (fun h=>?_) ?_|(refine hQ _ _ _ rfl ?_;clear hQ hR hE hM)|(refine hR _ _ (hQ _ _ _ rfl ?_);clear hQ hR hE hM)|(refine zaf ?_ ?_;focus first|omega|(refine zad ?_;(refine no_implicit_lambda% (st ?_);try with_reducible exact True.intro);done)))<;>try (refine no_implicit_lambda% (st ?_);try with_reducible exact True.intro)))
 refine zaT (fun k:Nat=>[(0,.sl 3 (l.map Switch.c)),(1,.fn jc caps),(7,.n l.length),(8,.n k)]) (fun k:Nat=>[]) (fun k:Nat=>k≤l.length∧zcY p k (l.drop k)=zcY p 0 l) (fun k=>l.length-k) 0 ⟨Nat.zero_le _,by first|rfl|simp⟩ (by (try dsimp only);(refine no_implicit_lambda% (st ?_);try with_reducible exact True.intro)<;>omega) (by (try dsimp only);(refine no_implicit_lambda% (st ?_);try with_reducible exact True.intro)<;>omega) ?_;rintro k ⟨hk,hg⟩;rcases Nat.lt_or_ge k l.length with hlt|hge
 ·rw[zao hlt]at hg
  rw[zcY]at hg
  repeat' (first|refine zab [0,1,4,5,7,8,9,16] fun K hK=>?_|refine AWp.block ?_|(refine hK.go ?_;clear hK K)|refine Cont.go (by assumption) ?_|(refine cnd2 rfl (fun h=>?_) (fun h=>?_)<;>(try first|exact h.elim|obtain rfl:(_:Bool)=true:=h|obtain rfl:(_:Bool)=false:=h)<;>first|(exfalso;omega)|skip)|((first|refine AWp.reg hE hM ?_|refine AWp.regd hE hM ?_|refine AWp.ret ?_|refine AWp.skip ?_|refine AWp.exit ?_|(refine pk2 (fun h=>?_) (fun h=>?_)<;>(try first|exact h.elim|obtain rfl:(_:Bool)=true:=h|obtain rfl:(_:Bool)=false:=h))|refine zac (fun h=>?_) ?_|refine zaa hM (hc _ (zat hlt)) ?_|(refine hQ _ _ _ rfl ?_;clear hQ hR hE hM)|(refine hR _ _ (hQ _ _ _ rfl ?_);clear hQ hR hE hM)|(refine zaf ?_ ?_;focus first|omega|(refine zad ?_;(refine no_implicit_lambda% (st ?_);try with_reducible exact True.intro);done)))<;>try (refine no_implicit_lambda% (st ?_);try with_reducible exact True.intro)))
  ·rw[←hg,if_pos h]
  ·exact ⟨k+1,by omega,⟨by omega,by rw[←hg,if_neg (by rw[h];simp)];rfl⟩,(by (try dsimp only);(first|omega|(simp;done)|(simp;omega)))⟩
 ·rw[List.drop_eq_nil_of_le hge]at hg
  repeat' (first|refine zab [0,1,4,5,7,8,9,16] fun K hK=>?_|refine AWp.block ?_|(refine hK.go ?_;clear hK K)|refine Cont.go (by assumption) ?_|(refine cnd2 rfl (fun h=>?_) (fun h=>?_)<;>(try first|exact h.elim|obtain rfl:(_:Bool)=true:=h|obtain rfl:(_:Bool)=false:=h)<;>first|(exfalso;omega)|skip)|((first|refine AWp.reg hE hM ?_|refine AWp.regd hE hM ?_|refine AWp.ret ?_|refine AWp.skip ?_|refine AWp.exit ?_|(refine pk2 (fun h=>?_) (fun h=>?_)<;>(try first|exact h.elim|obtain rfl:(_:Bool)=true:=h|obtain rfl:(_:Bool)=false:=h))|refine zac (fun h=>?_) ?_|(refine hQ _ _ _ rfl ?_;clear hQ hR hE hM)|(refine hR _ _ (hQ _ _ _ rfl ?_);clear hQ hR hE hM)|(refine zaf ?_ ?_;focus first|omega|(refine zad ?_;(refine no_implicit_lambda% (st ?_);try with_reducible exact True.intro);done)))<;>try (refine no_implicit_lambda% (st ?_);try with_reducible exact True.intro)))
  rw[←hg];rfl
end Go.Lev
namespace Go.Lev
open Go.Eng
set_option maxRecDepth 10000
set_option maxHeartbeats 4000000
variable {P:Program} {inv:Nat→Option Nat}
theorem zbR {α:Type} [Inhabited α] (p:α→Bool):∀ (l:List α) (k:Int),(zcY p k l=-1∧l.find? p=none)∨∃ i:Nat,i<l.length∧zcY p k l=k+i∧l.find? p=some (nth l i)
 |[],k=>.inl ⟨rfl,rfl⟩
 |x::r,k=>by
  simp only[zcY,List.find?_cons]
  cases h:p x with
  |true=>exact .inr ⟨0,by simp,by simp,rfl⟩
  |false =>
   rcases zbR p r (k+1) with ⟨h1,h2⟩|⟨i,h1,h2,h3⟩
   ·exact .inl ⟨by simpa using h1,h2⟩
   ·exact .inr ⟨i+1,by simp;omega,by simp[h2];omega,by simp only[h3];rfl⟩
theorem is_rte (hH:HasAll P inv) (hI:HasIds P inv) (n:Int) (x:Rte):PC P inv 139 ([.agg x.c]++[.ip 1 [[.n n]] 0 0]) (·=.b (decide (x.id=n))):=by
 refine zae (F:=cd139) (hH.has _ _ rfl) (Nat.le_of_ble_eq_true rfl) fun w0 M Q hM hQ hR=>?_;have hE:=hH.callable;dsimp only[cd139,qm,ql,qf,qi,qb,qc,qp,qv,qN,qT,qF,qt]at hQ ⊢
 repeat' (first|refine zab [0,1,2,3] fun K hK=>?_|refine AWp.block ?_|(refine hK.go ?_;clear hK K)|refine Cont.go (by assumption) ?_|(refine cnd2 rfl (fun h=>?_) (fun h=>?_)<;>(try first|exact h.elim|obtain rfl:(_:Bool)=true:=h|obtain rfl:(_:Bool)=false:=h)<;>first|(exfalso;omega)|skip)|((first|refine AWp.reg hE hM ?_|refine AWp.regd hE hM ?_|refine AWp.ret ?_|refine AWp.skip ?_|refine AWp.exit ?_|(refine pk2 (fun h=>?_) (fun h=>?_)<;>(try first|exact h.elim|obtain rfl:(_:Bool)=true:=h|obtain rfl:(_:Bool)=false:=h))|refine zac (fun h=>?_) ?_|refine zaa hM (hI.rte _) ?_|(refine hQ _ _ _ rfl ?_;clear hQ hR hE hM)|(refine hR _ _ (hQ _ _ _ rfl ?_);clear hQ hR hE hM)|(refine zaf ?_ ?_;focus first|omega|(refine zad ?_;(refine no_implicit_lambda% (st ?_);try with_reducible exact True.intro);done)))<;>try (refine no_implicit_lambda% (st ?_);try with_reducible exact True.intro)))
 all_goals (first|rfl|(grind[])|(simp[ *];done)|(simp_all [];done)|(simp_all []<;>first|omega|((repeat' split)<;>first|rfl|(exfalso;omega))))
def Rte.z:Rte:=⟨0,0,0,[],[],[],0⟩
theorem find_rte (hH:HasAll P inv) (hI:HasIds P inv) (l:List Rte) (hl:l.length≤1000000000) (n:Int):PC P inv 127 [.sl 7 (l.map Rte.c),.n n] (·=.tup [.agg ((l.find? fun x=>decide (x.id=n)).getD Rte.z).c,.b (l.find? fun x=>decide (x.id=n)).isSome]):=by
 have hs:=zbR (fun x:Rte=>decide (x.id=n)) l 0
 refine zae (F:=cd127) (hH.has _ _ rfl) (Nat.le_of_ble_eq_true rfl) fun w0 M Q hM hQ hR=>?_;have hE:=hH.callable;dsimp only[cd127,qm,ql,qf,qi,qb,qc,qp,qv,qN,qT,qF,qt]at hQ ⊢
 repeat' (first|refine zab [0,1,3,4,5,6,7,12] fun K hK=>?_|refine AWp.block ?_|(refine hK.go ?_;clear hK K)|refine Cont.go (by assumption) ?_|(refine cnd2 rfl (fun h=>?_) (fun h=>?_)<;>(try first|exact h.elim|obtain rfl:(_:Bool)=true:=h|obtain rfl:(_:Bool)=false:=h)<;>first|(exfalso;omega)|skip)|((first|refine AWp.reg hE hM ?_|refine AWp.regd hE hM ?_|refine AWp.ret ?_|refine AWp.skip ?_|refine AWp.exit ?_|(refine pk2 (fun h=>?_) (fun h=>?_)<;>(try first|exact h.elim|obtain rfl:(_:Bool)=true:=h|obtain rfl:(_:Bool)=false:=h))|refine zac (fun h=>?_) ?_|(refine zam hM 4 ( idx_rte hH l (fun x _=>is_rte hH hI n x) hl) ?_ rfl ?_;(focus ((refine no_implicit_lambda% (st ?_);try with_reducible exact True.intro)<;>fail)))|(refine hQ _ _ _ rfl ?_;clear hQ hR hE hM)|(refine hR _ _ (hQ _ _ _ rfl ?_);clear hQ hR hE hM)|(refine zaf ?_ ?_;focus first|omega|(refine zad ?_;(refine no_implicit_lambda% (st ?_);try with_reducible exact True.intro);done)))<;>try (refine no_implicit_lambda% (st ?_);try with_reducible exact True.intro)))
 ·rcases hs with ⟨h1,h2⟩|⟨i,h1,h2,h3⟩
  ·rw[h2];rfl
  ·omega
 ·rcases hs with ⟨h1,_⟩|⟨i,h1,h2,h3⟩
  ·omega
  ·rw[show (zcY (fun x:Rte=>decide (x.id=n)) 0 l).toNat=i by omega]
   (refine no_implicit_lambda% (st ?_);try with_reducible exact True.intro)
   repeat' (first|refine zab [0,1,3,4,5,6,7,12] fun K hK=>?_|refine AWp.block ?_|(refine hK.go ?_;clear hK K)|refine Cont.go (by assumption) ?_|(refine cnd2 rfl (fun h=>?_) (fun h=>?_)<;>(try first|exact h.elim|obtain rfl:(_:Bool)=true:=h|obtain rfl:(_:Bool)=false:=h)<;>first|(exfalso;omega)|skip)|((first|refine AWp.reg hE hM ?_|refine AWp.regd hE hM ?_|refine AWp.ret ?_|refine AWp.skip ?_|refine AWp.exit ?_|(refine pk2 (fun h=>?_) (fun h=>?_)<;>(try first|exact h.elim|obtain rfl:(_:Bool)=true:=h|obtain rfl:(_:Bool)=false:=h))|refine zac (fun h=>?_) ?_|(refine hQ _ _ _ rfl ?_;clear hQ hR hE hM)|(refine hR _ _ (hQ _ _ _ rfl ?_);clear hQ hR hE hM)|(refine zaf ?_ ?_;focus first|omega|(refine zad ?_;(refine no_implicit_lambda% (st ?_);try with_reducible exact True.intro);done)))<;>try (refine no_implicit_lambda% (st ?_);try with_reducible exact True.intro)))
   rw[h3];rfl
theorem is_sgn (hH:HasAll P inv) (hI:HasIds P inv) (n:Int) (x:Sgn):PC P inv 144 ([.agg x.c]++[.ip 1 [[.n n]] 0 0]) (·=.b (decide (x.id=n))):=by
 refine zae (F:=cd144) (hH.has _ _ rfl) (Nat.le_of_ble_eq_true rfl) fun w0 M Q hM hQ hR=>?_;have hE:=hH.callable;dsimp only[cd144,qm,ql,qf,qi,qb,qc,qp,qv,qN,qT,qF,qt]at hQ ⊢
 repeat' (first|refine zab [0,1,2,3] fun K hK=>?_|refine AWp.block ?_|(refine hK.go ?_;clear hK K)|refine Cont.go (by assumption) ?_|(refine cnd2 rfl (fun h=>?_) (fun h=>?_)<;>(try first|exact h.elim|obtain rfl:(_:Bool)=true:=h|obtain rfl:(_:Bool)=false:=h)<;>first|(exfalso;omega)|skip)|((first|refine AWp.reg hE hM ?_|refine AWp.regd hE hM ?_|refine AWp.ret ?_|refine AWp.skip ?_|refine AWp.exit ?_|(refine pk2 (fun h=>?_) (fun h=>?_)<;>(try first|exact h.elim|obtain rfl:(_:Bool)=true:=h|obtain rfl:(_:Bool)=false:=h))|refine zac (fun h=>?_) ?_|refine zaa hM (hI.sgn _) ?_|(refine hQ _ _ _ rfl ?_;clear hQ hR hE hM)|(refine hR _ _ (hQ _ _ _ rfl ?_);clear hQ hR hE hM)|(refine zaf ?_ ?_;focus first|omega|(refine zad ?_;(refine no_implicit_lambda% (st ?_);try with_reducible exact True.intro);done)))<;>try (refine no_implicit_lambda% (st ?_);try with_reducible exact True.intro)))
 all_goals (first|rfl|(grind[])|(simp[ *];done)|(simp_all [];done)|(simp_all []<;>first|omega|((repeat' split)<;>first|rfl|(exfalso;omega))))
def Sgn.z:Sgn:=⟨0,0,0⟩
theorem zlj (hH:HasAll P inv) (hI:HasIds P inv) (l:List Sgn) (hl:l.length≤1000000000) (n:Int):PC P inv 136 [.sl 3 (l.map Sgn.c),.n n] (·=.tup [.agg ((l.find? fun x=>decide (x.id=n)).getD Sgn.z).c,.b (l.find? fun x=>decide (x.id=n)).isSome]):=by
 have hs:=zbR (fun x:Sgn=>decide (x.id=n)) l 0
 refine zae (F:=cd136) (hH.has _ _ rfl) (Nat.le_of_ble_eq_true rfl) fun w0 M Q hM hQ hR=>?_;have hE:=hH.callable;dsimp only[cd136,qm,ql,qf,qi,qb,qc,qp,qv,qN,qT,qF,qt]at hQ ⊢
 repeat' (first|refine zab [0,1,3,4,5,6,7,12] fun K hK=>?_|refine AWp.block ?_|(refine hK.go ?_;clear hK K)|refine Cont.go (by assumption) ?_|(refine cnd2 rfl (fun h=>?_) (fun h=>?_)<;>(try first|exact h.elim|obtain rfl:(_:Bool)=true:=h|obtain rfl:(_:Bool)=false:=h)<;>first|(exfalso;omega)|skip)|((first|refine AWp.reg hE hM ?_|refine AWp.regd hE hM ?_|refine AWp.ret ?_|refine AWp.skip ?_|refine AWp.exit ?_|(refine pk2 (fun h=>?_) (fun h=>?_)<;>(try first|exact h.elim|obtain rfl:(_:Bool)=true:=h|obtain rfl:(_:Bool)=false:=h))|refine zac (fun h=>?_) ?_|(refine zam hM 4 ( idx_sgn hH l (fun x _=>is_sgn hH hI n x) hl) ?_ rfl ?_;(focus ((refine no_implicit_lambda% (st ?_);try with_reducible exact True.intro)<;>fail)))|(refine hQ _ _ _ rfl ?_;clear hQ hR hE hM)|(refine hR _ _ (hQ _ _ _ rfl ?_);clear hQ hR hE hM)|(refine zaf ?_ ?_;focus first|omega|(refine zad ?_;(refine no_implicit_lambda% (st ?_);try with_reducible exact True.intro);done)))<;>try (refine no_implicit_lambda% (st ?_);try with_reducible exact True.intro)))
 ·rcases hs with ⟨h1,h2⟩|⟨i,h1,h2,h3⟩
  ·rw[h2];rfl
  ·omega
 ·rcases hs with ⟨h1,_⟩|⟨i,h1,h2,h3⟩
  ·omega
  ·rw[show (zcY (fun x:Sgn=>decide (x.id=n)) 0 l).toNat=i by omega]
   (refine no_implicit_lambda% (st ?_);try with_reducible exact True.intro)
   repeat' (first|refine zab [0,1,3,4,5,6,7,12] fun K hK=>?_|refine AWp.block ?_|(refine hK.go ?_;clear hK K)|refine Cont.go (by assumption) ?_|(refine cnd2 rfl (fun h=>?_) (fun h=>?_)<;>(try first|exact h.elim|obtain rfl:(_:Bool)=true:=h|obtain rfl:(_:Bool)=false:=h)<;>first|(exfalso;omega)|skip)|((first|refine AWp.reg hE hM ?_|refine AWp.regd hE hM ?_|refine AWp.ret ?_|refine AWp.skip ?_|refine AWp.exit ?_|(refine pk2 (fun h=>?_) (fun h=>?_)<;>(try first|exact h.elim|obtain rfl:(_:Bool)=true:=h|obtain rfl:(_:Bool)=false:=h))|refine zac (fun h=>?_) ?_|(refine hQ _ _ _ rfl ?_;clear hQ hR hE hM)|(refine hR _ _ (hQ _ _ _ rfl ?_);clear hQ hR hE hM)|(refine zaf ?_ ?_;focus first|omega|(refine zad ?_;(refine no_implicit_lambda% (st ?_);try with_reducible exact True.intro);done)))<;>try (refine no_implicit_lambda% (st ?_);try with_reducible exact True.intro)))
   rw[h3];rfl
theorem is_pnt (hH:HasAll P inv) (hI:HasIds P inv) (n:Int) (x:Pnt):PC P inv 145 ([.agg x.c]++[.ip 1 [[.n n]] 0 0]) (·=.b (decide (x.id=n))):=by
 refine zae (F:=cd145) (hH.has _ _ rfl) (Nat.le_of_ble_eq_true rfl) fun w0 M Q hM hQ hR=>?_;have hE:=hH.callable;dsimp only[cd145,qm,ql,qf,qi,qb,qc,qp,qv,qN,qT,qF,qt]at hQ ⊢
 repeat' (first|refine zab [0,1,2,3] fun K hK=>?_|refine AWp.block ?_|(refine hK.go ?_;clear hK K)|refine Cont.go (by assumption) ?_|(refine cnd2 rfl (fun h=>?_) (fun h=>?_)<;>(try first|exact h.elim|obtain rfl:(_:Bool)=true:=h|obtain rfl:(_:Bool)=false:=h)<;>first|(exfalso;omega)|skip)|((first|refine AWp.reg hE hM ?_|refine AWp.regd hE hM ?_|refine AWp.ret ?_|refine AWp.skip ?_|refine AWp.exit ?_|(refine pk2 (fun h=>?_) (fun h=>?_)<;>(try first|exact h.elim|obtain rfl:(_:Bool)=true:=h|obtain rfl:(_:Bool)=false:=h))|refine zac (fun h=>?_) ?_|refine zaa hM (hI.pnt _) ?_|(refine hQ _ _ _ rfl ?_;clear hQ hR hE hM)|(refine hR _ _ (hQ _ _ _ rfl ?_);clear hQ hR hE hM)|(refine zaf ?_ ?_;focus first|omega|(refine zad ?_;(refine no_implicit_lambda% (st ?_);try with_reducible exact True.intro);done)))<;>try (refine no_implicit_lambda% (st ?_);try with_reducible exact True.intro)))
 all_goals (first|rfl|(grind[])|(simp[ *];done)|(simp_all [];done)|(simp_all []<;>first|omega|((repeat' split)<;>first|rfl|(exfalso;omega))))
def Pnt.z:Pnt:=⟨0,0⟩
theorem find_pnt (hH:HasAll P inv) (hI:HasIds P inv) (l:List Pnt) (hl:l.length≤1000000000) (n:Int):PC P inv 137 [.sl 2 (l.map Pnt.c),.n n] (·=.tup [.agg ((l.find? fun x=>decide (x.id=n)).getD Pnt.z).c,.b (l.find? fun x=>decide (x.id=n)).isSome]):=by
 have hs:=zbR (fun x:Pnt=>decide (x.id=n)) l 0
 refine zae (F:=cd137) (hH.has _ _ rfl) (Nat.le_of_ble_eq_true rfl) fun w0 M Q hM hQ hR=>?_;have hE:=hH.callable;dsimp only[cd137,qm,ql,qf,qi,qb,qc,qp,qv,qN,qT,qF,qt]at hQ ⊢
 repeat' (first|refine zab [0,1,3,4,5,6,7,12] fun K hK=>?_|refine AWp.block ?_|(refine hK.go ?_;clear hK K)|refine Cont.go (by assumption) ?_|(refine cnd2 rfl (fun h=>?_) (fun h=>?_)<;>(try first|exact h.elim|obtain rfl:(_:Bool)=true:=h|obtain rfl:(_:Bool)=false:=h)<;>first|(exfalso;omega)|skip)|((first|refine AWp.reg hE hM ?_|refine AWp.regd hE hM ?_|refine AWp.ret ?_|refine AWp.skip ?_|refine AWp.exit ?_|(refine pk2 (fun h=>?_) (fun h=>?_)<;>(try first|exact h.elim|obtain rfl:(_:Bool)=true:=h|obtain rfl:(_:Bool)=false:=h))|refine zac (fun h=>?_) ?_|(refine zam hM 4 ( zkv hH l (fun x _=>is_pnt hH hI n x) hl) ?_ rfl ?_;(focus ((refine no_implicit_lambda% (st ?_);try with_reducible exact True.intro)<;>fail)))|(refine hQ _ _ _ rfl ?_;clear hQ hR hE hM)|(refine hR _ _ (hQ _ _ _ rfl ?_);clear hQ hR hE hM)|(refine zaf ?_ ?_;focus first|omega|(refine zad ?_;(refine no_implicit_lambda% (st ?_);try with_reducible exact True.intro);done)))<;>try (refine no_implicit_lambda% (st ?_);try with_reducible exact True.intro)))
 ·rcases hs with ⟨h1,h2⟩|⟨i,h1,h2,h3⟩
  ·rw[h2];rfl
  ·omega
 ·rcases hs with ⟨h1,_⟩|⟨i,h1,h2,h3⟩
  ·omega
  ·rw[show (zcY (fun x:Pnt=>decide (x.id=n)) 0 l).toNat=i by omega]
   (refine no_implicit_lambda% (st ?_);try with_reducible exact True.intro)
   repeat' (first|refine zab [0,1,3,4,5,6,7,12] fun K hK=>?_|refine AWp.block ?_|(refine hK.go ?_;clear hK K)|refine Cont.go (by assumption) ?_|(refine cnd2 rfl (fun h=>?_) (fun h=>?_)<;>(try first|exact h.elim|obtain rfl:(_:Bool)=true:=h|obtain rfl:(_:Bool)=false:=h)<;>first|(exfalso;omega)|skip)|((first|refine AWp.reg hE hM ?_|refine AWp.regd hE hM ?_|refine AWp.ret ?_|refine AWp.skip ?_|refine AWp.exit ?_|(refine pk2 (fun h=>?_) (fun h=>?_)<;>(try first|exact h.elim|obtain rfl:(_:Bool)=true:=h|obtain rfl:(_:Bool)=false:=h))|refine zac (fun h=>?_) ?_|(refine hQ _ _ _ rfl ?_;clear hQ hR hE hM)|(refine hR _ _ (hQ _ _ _ rfl ?_);clear hQ hR hE hM)|(refine zaf ?_ ?_;focus first|omega|(refine zad ?_;(refine no_implicit_lambda% (st ?_);try with_reducible exact True.intro);done)))<;>try (refine no_implicit_lambda% (st ?_);try with_reducible exact True.intro)))
   rw[h3];rfl
end Go.Lev
namespace Go.Lev
open Go.Eng
set_option maxRecDepth 10000
set_option maxHeartbeats 4000000
variable {P:Program} {inv:Nat→Option Nat}
theorem znG (f:Nat→Option (List AV)) (k:IntKind) (l:List Int):zbN f (l.map (AV.i k))=l.map (AV.i k):=zb4 f _ (zct k l)
theorem zoi (f:Nat→Option (List AV)) (l:List Bool):zbN f (l.map AV.b)=l.map AV.b:=zb4 f _ (zd1 l)
attribute [go_sem] znG zoi
theorem idxG_any {α:Type} [Inhabited α] (p:α→Bool) (l:List α):decide (0≤zcY p 0 l)=l.any p:=by
 have h:∀ (l:List α) (k:Int),0≤k→(0≤zcY p k l↔l.any p=true):=by
  intro l
  induction l with
  |nil=>intro k _;simp[zcY]
  |cons x r ih =>
   intro k hk
   rw[zcY,List.any_cons]
   cases h:p x with
   |true=>simp[hk]
   |false=>simpa using ih (k+1) (by omega)
 have:=h l 0 (by omega)
 grind
theorem any_pnt (hH:HasAll P inv) {jc:Nat} {caps:List AV} {p:Pnt→Bool} (l:List Pnt) (hc:∀ x∈l,PC P inv jc ([.agg x.c]++caps) (·=.b (p x))) (hl:l.length≤1000000000):PC P inv 91 [.sl 2 (l.map Pnt.c),.fn jc caps] (·=.b (l.any p)):=by
 rw[←idxG_any]
 refine zae (F:=cd91) (hH.has _ _ rfl) (Nat.le_of_ble_eq_true rfl) fun w0 M Q hM hQ hR=>?_;have hE:=hH.callable;dsimp only[cd91,qm,ql,qf,qi,qb,qc,qp,qv,qN,qT,qF,qt]at hQ ⊢
 repeat' (first|refine zab [0,1,4] fun K hK=>?_|refine AWp.block ?_|(refine hK.go ?_;clear hK K)|refine Cont.go (by assumption) ?_|(refine cnd2 rfl (fun h=>?_) (fun h=>?_)<;>(try first|exact h.elim|obtain rfl:(_:Bool)=true:=h|obtain rfl:(_:Bool)=false:=h)<;>first|(exfalso;omega)|skip)|((first|refine AWp.reg hE hM ?_|refine AWp.regd hE hM ?_|refine AWp.ret ?_|refine AWp.skip ?_|refine AWp.exit ?_|(refine pk2 (fun h=>?_) (fun h=>?_)<;>(try first|exact h.elim|obtain rfl:(_:Bool)=true:=h|obtain rfl:(_:Bool)=false:=h))|refine zac (fun h=>?_) ?_|refine zaa hM (zkv hH l hc hl) ?_|(refine hQ _ _ _ rfl ?_;clear hQ hR hE hM)|(refine hR _ _ (hQ _ _ _ rfl ?_);clear hQ hR hE hM)|(refine zaf ?_ ?_;focus first|omega|(refine zad ?_;(refine no_implicit_lambda% (st ?_);try with_reducible exact True.intro);done)))<;>try (refine no_implicit_lambda% (st ?_);try with_reducible exact True.intro)))
end Go.Lev
