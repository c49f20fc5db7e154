/-
  A part of the engine that walks the functions' codes, and of the functions' contracts. Conditions: those that each theorem names.
-/
import Derived.Test.YtnjpcpdmnadadaaGreatL2
import Derived.IntWalk
import Derived.Laws.IdiomCopy
set_option linter.unusedSimpArgs false
set_option linter.unusedVariables false
set_option linter.unusedSectionVars false
namespace Go.Eng
open Go.RowKit
section
variable {P:Program} {inv:Nat→Option Nat} {w0:World} {M:Nat→Prop} {n N:Nat} {φ:AF} {σ:AS}
theorem Mem.truncW {β:Nat→Nat} {w:World} {l l' k:Nat} {cs:List AV} (h:Mem inv w0 M σ β w) (hg:zax σ l=some (.cells cs true)) (hl:zaR σ≤l') (hk:k≤cs.length) {N1:Nat} (hN:N1≤l') :
  Mem inv w0 M (zaQ (zir σ l) l' (.cells (cs.take k) true)) (upd β l' (β l)) w∧Ext N1 (ctx inv M σ β w) (ctx inv M (zaQ (zir σ l) l' (.cells (cs.take k) true)) (upd β l' (β l)) w) ∧
   zah (upd β l' (β l)) w (zaQ (zir σ l) l' (.cells (cs.take k) true)) l'=some ⟨β l,k,zaG w (β l),true⟩:=by
 have hno:∀ l2 o,zax σ l2=some o→l2≠l':=fun l2 o e e'=>by have:=(zap σ l2 o e).1;omega
 have hget:∀ l2 o,l2≠l'→zax (zaQ (zir σ l) l' (.cells (cs.take k) true)) l2=some o→l2≠l∧zax σ l2=some o:=by
  intro l2 o hne e
  rw[zaf,if_neg hne,zfi]at e
  split at e
  ·cases e
  ·exact ⟨by assumption,e⟩
 have hself:zax (zaQ (zir σ l) l' (.cells (cs.take k) true)) l'=some (.cells (cs.take k) true):=by rw[zaf,if_pos rfl]
 have hpl:zah (upd β l' (β l)) w (zaQ (zir σ l) l' (.cells (cs.take k) true)) l'=some ⟨β l,k,zaG w (β l),true⟩:=by
  unfold zah
  rw[hself]
  simp[zaZ,Nat.min_eq_left hk]
 have hx:∀ N1,N1≤l'→Ext N1 (ctx inv M σ β w) (ctx inv M (zaQ (zir σ l) l' (.cells (cs.take k) true)) (upd β l' (β l)) w):=by
  intro N1 hN
  refine ⟨⟨rfl,Nat.le_refl _,fun _ _ _=>rfl,fun b _ hA=>?_⟩,fun l2 hl2 p' hp'=>?_⟩
  ·rcases hA with hm|⟨l2,o,e,hr,hb⟩
   ·exact .inl hm
   ·by_cases hne:l2=l'
    ·subst hne
     rw[zaZ]at hb
     exact .inr ⟨l,_,hg,rfl,hb⟩
    ·rw[zaB β _ hne]at hb
     exact .inr ⟨l2,o,(hget l2 o hne e).2,hr,hb⟩
  ·have hne:l2≠l':=by omega
   refine ⟨p', ?_,Nat.le_refl _,fun _=>rfl⟩
   have hp2:zah (upd β l' (β l)) w (zaQ (zir σ l) l' (.cells (cs.take k) true)) l2=some p':=hp'
   show zah β w σ l2=some p'
   unfold zah at hp2 ⊢
   cases e:zax (zaQ (zir σ l) l' (.cells (cs.take k) true)) l2 with
   |none=>rw[e]at hp2;cases hp2
   |some o=>rw[e]at hp2;rw[(hget l2 o hne e).2];simpa only[zaB β _ hne] using hp2
 refine ⟨⟨h.below,fun l1 l2 o1 o2 e1 e2 r1 r2 he=>?_,fun l1 o1 e1 r1=>?_,fun l1 cs1 e1=>?_,fun l1 cs1 e1=>?_,fun l1 kvs e1=>?_⟩,hx N1 hN,hpl⟩
 ·by_cases h1:l1=l'<;>by_cases h2:l2=l'
  ·rw[h1,h2]
  ·rw[h1,zaZ,zaB β _ h2]at he
   obtain ⟨q1,q2⟩:=hget l2 o2 h2 e2
   exact absurd (h.inj l l2 _ o2 hg q2 rfl r2 he).symm q1
  ·rw[h2,zaZ,zaB β _ h1]at he
   obtain ⟨q1,q2⟩:=hget l1 o1 h1 e1
   exact absurd (h.inj l1 l o1 _ q2 hg r1 rfl he) q1
  ·rw[zaB β _ h1,zaB β _ h2]at he
   exact h.inj l1 l2 o1 o2 (hget l1 o1 h1 e1).2 (hget l2 o2 h2 e2).2 r1 r2 he
 ·by_cases h1:l1=l'
  ·rw[h1,zaZ];exact h.own l _ hg rfl
  ·rw[zaB β _ h1];exact h.own l1 o1 (hget l1 o1 h1 e1).2 r1
 ·by_cases h1:l1=l'
  ·rw[h1,hself]at e1
   simp only[Option.some.injEq,AO.cells.injEq,and_true]at e1
   subst e1
   rw[h1,zaZ]
   obtain ⟨xs,ty,q1,q2,q3⟩:=h.cells l cs hg
   refine ⟨xs,ty,q1,by rw[List.length_take];omega, ?_⟩
   have hb:zab (cs.take k)≤l':=zc1 fun x hx=>Nat.le_trans (zcz (zap σ l _ hg).2 x (List.mem_of_mem_take hx)) hl
   refine (hx l' (Nat.le_refl _)).relCs (zat _ hb) ?_
   have:=zbT k q3
   rw[List.take_take,Nat.min_eq_left hk]at this
   rw[List.length_take,Nat.min_eq_left hk]
   exact this
  ·rw[zaB β _ h1]
   obtain ⟨q1,q2⟩:=hget l1 _ h1 e1
   obtain ⟨xs,ty,q3,q4,q5⟩:=h.cells l1 cs1 q2
   exact ⟨xs,ty,q3,q4,(hx l' (Nat.le_refl _)).relCs (zat _ (Nat.le_trans (zap σ l1 _ q2).2 hl)) q5⟩
 ·by_cases h1:l1=l'
  ·rw[h1,hself]at e1;simp at e1
  ·exact h.ghost l1 cs1 (hget l1 _ h1 e1).2
 ·by_cases h1:l1=l'
  ·rw[h1,hself]at e1;simp at e1
  ·rw[zaB β _ h1];exact h.maps l1 kvs (hget l1 _ h1 e1).2
def cutW (N:Nat) (r:AV) (σ:List (Nat×AO)):AV×List (Nat×AO) :=
 match r with
 |.sm l ver off n sz=>match zax σ l with
  |some (.cells cs true)=>if Nat.blt l N=false∧off=0∧n*sz<ver∧cs.length=ver then (.sm (mx N (zaR σ)) (n*sz) 0 n sz,zaQ (zir σ l) (mx N (zaR σ)) (.cells (cs.take (n*sz)) true)) else (r,σ)
  |_=>(r,σ)
 |_=>(r,σ)
theorem AC.truncW {j:Nat} {args:List AV} {R R':AV→AS→Prop} (h:AC P inv w0 M N j args σ R) (hr:∀ r σ',R r σ'→R' (cutW N r σ').1 (cutW N r σ').2):AC P inv w0 M N j args σ R':=by
 intro g hg β w vs hm hv
 refine (h g hg β w vs hm hv).mono ?_
 rintro e w' ⟨v,r,σ',β',k1,k2,k3,k4,k5⟩
 have h1:=hr r σ' k2
 unfold cutW at h1
 split at h1
 ·rename_i l ver off n sz
  split at h1
  ·rename_i cs hgl
   split at h1
   ·rename_i hc
    obtain ⟨_,rfl,c1,c2⟩:=hc
    have ht:=k3.truncW (l:=l) (l':=mx N (zaR σ')) (k:=n*sz) hgl (zal _ _) (by omega) (N1:=N) (zaF _ _)
    refine ⟨v,_,_,_,k1,h1,ht.1,k4.trans ht.2.1, ?_⟩
    have hlive:zbL σ' l ver:=by unfold zbL;rw[hgl];exact c2
    obtain ⟨p,ad,cap,hp,hv',hb,rfl,hcap,hreal⟩:=zcI hlive k5
    have hpe:p=⟨β' l,cs.length,zaG w' (β' l),true⟩:=by unfold zah at hp;rw[hgl]at hp;cases hp;rfl
    subst hpe
    simp only[if_true]at hreal
    simp only[rel]
    refine ⟨rfl,fun p' hp'=>?_⟩
    have:p'=⟨β' l,n*sz,zaG w' (β' l),true⟩:=by have:=(show zah _ _ _ _=some p' from hp').symm.trans ht.2.2;simpa using this
    subst this
    exact ⟨Nat.le_refl _,fun _=>⟨by omega,ad,cap,rfl,hcap,by simpa using hreal⟩⟩
   ·exact ⟨v,_,σ',β',k1,h1,k3,k4,k5⟩
  ·exact ⟨v,_,σ',β',k1,h1,k3,k4,k5⟩
 ·exact ⟨v,_,σ',β',k1,h1,k3,k4,k5⟩
theorem PO.trunc {j:Nat} {args:List AV} {ver k sz:Nat} {cs:List AV} (h:PO P inv j args (.sm 0 ver 0 k sz) [(0,.cells cs true)]) (hb:zab cs=0) (hl:cs.length=ver) (hlt:k*sz<ver) :
  PO P inv j args (.sm 1 (k*sz) 0 k sz) [(1,.cells (cs.take (k*sz)) true)]:=by
 intro w0 M hM
 refine (AC.truncW (R':=fun r σ=>r=.sm 1 (k*sz) 0 k sz∧σ=[(1,.cells (cs.take (k*sz)) true)]) (h w0 M hM) ?_)
 rintro r σ' ⟨rfl,rfl⟩
 have hs:mx 0 (zaR [(0,AO.cells cs true)])=1:=by simp[zaR,AO.bound,hb,mx]
 simp only[cutW,zax,if_true]
 rw[if_pos ⟨by trivial,by trivial,hlt,hl⟩,hs]
 exact ⟨rfl,by simp[zir,zaQ]⟩
theorem Mem.recell {β:Nat→Nat} {w:World} {k:Nat} {cs cs':List AV} {r:Bool} (hm:Mem inv w0 M σ β w) (hg:zax σ k=some (.cells cs r)) (hlen:cs'.length=cs.length) (hrel:r=true→∀ ys,relCs (ctx inv M σ β w) cs ys→relCs (ctx inv M σ β w) cs' ys) :
  Mem inv w0 M (zaQ σ k (.cells cs' r)) β w∧ctx inv M (zaQ σ k (.cells cs' r)) β w=ctx inv M σ β w:=by
 have hpl:zah β w (zaQ σ k (.cells cs' r))=zah β w σ:=by
  funext l
  unfold zah
  rw[zaf]
  by_cases h:l=k
  ·subst h;rw[if_pos rfl,hg];cases r<;>simp only[hlen]
  ·rw[if_neg h]
 have hav:avoid M (zaQ σ k (.cells cs' r)) β=avoid M σ β:=by
  funext b
  apply propext
  constructor
  ·rintro (h|⟨l,o,e,hr,hb⟩)
   ·exact .inl h
   ·rw[zaf]at e
    split at e
    ·rename_i h;subst h
     simp only[Option.some.injEq]at e;subst e
     exact .inr ⟨l,_,hg,by cases r<;>(first|exact hr|(simp[AO.real]at hr;done)|simp[AO.real]),hb⟩
    ·exact .inr ⟨l,o,e,hr,hb⟩
  ·rintro (h|⟨l,o,e,hr,hb⟩)
   ·exact .inl h
   ·by_cases h:l=k
    ·subst h
     rw[hg]at e
     simp only[Option.some.injEq]at e;subst e
     exact .inr ⟨l,.cells cs' r,by rw[zaf,if_pos rfl],by cases r<;>(first|exact hr|(simp[AO.real]at hr;done)|simp[AO.real]),hb⟩
    ·exact .inr ⟨l,o,by rw[zaf,if_neg h];exact e,hr,hb⟩
 have hctx:ctx inv M (zaQ σ k (.cells cs' r)) β w=ctx inv M σ β w:=by unfold ctx;rw[hpl,hav]
 have hback:∀ l o,zax (zaQ σ k (.cells cs' r)) l=some o→o.real=true→∃ o',zax σ l=some o'∧o'.real=true:=by
  intro l o e hr
  rw[zaf]at e
  split at e
  ·rename_i h;subst h
   simp only[Option.some.injEq]at e;subst e
   exact ⟨_,hg,by cases r<;>(first|exact hr|(simp[AO.real]at hr;done)|simp[AO.real])⟩
  ·exact ⟨o,e,hr⟩
 refine ⟨⟨hm.below,fun l l' o o' e e' hr hr' hb=>?_,fun l o e hr=>?_,fun l cs1 e=>?_,fun l cs1 e=>?_,fun l kvs e=>?_⟩,hctx⟩
 ·obtain ⟨o1,e1,r1⟩:=hback l o e hr
  obtain ⟨o2,e2,r2⟩:=hback l' o' e' hr'
  exact hm.inj l l' o1 o2 e1 e2 r1 r2 hb
 ·obtain ⟨o1,e1,r1⟩:=hback l o e hr
  exact hm.own l o1 e1 r1
 ·rw[hctx]
  rw[zaf]at e
  split at e
  ·rename_i h;subst h
   simp only[Option.some.injEq,AO.cells.injEq]at e
   obtain ⟨rfl,rfl⟩:=e
   obtain ⟨xs,ty,h1,h2,h3⟩:=hm.cells _ cs hg
   exact ⟨xs,ty,h1,by omega,by rw[hlen];exact hrel rfl _ h3⟩
  ·exact hm.cells l cs1 e
 ·rw[zaf]at e
  split at e
  ·rename_i h;subst h
   simp only[Option.some.injEq,AO.cells.injEq]at e
   obtain ⟨rfl,rfl⟩:=e
   have:=hm.ghost _ cs hg
   subst this
   exact List.length_eq_zero_iff.1 hlen
  ·exact hm.ghost l cs1 e
 ·rw[zaf]at e
  split at e
  ·cases e
  ·exact hm.maps l kvs e
theorem zhq {c:Ctx} {x0 x:AV} (hx:∀ y,rel c x0 y→rel c x y):∀ {cs:List AV} {ys:List Value} {i:Nat},cs[i]?=some x0→relCs c cs ys→relCs c (cs.set i x) ys
 |[],_,_,h,_=>by simp at h
 |z::cs,ys,0,h,r=>by
  simp only[List.getElem?_cons_zero,Option.some.injEq]at h
  subst h
  simp only[relCs,List.set_cons_zero]at r ⊢
  obtain ⟨y,ys',e,ho,r1,r2⟩:=r
  exact ⟨y,ys',e,ho,hx y r1,r2⟩
 |z::cs,ys,i+1,h,r=>by
  simp only[List.getElem?_cons_succ]at h
  simp only[relCs,List.set_cons_succ]at r ⊢
  obtain ⟨y,ys',e,ho,r1,r2⟩:=r
  exact ⟨y,ys',e,ho,r1,zhq hx h r2⟩
theorem zdF {c:ACode} {Q:Exit→AF→AS→Prop} (k i l sz:Nat) {cs:List AV} {r:Bool} (hk:zax σ k=some (.cells cs r)) (hi:cs[i]?=some (.s0 sz)) (h1:N≤l) (h2:zaC φ≤l) (h3:zaR σ≤l)
  (h:AWp P inv w0 M N n c Q φ (zaQ (zaQ σ l (.cells [] false)) k (.cells (cs.set i (.sm l 0 0 0 sz)) r))):AWp P inv w0 M N n c Q φ σ:=by
 intro c₀ hc β a w hs
 obtain ⟨hm,hx⟩:=hs.mem.empty h3
 have hkl:k≠l:=fun e=>by have:=(zap σ k _ hk).1;omega
 have hg:zax (zaQ σ l (.cells [] false)) k=some (.cells cs r):=by rw[zaf,if_neg hkl];exact hk
 obtain ⟨hm2,hctx⟩:=hm.recell (cs':=cs.set i (.sm l 0 0 0 sz)) hg (by simp) (fun _ ys hr=>zhq (x0:=.s0 sz) (fun y hy=>by
  have hy':rel (ctx inv M σ β w) (.s0 sz) y:=by simpa only[rel] using hy
  exact zhk hy') hi hr)
 refine Code.wp_mono ?_ (h c₀ hc β a w ⟨⟨fun j=>?_,hm2⟩,hs.size,hs.defers⟩)
 ·rintro e a' w' ⟨φ2,σ2,β2,q2,hst2,hext2⟩
  rw[hctx]at hext2
  exact ⟨φ2,σ2,β2,q2,hst2,(hx N h1).trans hext2⟩
 ·rw[hctx]
  exact (hx l (Nat.le_refl _)).rel (zaI _ (Nat.le_trans (zbC φ j) h2)) (hs.slots j)
theorem zac {j:Nat} {F:AFn} (hF:Has P inv j F) {args:List AV} {R:AV→AS→Prop} (hl:args.length≤F.ntmps)
  (h:∀ Q:Exit→AF→AS→Prop,(∀ φ σ r,zdP φ σ F.res=some r→R r σ→Q .ret φ σ)→(∀ φ σ,Q .ret φ σ→Q .normal φ σ)→AWp P inv w0 M N F.ntmps F.body Q (zk5 0 args) σ):AC P inv w0 M N j args σ R :=
 AC.body hF hl (h _ (fun _ _ r h1 h2=>⟨r,h1,h2⟩) fun _ _ h=>h)
def midK (A:Prop) (φ1:List (Nat×AV)) (σ1:List (Nat×AO)):List (Nat×AV)→List (Nat×AO)→Prop:=fun φ σ=>A∧(zgA φ1 φ∧ze7 σ1 σ)
theorem midK_app (A:Prop) (φ1:List (Nat×AV)) (σ1:List (Nat×AO)) (φ:List (Nat×AV)) (σ:List (Nat×AO)):midK A φ1 σ1 φ σ=(A∧(zgA φ1 φ∧ze7 σ1 σ)):=rfl
attribute [go_sem] midK_app
theorem AWp.mid (ks:List Nat) (A:Prop) {x y:ACode} {Q:Exit→AF→AS→Prop} (h1:AWp P inv w0 M N n x (zou (midK A (zdh ks φ) σ) Q) φ σ) (h2:A→AWp P inv w0 M N n y Q (zdh ks φ) σ):AWp P inv w0 M N n (.seq x y) Q φ σ :=
 AWp.seq fun K hK=>by
  refine AWp.mono ?_ h1
  intro e φ' σ' q
  cases e with
  |normal=>exact hK _ _ ((h2 q.1).sub q.2.1 q.2.2)
  |exit id=>exact q
  |goto l=>exact q
  |ret=>exact q
  |panic ch=>exact q
  |outgrown=>exact q
end
end Go.Eng
namespace Go.Lev
open Go.Eng
set_option maxRecDepth 10000
set_option maxHeartbeats 4000000
variable {P:Program} {inv:Nat→Option Nat}
structure Track where
 id:Int
 is:Int
 deriving DecidableEq,Inhabited
def Track.c (t:Track):List AV:=[.n t.id,.i .u8 t.is]
instance:Cells Track.c 2:=⟨fun _=>rfl,fun _=>rfl⟩
theorem Track.eq_iff (a b:Track):a=b↔a.id=b.id∧a.is=b.is:=by cases a;cases b;simp
structure Switch where
 id:Int
 lie:Int
 call:Int
 deriving DecidableEq,Inhabited
def Switch.c (t:Switch):List AV:=[.n t.id,.n t.lie,.n t.call]
instance:Cells Switch.c 3:=⟨fun _=>rfl,fun _=>rfl⟩
theorem Switch.eq_iff (a b:Switch):a=b↔a.id=b.id∧a.lie=b.lie∧a.call=b.call:=by cases a;cases b;simp
structure Lock where
 id:Int
 phase:Int
 gone:Int
 left:Int
 deriving DecidableEq,Inhabited
def Lock.c (t:Lock):List AV:=[.n t.id,.i .u8 t.phase,.n t.gone,.n t.left]
instance:Cells Lock.c 4:=⟨fun _=>rfl,fun _=>rfl⟩
theorem Lock.eq_iff (a b:Lock):a=b↔a.id=b.id∧a.phase=b.phase∧a.gone=b.gone∧a.left=b.left:=by cases a;cases b;simp
attribute [go_sem] Track.c Switch.c Lock.c
structure State where
 tracks:List Track
 switches:List Switch
 locks:List Lock
 deriving DecidableEq,Inhabited
def State.c (s:State):List AV:=[.sl 2 (s.tracks.map Track.c),.sl 3 (s.switches.map Switch.c),.sl 4 (s.locks.map Lock.c)]
instance:Cells State.c 3:=⟨fun _=>rfl,fun _=>rfl⟩
theorem State.eq_iff (a b:State):a=b↔a.tracks=b.tracks∧a.switches=b.switches∧a.locks=b.locks:=by cases a;cases b;simp
attribute [go_sem] State.c
def zaA {α β:Type} (p:α→β→Bool):List α→List β→Bool
 |[],[]=>true
 |x::xs,y::ys=>p x y&&zaA p xs ys
 |_,_=>false
theorem zb5 {α β:Type} {p:α→β→Bool}:∀ {a:List α} {b:List β},zaA p a b=true→a.length=b.length
 |[],[],_=>rfl
 |x::xs,y::ys,h=>by simp only[zaA,Bool.and_eq_true]at h;simp[zb5 h.2]
 |[],_::_,h=>by simp[zaA]at h
 |_::_,[],h=>by simp[zaA]at h
def zgG (s:State):Bool:=decide (200<(s.tracks.length:Int))||decide (200<(s.switches.length:Int))||decide (200<(s.locks.length:Int))
theorem zoW (hH:HasAll P inv) (s:State):PC P inv 8 [.agg s.c] (·=.b (zgG s)):=by
 refine PC.fn hH cd8 fun w0 M Q hM hE hQ hR=>?_;dsimp only[cd8,qm,ql,qf,qi,qb,qc,qp,qv,qN,qT,qF,qt]at hQ ⊢
 (repeat' first|refine zaa [0,1,2] fun K hK=>?_|(refine hK.go ?_;clear hK K)|with_reducible exact wT|refine wA ?_|(refine wB (fun h=>?_) (fun h=>?_)<;>first|exact wN h|subst (h:(_:Bool)=_)|skip)|(refine wQ ?_;clear hQ hR hE hM)|fail)
 all_goals (first|rfl|(grind[zgG])|(simp[zgG, *];done)|(simp_all [zgG];done)|(simp_all [zgG]<;>first|omega|((repeat' split)<;>first|rfl|(exfalso;omega))))
def ziB (x y:Switch):Bool:=decide (x.id=y.id)&&decide (x.call=y.call)
def zhF (x y:Lock):Bool:=decide (x.id=y.id)&&decide (x.phase=y.phase)&&decide (x.gone=y.gone)
end Go.Lev
namespace Go.Lev
open Go.Eng
set_option maxRecDepth 10000
set_option maxHeartbeats 4000000
variable {P:Program} {inv:Nat→Option Nat}
def zbu {α:Type} (p:α→Bool):Int→List α→Int
 |_,[]=>-1
 |k,x::r=>if p x=true then k else zbu p (k+1) r
theorem zp3 (hH:HasAll P inv) {jc:Nat} {caps:List AV} {p:Rte→Bool} (l:List Rte) (hc:∀ x∈l,PC P inv jc ([.agg x.c]++caps) (·=.b (p x))) (hl:l.length≤1000000000):PC P inv 138 [.sl 7 (l.map Rte.c),.fn jc caps] (·=.n (zbu p 0 l)):=by
 refine PC.fn hH cd138 fun w0 M Q hM hE hQ hR=>?_;dsimp only[cd138,qm,ql,qf,qi,qb,qc,qp,qv,qN,qT,qF,qt]at hQ ⊢
 (repeat' first|refine zaa [0,1,4,5,7,8,9,16] fun K hK=>?_|(refine hK.go ?_;clear hK K)|with_reducible exact wT|refine wA ?_|(refine wB (fun h=>?_) (fun h=>?_)<;>first|exact wN h|subst (h:(_:Bool)=_)|skip)|(refine wQ ?_;clear hQ hR hE hM)|fail)
 refine zcH (fun k=>[(0,.sl 7 (l.map Rte.c)),(1,.fn jc caps),(7,.n l.length),(8,.n k)]) (fun k=>[]) (l.length) (fun k=>zbu p k (l.drop k)=zbu p 0 l) ?_;rintro k ⟨hk,hg⟩;rcases Nat.lt_or_ge k l.length with hlt|hge
 ·rw[zag hlt]at hg
  rw[zbu]at hg
  (repeat' first|refine zaa [0,1,4,5,7,8,9,16] fun K hK=>?_|(refine hK.go ?_;clear hK K)|with_reducible exact wT|refine wA ?_|(refine wB (fun h=>?_) (fun h=>?_)<;>first|exact wN h|subst (h:(_:Bool)=_)|skip)|(refine wQ ?_;clear hQ hR hE hM)|(refine zaj hM (hc _ (zae hlt)) ?_;try (refine no_implicit_lambda% (st ?_);try with_reducible exact wT))|fail)
  ·rw[←hg,if_pos h]
  ·exact ⟨k+1,by omega,⟨by omega,by rw[←hg,if_neg (by rw[h];simp)];rfl⟩,(by (try dsimp only);(first|omega|(simp;done)|(simp;omega)))⟩
 ·rw[List.drop_eq_nil_of_le hge]at hg
  (repeat' first|refine zaa [0,1,4,5,7,8,9,16] fun K hK=>?_|(refine hK.go ?_;clear hK K)|with_reducible exact wT|refine wA ?_|(refine wB (fun h=>?_) (fun h=>?_)<;>first|exact wN h|subst (h:(_:Bool)=_)|skip)|(refine wQ ?_;clear hQ hR hE hM)|fail)
  rw[←hg];rfl
theorem zp4 (hH:HasAll P inv) {jc:Nat} {caps:List AV} {p:Pnt→Bool} (l:List Pnt) (hc:∀ x∈l,PC P inv jc ([.agg x.c]++caps) (·=.b (p x))) (hl:l.length≤1000000000):PC P inv 109 [.sl 2 (l.map Pnt.c),.fn jc caps] (·=.n (zbu p 0 l)):=by
 refine PC.fn hH cd109 fun w0 M Q hM hE hQ hR=>?_;dsimp only[cd109,qm,ql,qf,qi,qb,qc,qp,qv,qN,qT,qF,qt]at hQ ⊢
 (repeat' first|refine zaa [0,1,4,5,7,8,9,16] fun K hK=>?_|(refine hK.go ?_;clear hK K)|with_reducible exact wT|refine wA ?_|(refine wB (fun h=>?_) (fun h=>?_)<;>first|exact wN h|subst (h:(_:Bool)=_)|skip)|(refine wQ ?_;clear hQ hR hE hM)|fail)
 refine zcH (fun k=>[(0,.sl 2 (l.map Pnt.c)),(1,.fn jc caps),(7,.n l.length),(8,.n k)]) (fun k=>[]) (l.length) (fun k=>zbu p k (l.drop k)=zbu p 0 l) ?_;rintro k ⟨hk,hg⟩;rcases Nat.lt_or_ge k l.length with hlt|hge
 ·rw[zag hlt]at hg
  rw[zbu]at hg
  (repeat' first|refine zaa [0,1,4,5,7,8,9,16] fun K hK=>?_|(refine hK.go ?_;clear hK K)|with_reducible exact wT|refine wA ?_|(refine wB (fun h=>?_) (fun h=>?_)<;>first|exact wN h|subst (h:(_:Bool)=_)|skip)|(refine wQ ?_;clear hQ hR hE hM)|(refine zaj hM (hc _ (zae hlt)) ?_;try (refine no_implicit_lambda% (st ?_);try with_reducible exact wT))|fail)
  ·rw[←hg,if_pos h]
  ·exact ⟨k+1,by omega,⟨by omega,by rw[←hg,if_neg (by rw[h];simp)];rfl⟩,(by (try dsimp only);(first|omega|(simp;done)|(simp;omega)))⟩
 ·rw[List.drop_eq_nil_of_le hge]at hg
  (repeat' first|refine zaa [0,1,4,5,7,8,9,16] fun K hK=>?_|(refine hK.go ?_;clear hK K)|with_reducible exact wT|refine wA ?_|(refine wB (fun h=>?_) (fun h=>?_)<;>first|exact wN h|subst (h:(_:Bool)=_)|skip)|(refine wQ ?_;clear hQ hR hE hM)|fail)
  rw[←hg];rfl
theorem zp2 (hH:HasAll P inv) {jc:Nat} {caps:List AV} {p:Sgn→Bool} (l:List Sgn) (hc:∀ x∈l,PC P inv jc ([.agg x.c]++caps) (·=.b (p x))) (hl:l.length≤1000000000):PC P inv 143 [.sl 3 (l.map Sgn.c),.fn jc caps] (·=.n (zbu p 0 l)):=by
 refine PC.fn hH cd143 fun w0 M Q hM hE hQ hR=>?_;dsimp only[cd143,qm,ql,qf,qi,qb,qc,qp,qv,qN,qT,qF,qt]at hQ ⊢
 (repeat' first|refine zaa [0,1,4,5,7,8,9,16] fun K hK=>?_|(refine hK.go ?_;clear hK K)|with_reducible exact wT|refine wA ?_|(refine wB (fun h=>?_) (fun h=>?_)<;>first|exact wN h|subst (h:(_:Bool)=_)|skip)|(refine wQ ?_;clear hQ hR hE hM)|fail)
 refine zcH (fun k=>[(0,.sl 3 (l.map Sgn.c)),(1,.fn jc caps),(7,.n l.length),(8,.n k)]) (fun k=>[]) (l.length) (fun k=>zbu p k (l.drop k)=zbu p 0 l) ?_;rintro k ⟨hk,hg⟩;rcases Nat.lt_or_ge k l.length with hlt|hge
 ·rw[zag hlt]at hg
  rw[zbu]at hg
  (repeat' first|refine zaa [0,1,4,5,7,8,9,16] fun K hK=>?_|(refine hK.go ?_;clear hK K)|with_reducible exact wT|refine wA ?_|(refine wB (fun h=>?_) (fun h=>?_)<;>first|exact wN h|subst (h:(_:Bool)=_)|skip)|(refine wQ ?_;clear hQ hR hE hM)|(refine zaj hM (hc _ (zae hlt)) ?_;try (refine no_implicit_lambda% (st ?_);try with_reducible exact wT))|fail)
  ·rw[←hg,if_pos h]
  ·exact ⟨k+1,by omega,⟨by omega,by rw[←hg,if_neg (by rw[h];simp)];rfl⟩,(by (try dsimp only);(first|omega|(simp;done)|(simp;omega)))⟩
 ·rw[List.drop_eq_nil_of_le hge]at hg
  (repeat' first|refine zaa [0,1,4,5,7,8,9,16] fun K hK=>?_|(refine hK.go ?_;clear hK K)|with_reducible exact wT|refine wA ?_|(refine wB (fun h=>?_) (fun h=>?_)<;>first|exact wN h|subst (h:(_:Bool)=_)|skip)|(refine wQ ?_;clear hQ hR hE hM)|fail)
  rw[←hg];rfl
theorem zhG (hH:HasAll P inv) {jc:Nat} {caps:List AV} {p:Section→Bool} (l:List Section) (hc:∀ x∈l,PC P inv jc ([.agg x.c]++caps) (·=.b (p x))) (hl:l.length≤1000000000):PC P inv 94 [.sl 3 (l.map Section.c),.fn jc caps] (·=.n (zbu p 0 l)):=by
 refine PC.fn hH cd94 fun w0 M Q hM hE hQ hR=>?_;dsimp only[cd94,qm,ql,qf,qi,qb,qc,qp,qv,qN,qT,qF,qt]at hQ ⊢
 (repeat' first|refine zaa [0,1,4,5,7,8,9,16] fun K hK=>?_|(refine hK.go ?_;clear hK K)|with_reducible exact wT|refine wA ?_|(refine wB (fun h=>?_) (fun h=>?_)<;>first|exact wN h|subst (h:(_:Bool)=_)|skip)|(refine wQ ?_;clear hQ hR hE hM)|fail)
 refine zcH (fun k=>[(0,.sl 3 (l.map Section.c)),(1,.fn jc caps),(7,.n l.length),(8,.n k)]) (fun k=>[]) (l.length) (fun k=>zbu p k (l.drop k)=zbu p 0 l) ?_;rintro k ⟨hk,hg⟩;rcases Nat.lt_or_ge k l.length with hlt|hge
 ·rw[zag hlt]at hg
  rw[zbu]at hg
  (repeat' first|refine zaa [0,1,4,5,7,8,9,16] fun K hK=>?_|(refine hK.go ?_;clear hK K)|with_reducible exact wT|refine wA ?_|(refine wB (fun h=>?_) (fun h=>?_)<;>first|exact wN h|subst (h:(_:Bool)=_)|skip)|(refine wQ ?_;clear hQ hR hE hM)|(refine zaj hM (hc _ (zae hlt)) ?_;try (refine no_implicit_lambda% (st ?_);try with_reducible exact wT))|fail)
  ·rw[←hg,if_pos h]
  ·exact ⟨k+1,by omega,⟨by omega,by rw[←hg,if_neg (by rw[h];simp)];rfl⟩,(by (try dsimp only);(first|omega|(simp;done)|(simp;omega)))⟩
 ·rw[List.drop_eq_nil_of_le hge]at hg
  (repeat' first|refine zaa [0,1,4,5,7,8,9,16] fun K hK=>?_|(refine hK.go ?_;clear hK K)|with_reducible exact wT|refine wA ?_|(refine wB (fun h=>?_) (fun h=>?_)<;>first|exact wN h|subst (h:(_:Bool)=_)|skip)|(refine wQ ?_;clear hQ hR hE hM)|fail)
  rw[←hg];rfl
theorem idx_trk (hH:HasAll P inv) {jc:Nat} {caps:List AV} {p:Track→Bool} (l:List Track) (hc:∀ x∈l,PC P inv jc ([.agg x.c]++caps) (·=.b (p x))) (hl:l.length≤1000000000):PC P inv 96 [.sl 2 (l.map Track.c),.fn jc caps] (·=.n (zbu p 0 l)):=by
 refine PC.fn hH cd96 fun w0 M Q hM hE hQ hR=>?_;dsimp only[cd96,qm,ql,qf,qi,qb,qc,qp,qv,qN,qT,qF,qt]at hQ ⊢
 (repeat' first|refine zaa [0,1,4,5,7,8,9,16] fun K hK=>?_|(refine hK.go ?_;clear hK K)|with_reducible exact wT|refine wA ?_|(refine wB (fun h=>?_) (fun h=>?_)<;>first|exact wN h|subst (h:(_:Bool)=_)|skip)|(refine wQ ?_;clear hQ hR hE hM)|fail)
 refine zcH (fun k=>[(0,.sl 2 (l.map Track.c)),(1,.fn jc caps),(7,.n l.length),(8,.n k)]) (fun k=>[]) (l.length) (fun k=>zbu p k (l.drop k)=zbu p 0 l) ?_;rintro k ⟨hk,hg⟩;rcases Nat.lt_or_ge k l.length with hlt|hge
 ·rw[zag hlt]at hg
  rw[zbu]at hg
  (repeat' first|refine zaa [0,1,4,5,7,8,9,16] fun K hK=>?_|(refine hK.go ?_;clear hK K)|with_reducible exact wT|refine wA ?_|(refine wB (fun h=>?_) (fun h=>?_)<;>first|exact wN h|subst (h:(_:Bool)=_)|skip)|(refine wQ ?_;clear hQ hR hE hM)|(refine zaj hM (hc _ (zae hlt)) ?_;try (refine no_implicit_lambda% (st ?_);try with_reducible exact wT))|fail)
  ·rw[←hg,if_pos h]
  ·exact ⟨k+1,by omega,⟨by omega,by rw[←hg,if_neg (by rw[h];simp)];rfl⟩,(by (try dsimp only);(first|omega|(simp;done)|(simp;omega)))⟩
 ·rw[List.drop_eq_nil_of_le hge]at hg
  (repeat' first|refine zaa [0,1,4,5,7,8,9,16] fun K hK=>?_|(refine hK.go ?_;clear hK K)|with_reducible exact wT|refine wA ?_|(refine wB (fun h=>?_) (fun h=>?_)<;>first|exact wN h|subst (h:(_:Bool)=_)|skip)|(refine wQ ?_;clear hQ hR hE hM)|fail)
  rw[←hg];rfl
theorem idx_swt (hH:HasAll P inv) {jc:Nat} {caps:List AV} {p:Switch→Bool} (l:List Switch) (hc:∀ x∈l,PC P inv jc ([.agg x.c]++caps) (·=.b (p x))) (hl:l.length≤1000000000):PC P inv 97 [.sl 3 (l.map Switch.c),.fn jc caps] (·=.n (zbu p 0 l)):=by
 refine PC.fn hH cd97 fun w0 M Q hM hE hQ hR=>?_;dsimp only[cd97,qm,ql,qf,qi,qb,qc,qp,qv,qN,qT,qF,qt]at hQ ⊢
 (repeat' first|refine zaa [0,1,4,5,7,8,9,16] fun K hK=>?_|(refine hK.go ?_;clear hK K)|with_reducible exact wT|refine wA ?_|(refine wB (fun h=>?_) (fun h=>?_)<;>first|exact wN h|subst (h:(_:Bool)=_)|skip)|(refine wQ ?_;clear hQ hR hE hM)|fail)
 refine zcH (fun k=>[(0,.sl 3 (l.map Switch.c)),(1,.fn jc caps),(7,.n l.length),(8,.n k)]) (fun k=>[]) (l.length) (fun k=>zbu p k (l.drop k)=zbu p 0 l) ?_;rintro k ⟨hk,hg⟩;rcases Nat.lt_or_ge k l.length with hlt|hge
 ·rw[zag hlt]at hg
  rw[zbu]at hg
  (repeat' first|refine zaa [0,1,4,5,7,8,9,16] fun K hK=>?_|(refine hK.go ?_;clear hK K)|with_reducible exact wT|refine wA ?_|(refine wB (fun h=>?_) (fun h=>?_)<;>first|exact wN h|subst (h:(_:Bool)=_)|skip)|(refine wQ ?_;clear hQ hR hE hM)|(refine zaj hM (hc _ (zae hlt)) ?_;try (refine no_implicit_lambda% (st ?_);try with_reducible exact wT))|fail)
  ·rw[←hg,if_pos h]
  ·exact ⟨k+1,by omega,⟨by omega,by rw[←hg,if_neg (by rw[h];simp)];rfl⟩,(by (try dsimp only);(first|omega|(simp;done)|(simp;omega)))⟩
 ·rw[List.drop_eq_nil_of_le hge]at hg
  (repeat' first|refine zaa [0,1,4,5,7,8,9,16] fun K hK=>?_|(refine hK.go ?_;clear hK K)|with_reducible exact wT|refine wA ?_|(refine wB (fun h=>?_) (fun h=>?_)<;>first|exact wN h|subst (h:(_:Bool)=_)|skip)|(refine wQ ?_;clear hQ hR hE hM)|fail)
  rw[←hg];rfl
theorem idx_int (hH:HasAll P inv) {jc:Nat} {caps:List AV} {p:Int→Bool} (l:List Int) (hc:∀ x∈l,PC P inv jc ([.n x]++caps) (·=.b (p x))) (hl:l.length≤1000000000):PC P inv 185 [.sl 1 (l.map zck),.fn jc caps] (·=.n (zbu p 0 l)):=by
 refine PC.fn hH cd185 fun w0 M Q hM hE hQ hR=>?_;dsimp only[cd185,qm,ql,qf,qi,qb,qc,qp,qv,qN,qT,qF,qt]at hQ ⊢
 (repeat' first|refine zaa [0,1,4,5,7,8,9,16] fun K hK=>?_|(refine hK.go ?_;clear hK K)|with_reducible exact wT|refine wA ?_|(refine wB (fun h=>?_) (fun h=>?_)<;>first|exact wN h|subst (h:(_:Bool)=_)|skip)|(refine wQ ?_;clear hQ hR hE hM)|fail)
 refine zcH (fun k=>[(0,.sl 1 (l.map zck)),(1,.fn jc caps),(7,.n l.length),(8,.n k)]) (fun k=>[]) (l.length) (fun k=>zbu p k (l.drop k)=zbu p 0 l) ?_;rintro k ⟨hk,hg⟩;rcases Nat.lt_or_ge k l.length with hlt|hge
 ·rw[zag hlt]at hg
  rw[zbu]at hg
  (repeat' first|refine zaa [0,1,4,5,7,8,9,16] fun K hK=>?_|(refine hK.go ?_;clear hK K)|with_reducible exact wT|refine wA ?_|(refine wB (fun h=>?_) (fun h=>?_)<;>first|exact wN h|subst (h:(_:Bool)=_)|skip)|(refine wQ ?_;clear hQ hR hE hM)|(refine zaj hM (hc _ (zae hlt)) ?_;try (refine no_implicit_lambda% (st ?_);try with_reducible exact wT))|fail)
  ·rw[←hg,if_pos h]
  ·exact ⟨k+1,by omega,⟨by omega,by rw[←hg,if_neg (by rw[h];simp)];rfl⟩,(by (try dsimp only);(first|omega|(simp;done)|(simp;omega)))⟩
 ·rw[List.drop_eq_nil_of_le hge]at hg
  (repeat' first|refine zaa [0,1,4,5,7,8,9,16] fun K hK=>?_|(refine hK.go ?_;clear hK K)|with_reducible exact wT|refine wA ?_|(refine wB (fun h=>?_) (fun h=>?_)<;>first|exact wN h|subst (h:(_:Bool)=_)|skip)|(refine wQ ?_;clear hQ hR hE hM)|fail)
  rw[←hg];rfl
theorem idx_ask (hH:HasAll P inv) {jc:Nat} {caps:List AV} {p:AskR→Bool} (l:List AskR) (hc:∀ x∈l,PC P inv jc ([.agg x.c]++caps) (·=.b (p x))) (hl:l.length≤1000000000):PC P inv 266 [.sl 3 (l.map AskR.c),.fn jc caps] (·=.n (zbu p 0 l)):=by
 refine PC.fn hH cd266 fun w0 M Q hM hE hQ hR=>?_;dsimp only[cd266,qm,ql,qf,qi,qb,qc,qp,qv,qN,qT,qF,qt]at hQ ⊢
 (repeat' first|refine zaa [0,1,4,5,7,8,9,16] fun K hK=>?_|(refine hK.go ?_;clear hK K)|with_reducible exact wT|refine wA ?_|(refine wB (fun h=>?_) (fun h=>?_)<;>first|exact wN h|subst (h:(_:Bool)=_)|skip)|(refine wQ ?_;clear hQ hR hE hM)|fail)
 refine zcH (fun k=>[(0,.sl 3 (l.map AskR.c)),(1,.fn jc caps),(7,.n l.length),(8,.n k)]) (fun k=>[]) (l.length) (fun k=>zbu p k (l.drop k)=zbu p 0 l) ?_;rintro k ⟨hk,hg⟩;rcases Nat.lt_or_ge k l.length with hlt|hge
 ·rw[zag hlt]at hg
  rw[zbu]at hg
  (repeat' first|refine zaa [0,1,4,5,7,8,9,16] fun K hK=>?_|(refine hK.go ?_;clear hK K)|with_reducible exact wT|refine wA ?_|(refine wB (fun h=>?_) (fun h=>?_)<;>first|exact wN h|subst (h:(_:Bool)=_)|skip)|(refine wQ ?_;clear hQ hR hE hM)|(refine zaj hM (hc _ (zae hlt)) ?_;try (refine no_implicit_lambda% (st ?_);try with_reducible exact wT))|fail)
  ·rw[←hg,if_pos h]
  ·exact ⟨k+1,by omega,⟨by omega,by rw[←hg,if_neg (by rw[h];simp)];rfl⟩,(by (try dsimp only);(first|omega|(simp;done)|(simp;omega)))⟩
 ·rw[List.drop_eq_nil_of_le hge]at hg
  (repeat' first|refine zaa [0,1,4,5,7,8,9,16] fun K hK=>?_|(refine hK.go ?_;clear hK K)|with_reducible exact wT|refine wA ?_|(refine wB (fun h=>?_) (fun h=>?_)<;>first|exact wN h|subst (h:(_:Bool)=_)|skip)|(refine wQ ?_;clear hQ hR hE hM)|fail)
  rw[←hg];rfl
theorem idx_jon (hH:HasAll P inv) {jc:Nat} {caps:List AV} {p:Join→Bool} (l:List Join) (hc:∀ x∈l,PC P inv jc ([.agg x.c]++caps) (·=.b (p x))) (hl:l.length≤1000000000):PC P inv 278 [.sl 2 (l.map Join.c),.fn jc caps] (·=.n (zbu p 0 l)):=by
 refine PC.fn hH cd278 fun w0 M Q hM hE hQ hR=>?_;dsimp only[cd278,qm,ql,qf,qi,qb,qc,qp,qv,qN,qT,qF,qt]at hQ ⊢
 (repeat' first|refine zaa [0,1,4,5,7,8,9,16] fun K hK=>?_|(refine hK.go ?_;clear hK K)|with_reducible exact wT|refine wA ?_|(refine wB (fun h=>?_) (fun h=>?_)<;>first|exact wN h|subst (h:(_:Bool)=_)|skip)|(refine wQ ?_;clear hQ hR hE hM)|fail)
 refine zcH (fun k=>[(0,.sl 2 (l.map Join.c)),(1,.fn jc caps),(7,.n l.length),(8,.n k)]) (fun k=>[]) (l.length) (fun k=>zbu p k (l.drop k)=zbu p 0 l) ?_;rintro k ⟨hk,hg⟩;rcases Nat.lt_or_ge k l.length with hlt|hge
 ·rw[zag hlt]at hg
  rw[zbu]at hg
  (repeat' first|refine zaa [0,1,4,5,7,8,9,16] fun K hK=>?_|(refine hK.go ?_;clear hK K)|with_reducible exact wT|refine wA ?_|(refine wB (fun h=>?_) (fun h=>?_)<;>first|exact wN h|subst (h:(_:Bool)=_)|skip)|(refine wQ ?_;clear hQ hR hE hM)|(refine zaj hM (hc _ (zae hlt)) ?_;try (refine no_implicit_lambda% (st ?_);try with_reducible exact wT))|fail)
  ·rw[←hg,if_pos h]
  ·exact ⟨k+1,by omega,⟨by omega,by rw[←hg,if_neg (by rw[h];simp)];rfl⟩,(by (try dsimp only);(first|omega|(simp;done)|(simp;omega)))⟩
 ·rw[List.drop_eq_nil_of_le hge]at hg
  (repeat' first|refine zaa [0,1,4,5,7,8,9,16] fun K hK=>?_|(refine hK.go ?_;clear hK K)|with_reducible exact wT|refine wA ?_|(refine wB (fun h=>?_) (fun h=>?_)<;>first|exact wN h|subst (h:(_:Bool)=_)|skip)|(refine wQ ?_;clear hQ hR hE hM)|fail)
  rw[←hg];rfl
end Go.Lev
namespace Go.Lev
open Go.Eng
set_option maxRecDepth 10000
set_option maxHeartbeats 4000000
variable {P:Program} {inv:Nat→Option Nat}
theorem zbX {α:Type} [Inhabited α] (p:α→Bool):∀ (l:List α) (k:Int),(zbu p k l=-1∧l.find? p=none)∨∃ i:Nat,i<l.length∧zbu p k l=k+i∧l.find? p=some (nth l i)
 |[],k=>.inl ⟨rfl,rfl⟩
 |x::r,k=>by
  simp only[zbu,List.find?_cons]
  cases h:p x with
  |true=>exact .inr ⟨0,by simp,by simp,rfl⟩
  |false =>
   rcases zbX p r (k+1) with ⟨h1,h2⟩|⟨i,h1,h2,h3⟩
   ·exact .inl ⟨by simpa using h1,h2⟩
   ·exact .inr ⟨i+1,by simp;omega,by simp[h2];omega,by simp only[h3];rfl⟩
theorem is_rte (hH:HasAll P inv) (hI:HasIds P inv) (n:Int) (x:Rte):PC P inv 139 ([.agg x.c]++[.ip 1 [[.n n]] 0 0]) (·=.b (decide (x.id=n))):=by
 refine PC.fn hH cd139 fun w0 M Q hM hE hQ hR=>?_;dsimp only[cd139,qm,ql,qf,qi,qb,qc,qp,qv,qN,qT,qF,qt]at hQ ⊢
 (repeat' first|refine zaa [0,1,2,3] fun K hK=>?_|(refine hK.go ?_;clear hK K)|with_reducible exact wT|refine wA ?_|(refine wB (fun h=>?_) (fun h=>?_)<;>first|exact wN h|subst (h:(_:Bool)=_)|skip)|(refine wQ ?_;clear hQ hR hE hM)|(refine zaj hM (hI.rte _) ?_;try (refine no_implicit_lambda% (st ?_);try with_reducible exact wT))|fail)
 all_goals (first|rfl|(grind[])|(simp[ *];done)|(simp_all [];done)|(simp_all []<;>first|omega|((repeat' split)<;>first|rfl|(exfalso;omega))))
def Rte.z:Rte:=⟨0,0,0,[],[],[],0⟩
theorem find_rte (hH:HasAll P inv) (hI:HasIds P inv) (l:List Rte) (hl:l.length≤1000000000) (n:Int):PC P inv 127 [.sl 7 (l.map Rte.c),.n n] (·=.tup [.agg ((l.find? fun x=>decide (x.id=n)).getD Rte.z).c,.b (l.find? fun x=>decide (x.id=n)).isSome]):=by
 have hs:=zbX (fun x:Rte=>decide (x.id=n)) l 0
 refine PC.fn hH cd127 fun w0 M Q hM hE hQ hR=>?_;dsimp only[cd127,qm,ql,qf,qi,qb,qc,qp,qv,qN,qT,qF,qt]at hQ ⊢
 (repeat' first|refine zaa [0,1,3,4,5,6,7,12] fun K hK=>?_|(refine hK.go ?_;clear hK K)|with_reducible exact wT|refine wA ?_|(refine wB (fun h=>?_) (fun h=>?_)<;>first|exact wN h|subst (h:(_:Bool)=_)|skip)|(refine wQ ?_;clear hQ hR hE hM)|(refine zcj hM 4 (zp3 hH l (fun x _=>is_rte hH hI n x) hl) ?_ rfl ?_;(focus exact wF);try (refine no_implicit_lambda% (st ?_);try with_reducible exact wT))|fail)
 ·rcases hs with ⟨h1,h2⟩|⟨i,h1,h2,h3⟩
  ·rw[h2];rfl
  ·omega
 ·rcases hs with ⟨h1,_⟩|⟨i,h1,h2,h3⟩
  ·omega
  ·rw[show (zbu (fun x:Rte=>decide (x.id=n)) 0 l).toNat=i by omega]
   (refine no_implicit_lambda% (st ?_);try with_reducible exact wT)
   (repeat' first|refine zaa [0,1,3,4,5,6,7,12] fun K hK=>?_|(refine hK.go ?_;clear hK K)|with_reducible exact wT|refine wA ?_|(refine wB (fun h=>?_) (fun h=>?_)<;>first|exact wN h|subst (h:(_:Bool)=_)|skip)|(refine wQ ?_;clear hQ hR hE hM)|fail)
   rw[h3];rfl
theorem is_sgn (hH:HasAll P inv) (hI:HasIds P inv) (n:Int) (x:Sgn):PC P inv 144 ([.agg x.c]++[.ip 1 [[.n n]] 0 0]) (·=.b (decide (x.id=n))):=by
 refine PC.fn hH cd144 fun w0 M Q hM hE hQ hR=>?_;dsimp only[cd144,qm,ql,qf,qi,qb,qc,qp,qv,qN,qT,qF,qt]at hQ ⊢
 (repeat' first|refine zaa [0,1,2,3] fun K hK=>?_|(refine hK.go ?_;clear hK K)|with_reducible exact wT|refine wA ?_|(refine wB (fun h=>?_) (fun h=>?_)<;>first|exact wN h|subst (h:(_:Bool)=_)|skip)|(refine wQ ?_;clear hQ hR hE hM)|(refine zaj hM (hI.sgn _) ?_;try (refine no_implicit_lambda% (st ?_);try with_reducible exact wT))|fail)
 all_goals (first|rfl|(grind[])|(simp[ *];done)|(simp_all [];done)|(simp_all []<;>first|omega|((repeat' split)<;>first|rfl|(exfalso;omega))))
def Sgn.z:Sgn:=⟨0,0,0⟩
theorem zm8 (hH:HasAll P inv) (hI:HasIds P inv) (l:List Sgn) (hl:l.length≤1000000000) (n:Int):PC P inv 136 [.sl 3 (l.map Sgn.c),.n n] (·=.tup [.agg ((l.find? fun x=>decide (x.id=n)).getD Sgn.z).c,.b (l.find? fun x=>decide (x.id=n)).isSome]):=by
 have hs:=zbX (fun x:Sgn=>decide (x.id=n)) l 0
 refine PC.fn hH cd136 fun w0 M Q hM hE hQ hR=>?_;dsimp only[cd136,qm,ql,qf,qi,qb,qc,qp,qv,qN,qT,qF,qt]at hQ ⊢
 (repeat' first|refine zaa [0,1,3,4,5,6,7,12] fun K hK=>?_|(refine hK.go ?_;clear hK K)|with_reducible exact wT|refine wA ?_|(refine wB (fun h=>?_) (fun h=>?_)<;>first|exact wN h|subst (h:(_:Bool)=_)|skip)|(refine wQ ?_;clear hQ hR hE hM)|(refine zcj hM 4 (zp2 hH l (fun x _=>is_sgn hH hI n x) hl) ?_ rfl ?_;(focus exact wF);try (refine no_implicit_lambda% (st ?_);try with_reducible exact wT))|fail)
 ·rcases hs with ⟨h1,h2⟩|⟨i,h1,h2,h3⟩
  ·rw[h2];rfl
  ·omega
 ·rcases hs with ⟨h1,_⟩|⟨i,h1,h2,h3⟩
  ·omega
  ·rw[show (zbu (fun x:Sgn=>decide (x.id=n)) 0 l).toNat=i by omega]
   (refine no_implicit_lambda% (st ?_);try with_reducible exact wT)
   (repeat' first|refine zaa [0,1,3,4,5,6,7,12] fun K hK=>?_|(refine hK.go ?_;clear hK K)|with_reducible exact wT|refine wA ?_|(refine wB (fun h=>?_) (fun h=>?_)<;>first|exact wN h|subst (h:(_:Bool)=_)|skip)|(refine wQ ?_;clear hQ hR hE hM)|fail)
   rw[h3];rfl
theorem is_pnt (hH:HasAll P inv) (hI:HasIds P inv) (n:Int) (x:Pnt):PC P inv 145 ([.agg x.c]++[.ip 1 [[.n n]] 0 0]) (·=.b (decide (x.id=n))):=by
 refine PC.fn hH cd145 fun w0 M Q hM hE hQ hR=>?_;dsimp only[cd145,qm,ql,qf,qi,qb,qc,qp,qv,qN,qT,qF,qt]at hQ ⊢
 (repeat' first|refine zaa [0,1,2,3] fun K hK=>?_|(refine hK.go ?_;clear hK K)|with_reducible exact wT|refine wA ?_|(refine wB (fun h=>?_) (fun h=>?_)<;>first|exact wN h|subst (h:(_:Bool)=_)|skip)|(refine wQ ?_;clear hQ hR hE hM)|(refine zaj hM (hI.pnt _) ?_;try (refine no_implicit_lambda% (st ?_);try with_reducible exact wT))|fail)
 all_goals (first|rfl|(grind[])|(simp[ *];done)|(simp_all [];done)|(simp_all []<;>first|omega|((repeat' split)<;>first|rfl|(exfalso;omega))))
def Pnt.z:Pnt:=⟨0,0⟩
theorem find_pnt (hH:HasAll P inv) (hI:HasIds P inv) (l:List Pnt) (hl:l.length≤1000000000) (n:Int):PC P inv 137 [.sl 2 (l.map Pnt.c),.n n] (·=.tup [.agg ((l.find? fun x=>decide (x.id=n)).getD Pnt.z).c,.b (l.find? fun x=>decide (x.id=n)).isSome]):=by
 have hs:=zbX (fun x:Pnt=>decide (x.id=n)) l 0
 refine PC.fn hH cd137 fun w0 M Q hM hE hQ hR=>?_;dsimp only[cd137,qm,ql,qf,qi,qb,qc,qp,qv,qN,qT,qF,qt]at hQ ⊢
 (repeat' first|refine zaa [0,1,3,4,5,6,7,12] fun K hK=>?_|(refine hK.go ?_;clear hK K)|with_reducible exact wT|refine wA ?_|(refine wB (fun h=>?_) (fun h=>?_)<;>first|exact wN h|subst (h:(_:Bool)=_)|skip)|(refine wQ ?_;clear hQ hR hE hM)|(refine zcj hM 4 (zp4 hH l (fun x _=>is_pnt hH hI n x) hl) ?_ rfl ?_;(focus exact wF);try (refine no_implicit_lambda% (st ?_);try with_reducible exact wT))|fail)
 ·rcases hs with ⟨h1,h2⟩|⟨i,h1,h2,h3⟩
  ·rw[h2];rfl
  ·omega
 ·rcases hs with ⟨h1,_⟩|⟨i,h1,h2,h3⟩
  ·omega
  ·rw[show (zbu (fun x:Pnt=>decide (x.id=n)) 0 l).toNat=i by omega]
   (refine no_implicit_lambda% (st ?_);try with_reducible exact wT)
   (repeat' first|refine zaa [0,1,3,4,5,6,7,12] fun K hK=>?_|(refine hK.go ?_;clear hK K)|with_reducible exact wT|refine wA ?_|(refine wB (fun h=>?_) (fun h=>?_)<;>first|exact wN h|subst (h:(_:Bool)=_)|skip)|(refine wQ ?_;clear hQ hR hE hM)|fail)
   rw[h3];rfl
end Go.Lev
namespace Go.Lev
open Go.Eng
set_option maxRecDepth 10000
set_option maxHeartbeats 4000000
variable {P:Program} {inv:Nat→Option Nat}
theorem zp1 (f:Nat→Option (List AV)) (k:IntKind) (l:List Int):zbn f (l.map (AV.i k))=l.map (AV.i k):=zct f _ (zcU k l)
theorem zqL (f:Nat→Option (List AV)) (l:List Bool):zbn f (l.map AV.b)=l.map AV.b:=zct f _ (zeD l)
attribute [go_sem] zp1 zqL
theorem zjx {α:Type} [Inhabited α] (p:α→Bool) (l:List α):decide (0≤zbu p 0 l)=l.any p:=by
 have h:∀ (l:List α) (k:Int),0≤k→(0≤zbu p k l↔l.any p=true):=by
  intro l
  induction l with
  |nil=>intro k _;simp[zbu]
  |cons x r ih =>
   intro k hk
   rw[zbu,List.any_cons]
   cases h:p x with
   |true=>simp[hk]
   |false=>simpa using ih (k+1) (by omega)
 have:=h l 0 (by omega)
 grind
theorem any_pnt (hH:HasAll P inv) {jc:Nat} {caps:List AV} {p:Pnt→Bool} (l:List Pnt) (hc:∀ x∈l,PC P inv jc ([.agg x.c]++caps) (·=.b (p x))) (hl:l.length≤1000000000):PC P inv 91 [.sl 2 (l.map Pnt.c),.fn jc caps] (·=.b (l.any p)):=by
 rw[←zjx]
 refine PC.fn hH cd91 fun w0 M Q hM hE hQ hR=>?_;dsimp only[cd91,qm,ql,qf,qi,qb,qc,qp,qv,qN,qT,qF,qt]at hQ ⊢
 (repeat' first|refine zaa [0,1,4] fun K hK=>?_|(refine hK.go ?_;clear hK K)|with_reducible exact wT|refine wA ?_|(refine wB (fun h=>?_) (fun h=>?_)<;>first|exact wN h|subst (h:(_:Bool)=_)|skip)|(refine wQ ?_;clear hQ hR hE hM)|refine wC (zp4 hH l hc hl) ?_|fail)
theorem any_jon (hH:HasAll P inv) {jc:Nat} {caps:List AV} {p:Join→Bool} (l:List Join) (hc:∀ x∈l,PC P inv jc ([.agg x.c]++caps) (·=.b (p x))) (hl:l.length≤1000000000):PC P inv 268 [.sl 2 (l.map Join.c),.fn jc caps] (·=.b (l.any p)):=by
 rw[←zjx]
 refine PC.fn hH cd268 fun w0 M Q hM hE hQ hR=>?_;dsimp only[cd268,qm,ql,qf,qi,qb,qc,qp,qv,qN,qT,qF,qt]at hQ ⊢
 (repeat' first|refine zaa [0,1,4] fun K hK=>?_|(refine hK.go ?_;clear hK K)|with_reducible exact wT|refine wA ?_|(refine wB (fun h=>?_) (fun h=>?_)<;>first|exact wN h|subst (h:(_:Bool)=_)|skip)|(refine wQ ?_;clear hQ hR hE hM)|refine wC (idx_jon hH l hc hl) ?_|fail)
end Go.Lev
namespace Go.Lev
open Go.Eng
set_option maxRecDepth 10000
set_option maxHeartbeats 4000000
variable {P:Program} {inv:Nat→Option Nat}
def zcc (i:Int):Bool:=decide (1≤i)&&decide (i≤99)
theorem zeX (hH:HasAll P inv) (i:Int):PC P inv 50 [.n i] (·=.b (zcc i)):=by
 refine PC.fn hH cd50 fun w0 M Q hM hE hQ hR=>?_;dsimp only[cd50,qm,ql,qf,qi,qb,qc,qp,qv,qN,qT,qF,qt]at hQ ⊢
 (repeat' first|refine zaa [0,2] fun K hK=>?_|(refine hK.go ?_;clear hK K)|with_reducible exact wT|refine wA ?_|(refine wB (fun h=>?_) (fun h=>?_)<;>first|exact wN h|subst (h:(_:Bool)=_)|skip)|(refine wQ ?_;clear hQ hR hE hM)|fail)
 all_goals (first|rfl|(grind[zcc])|(simp[zcc, *];done)|(simp_all [zcc];done)|(simp_all [zcc]<;>first|omega|((repeat' split)<;>first|rfl|(exfalso;omega))))
def zca (s:Section):Bool:=(decide (s.pt=0)&&decide ((s.ends.length:Int)=2))||(zcc s.pt&&decide ((s.ends.length:Int)=3))
theorem zdr (hH:HasAll P inv) (s:Section):PC P inv 41 [.agg s.c] (·=.b (zca s)):=by
 refine PC.fn hH cd41 fun w0 M Q hM hE hQ hR=>?_;dsimp only[cd41,qm,ql,qf,qi,qb,qc,qp,qv,qN,qT,qF,qt]at hQ ⊢
 (repeat' first|refine zaa [0,1,2] fun K hK=>?_|(refine hK.go ?_;clear hK K)|with_reducible exact wT|refine wA ?_|(refine wB (fun h=>?_) (fun h=>?_)<;>first|exact wN h|subst (h:(_:Bool)=_)|skip)|(refine wQ ?_;clear hQ hR hE hM)|(refine zaj hM (zeX hH _) ?_;try (refine no_implicit_lambda% (st ?_);try with_reducible exact wT))|fail)
 all_goals (first|rfl|(grind[zca])|(simp[zca, *];done)|(simp_all [zca];done)|(simp_all [zca]<;>first|omega|((repeat' split)<;>first|rfl|(exfalso;omega))))
theorem isNaN_pc (hH:HasAll P inv) (i:Int):PC P inv 55 [.n i] (·=.b false):=by
 refine PC.fn hH cd55 fun w0 M Q hM hE hQ hR=>?_;dsimp only[cd55,qm,ql,qf,qi,qb,qc,qp,qv,qN,qT,qF,qt]at hQ ⊢
 (repeat' first|refine zaa [0,2] fun K hK=>?_|(refine hK.go ?_;clear hK K)|with_reducible exact wT|refine wA ?_|(refine wB (fun h=>?_) (fun h=>?_)<;>first|exact wN h|subst (h:(_:Bool)=_)|skip)|(refine wQ ?_;clear hQ hR hE hM)|fail)
 all_goals (first|rfl|(grind[])|(simp[ *];done)|(simp_all [];done)|(simp_all []<;>first|omega|((repeat' split)<;>first|rfl|(exfalso;omega))))
def zkO (a b:Int):Int:=if a<b then -1 else if b<a then 1 else 0
theorem cmp_pc (hH:HasAll P inv) (a b:Int):PC P inv 53 [.n a,.n b] (·=.n (zkO a b)):=by
 refine PC.fn hH cd53 fun w0 M Q hM hE hQ hR=>?_;dsimp only[cd53,qm,ql,qf,qi,qb,qc,qp,qv,qN,qT,qF,qt]at hQ ⊢
 (repeat' first|refine zaa [0,1,4,5,6,11,12,13,16,19] fun K hK=>?_|(refine hK.go ?_;clear hK K)|with_reducible exact wT|refine wA ?_|(refine wB (fun h=>?_) (fun h=>?_)<;>first|exact wN h|subst (h:(_:Bool)=_)|skip)|(refine wQ ?_;clear hQ hR hE hM)|(refine zaj hM (isNaN_pc hH _) ?_;try (refine no_implicit_lambda% (st ?_);try with_reducible exact wT))|fail)
 all_goals (first|rfl|(grind[zkO])|(simp[zkO, *];done)|(simp_all [zkO];done)|(simp_all [zkO]<;>first|omega|((repeat' split)<;>first|rfl|(exfalso;omega))))
theorem zkm (hH:HasAll P inv) (s:Section) (b:Int):PC P inv 52 [.agg s.c,.n b] (·=.n (zkO s.id b)):=by
 refine PC.fn hH cd52 fun w0 M Q hM hE hQ hR=>?_;dsimp only[cd52,qm,ql,qf,qi,qb,qc,qp,qv,qN,qT,qF,qt]at hQ ⊢
 (repeat' first|refine zaa [0,1,2,4] fun K hK=>?_|(refine hK.go ?_;clear hK K)|with_reducible exact wT|refine wA ?_|(refine wB (fun h=>?_) (fun h=>?_)<;>first|exact wN h|subst (h:(_:Bool)=_)|skip)|(refine wQ ?_;clear hQ hR hE hM)|(refine zaj hM (cmp_pc hH _ _) ?_;try (refine no_implicit_lambda% (st ?_);try with_reducible exact wT))|fail)
 all_goals (first|rfl|(grind[zkO])|(simp[zkO, *];done)|(simp_all [zkO];done)|(simp_all [zkO]<;>first|omega|((repeat' split)<;>first|rfl|(exfalso;omega))))
def zgV (l:List Section) (id:Int) (i j:Nat):Nat :=
 if _h:i<j then if zkO (nth l ((i+j) / 2)).id id<0 then zgV l id ((i+j) / 2+1) j else zgV l id i ((i+j) / 2) else i
termination_by j-i
def zah (l:List Section) (id:Int):Nat×Bool :=
 (zgV l id 0 l.length,decide (zgV l id 0 l.length<l.length)&&decide (zkO (nth l (zgV l id 0 l.length)).id id=0))
theorem zkS {l:List Section} {id:Int} {i j:Nat} (h:i<j):zgV l id i j=if zkO (nth l ((i+j) / 2)).id id<0 then zgV l id ((i+j) / 2+1) j else zgV l id i ((i+j) / 2):=by
 rw[zgV,dif_pos h]
theorem zjM {l:List Section} {id:Int} {i:Nat}:zgV l id i i=i:=by rw[zgV,dif_neg (by omega)]
theorem zqK (l:List Section) (id:Int):∀ (n i j:Nat),j-i≤n→i≤j→i≤zgV l id i j∧zgV l id i j≤j:=by
 intro n
 induction n with
 |zero=>intro i j h hij;unfold zgV;rw[dif_neg (by omega)];omega
 |succ n ih =>
  intro i j h hij
  unfold zgV
  split
  ·split
   ·have:=ih ((i+j) / 2+1) j (by omega) (by omega);omega
   ·have:=ih i ((i+j) / 2) (by omega) (by omega);omega
  ·omega
theorem bs_pc (hH:HasAll P inv) (l:List Section) (id:Int) (hl:l.length≤1000000000):PC P inv 51 [.sl 3 (l.map Section.c),.n id,.fn 52 []] (·=.tup [.n (zah l id).1,.b (zah l id).2]):=by
 have hb:=zqK l id l.length 0 l.length (by omega) (by omega)
 refine PC.fn hH cd51 fun w0 M Q hM hE hQ hR=>?_;dsimp only[cd51,qm,ql,qf,qi,qb,qc,qp,qv,qN,qT,qF,qt]at hQ ⊢
 (repeat' first|refine zaa [0,1,2,6,7,8,9,10,11,17,31] fun K hK=>?_|(refine hK.go ?_;clear hK K)|with_reducible exact wT|refine wA ?_|(refine wB (fun h=>?_) (fun h=>?_)<;>first|exact wN h|subst (h:(_:Bool)=_)|skip)|(refine wQ ?_;clear hQ hR hE hM)|fail)
 refine zbP (ι:=Nat×Nat) (fun k=>[(0,.sl 3 (l.map Section.c)),(1,.n id),(2,.fn 52 []),(8,.n l.length),(9,.n k.1),(10,.n k.2)]) (fun _=>[]) (fun k=>k.1≤k.2∧k.2≤l.length∧zgV l id k.1 k.2=zgV l id 0 l.length) (fun k=>k.2-k.1) (0,l.length) ⟨by omega,by omega,rfl⟩ ?_ ?_ ?_
 ·(refine no_implicit_lambda% (st ?_);try with_reducible exact wT)
  rfl
 ·(refine no_implicit_lambda% (st ?_);try with_reducible exact wT)
 rintro ⟨i,j⟩ ⟨h1,h2,hg⟩
 dsimp only at h1 h2 hg ⊢
 rcases Nat.lt_or_ge i j with hlt|hge
 ·rw[zkS hlt]at hg
  have e1:(((i:Int)+j) / 2).toNat=(i+j) / 2:=by omega
  (repeat' first|refine zaa [0,1,2,6,7,8,9,10,11,17,31] fun K hK=>?_|(refine hK.go ?_;clear hK K)|with_reducible exact wT|refine wA ?_|(refine wB (fun h=>?_) (fun h=>?_)<;>first|exact wN h|subst (h:(_:Bool)=_)|skip)|(refine wQ ?_;clear hQ hR hE hM)|(refine zaj hM (zkm hH _ _) ?_;try (refine no_implicit_lambda% (st ?_);try with_reducible exact wT))|fail)
  ·simp only[e1]at h
   rw[if_pos h]at hg
   exact ⟨((i+j) / 2+1,j),by dsimp only;omega,⟨by dsimp only;omega,h2,hg⟩,(by (try dsimp only);(first|omega|(simp;done)|(simp;omega)))⟩
  ·simp only[e1]at h
   rw[if_neg (by omega)]at hg
   exact ⟨(i,(i+j) / 2),by dsimp only;omega,⟨by dsimp only;omega,by dsimp only;omega,hg⟩,(by (try dsimp only);(first|omega|(simp;done)|(simp;omega)))⟩
 ·obtain rfl:i=j:=by omega
  rw[zjM]at hg
  (repeat' first|refine zaa [0,1,2,6,7,8,9,10,11,17,31] fun K hK=>?_|(refine hK.go ?_;clear hK K)|with_reducible exact wT|refine wA ?_|(refine wB (fun h=>?_) (fun h=>?_)<;>first|exact wN h|subst (h:(_:Bool)=_)|skip)|(refine wQ ?_;clear hQ hR hE hM)|(refine zaj hM (zkm hH _ _) ?_;try (refine no_implicit_lambda% (st ?_);try with_reducible exact wT))|fail)
  ·have h':zgV l id 0 l.length<l.length:=by omega
   subst hg
   simp[zah,h']
  ·have h':¬zgV l id 0 l.length<l.length:=by omega
   subst hg
   simp[zah,h']
theorem zmR (hH:HasAll P inv) (l:List Section) (id:Int) (hl:l.length≤1000000000):PC P inv 46 [.sl 3 (l.map Section.c),.n id] (·=.tup [.n (zah l id).1,.b (zah l id).2]):=by
 refine PC.fn hH cd46 fun w0 M Q hM hE hQ hR=>?_;dsimp only[cd46,qm,ql,qf,qi,qb,qc,qp,qv,qN,qT,qF,qt]at hQ ⊢
 (repeat' first|refine zaa [0,1,4,5] fun K hK=>?_|(refine hK.go ?_;clear hK K)|with_reducible exact wT|refine wA ?_|(refine wB (fun h=>?_) (fun h=>?_)<;>first|exact wN h|subst (h:(_:Bool)=_)|skip)|(refine wQ ?_;clear hQ hR hE hM)|(refine zaj hM (bs_pc hH _ _ (by omega)) ?_;try (refine no_implicit_lambda% (st ?_);try with_reducible exact wT))|fail)
def ze9 (id:Int) (k:Nat):List Section→Int
 |[]=>-1
 |x::r=>if x.id=id then k else ze9 id (k+1) r
theorem at_pc (hH:HasAll P inv) (l:List Section) (id:Int) (hl:l.length≤1000000000):PC P inv 49 [.sl 3 (l.map Section.c),.n id] (·=.n (ze9 id 0 l)):=by
 refine PC.fn hH cd49 fun w0 M Q hM hE hQ hR=>?_;dsimp only[cd49,qm,ql,qf,qi,qb,qc,qp,qv,qN,qT,qF,qt]at hQ ⊢
 (repeat' first|refine zaa [0,1,4,5,9,18] fun K hK=>?_|(refine hK.go ?_;clear hK K)|with_reducible exact wT|refine wA ?_|(refine wB (fun h=>?_) (fun h=>?_)<;>first|exact wN h|subst (h:(_:Bool)=_)|skip)|(refine wQ ?_;clear hQ hR hE hM)|fail)
 refine zbP (fun k:Nat=>[(0,.sl 3 (l.map Section.c)),(1,.n id),(5,.n k)]) (fun _=>[]) (fun k=>k≤l.length∧ze9 id k (l.drop k)=ze9 id 0 l) (fun k=>l.length-k) 0 ⟨Nat.zero_le _,rfl⟩ ?_ ?_ ?_
 ·(refine no_implicit_lambda% (st ?_);try with_reducible exact wT)
  rfl
 ·(refine no_implicit_lambda% (st ?_);try with_reducible exact wT)
 rintro k ⟨hk,hg⟩
 rcases Nat.lt_or_ge k l.length with hlt|hge
 ·rw[zag hlt]at hg
  rw[ze9]at hg
  (repeat' first|refine zaa [0,1,4,5,9,18] fun K hK=>?_|(refine hK.go ?_;clear hK K)|with_reducible exact wT|refine wA ?_|(refine wB (fun h=>?_) (fun h=>?_)<;>first|exact wN h|subst (h:(_:Bool)=_)|skip)|(refine wQ ?_;clear hQ hR hE hM)|fail)
  ·rw[if_pos h]at hg;exact hg
  ·rw[if_neg h]at hg;exact ⟨k+1,by omega,⟨by omega,hg⟩,by simp⟩
 ·obtain rfl:k=l.length:=by omega
  rw[List.drop_length]at hg
  (repeat' first|refine zaa [0,1,4,5,9,18] fun K hK=>?_|(refine hK.go ?_;clear hK K)|with_reducible exact wT|refine wA ?_|(refine wB (fun h=>?_) (fun h=>?_)<;>first|exact wN h|subst (h:(_:Bool)=_)|skip)|(refine wQ ?_;clear hQ hR hE hM)|fail)
  exact hg
end Go.Lev
namespace Go.Lev
open Go.Eng
set_option maxRecDepth 10000
set_option maxHeartbeats 4000000
variable {P:Program} {inv:Nat→Option Nat}
def zfX (pt:Int):List Int:=if pt=0 then [0,3,0,3,0,0,0,0,0] else [0,1,2,1,0,0,2,0,0]
theorem zgX (hH:HasAll P inv) (s:Section):PC P inv 42 [.agg s.c] (·=.agg ((zfX s.pt).map AV.n)):=by
 refine PC.fn hH cd42 fun w0 M Q hM hE hQ hR=>?_;dsimp only[cd42,qm,ql,qf,qi,qb,qc,qp,qv,qN,qT,qF,qt]at hQ ⊢
 (repeat' first|refine zaa [0,1,2,5] fun K hK=>?_|(refine hK.go ?_;clear hK K)|with_reducible exact wT|refine wA ?_|(refine wB (fun h=>?_) (fun h=>?_)<;>first|exact wN h|subst (h:(_:Bool)=_)|skip)|(refine wQ ?_;clear hQ hR hE hM)|fail)
 all_goals (first|rfl|(grind[zfX])|(simp[zfX, *];done)|(simp_all [zfX];done)|(simp_all [zfX]<;>first|omega|((repeat' split)<;>first|rfl|(exfalso;omega))))
def zbp (s:Section):Bool:=if s.pt=0 then decide ((s.ends.length:Int)=2) else decide (1≤s.pt)&&decide (s.pt≤99)&&decide ((s.ends.length:Int)=3)
theorem znD (hH:HasAll P inv) (s:Section):PC P inv 43 [.agg s.c] (·=.b (zbp s)):=by
 refine PC.fn hH cd43 fun w0 M Q hM hE hQ hR=>?_;dsimp only[cd43,qm,ql,qf,qi,qb,qc,qp,qv,qN,qT,qF,qt]at hQ ⊢
 (repeat' first|refine zaa [0,1,2,5] fun K hK=>?_|(refine hK.go ?_;clear hK K)|with_reducible exact wT|refine wA ?_|(refine wB (fun h=>?_) (fun h=>?_)<;>first|exact wN h|subst (h:(_:Bool)=_)|skip)|(refine wQ ?_;clear hQ hR hE hM)|fail)
 all_goals (first|rfl|(grind[zbp])|(simp[zbp, *];done)|(simp_all [zbp];done)|(simp_all [zbp]<;>first|omega|((repeat' split)<;>first|rfl|(exfalso;omega))))
def rLie (s:Section) (f t:Int):Int:=if s.pt=0 then (if f=0∧t=1∨f=1∧t=0 then 0 else -1) else if f=0∧(t=1∨t=2) then t else if t=0∧(f=1∨f=2) then f else -1
def zif (v:Int) (k:Nat):List Int→Int
 |[]=>-1
 |x::r=>if v=x then k else zif v (k+1) r
theorem zdN (hH:HasAll P inv) (l:List Int) (v:Int) (hl:l.length≤1000000000):PC P inv 45 [.sl 1 (l.map zck),.n v] (·=.n (zif v 0 l)):=by
 refine PC.fn hH cd45 fun w0 M Q hM hE hQ hR=>?_;dsimp only[cd45,qm,ql,qf,qi,qb,qc,qp,qv,qN,qT,qF,qt]at hQ ⊢
 (repeat' first|refine zaa [0,1,4,5,7,8,9,16] fun K hK=>?_|(refine hK.go ?_;clear hK K)|with_reducible exact wT|refine wA ?_|(refine wB (fun h=>?_) (fun h=>?_)<;>first|exact wN h|subst (h:(_:Bool)=_)|skip)|(refine wQ ?_;clear hQ hR hE hM)|fail)
 refine zbP (fun k:Nat=>[(0,.sl 1 (l.map zck)),(1,.n v),(7,.n l.length),(8,.n k)]) (fun _=>[]) (fun k=>k≤l.length∧zif v k (l.drop k)=zif v 0 l) (fun k=>l.length-k) 0 ⟨Nat.zero_le _,rfl⟩ (by (try dsimp only);(refine no_implicit_lambda% (st ?_);try with_reducible exact wT)<;>omega) (by (try dsimp only);(refine no_implicit_lambda% (st ?_);try with_reducible exact wT)<;>omega) ?_
 rintro k ⟨hk,hg⟩
 rcases Nat.lt_or_ge k l.length with hlt|hge
 ·rw[zag hlt]at hg
  rw[zif]at hg
  (repeat' first|refine zaa [0,1,4,5,7,8,9,16] fun K hK=>?_|(refine hK.go ?_;clear hK K)|with_reducible exact wT|refine wA ?_|(refine wB (fun h=>?_) (fun h=>?_)<;>first|exact wN h|subst (h:(_:Bool)=_)|skip)|(refine wQ ?_;clear hQ hR hE hM)|fail)
  ·rw[if_pos h]at hg;exact hg
  ·rw[if_neg h]at hg;exact ⟨k+1,by omega,⟨by omega,hg⟩,(by (try dsimp only);(first|omega|(simp;done)|(simp;omega)))⟩
 ·obtain rfl:k=l.length:=by omega
  rw[List.drop_length]at hg
  (repeat' first|refine zaa [0,1,4,5,7,8,9,16] fun K hK=>?_|(refine hK.go ?_;clear hK K)|with_reducible exact wT|refine wA ?_|(refine wB (fun h=>?_) (fun h=>?_)<;>first|exact wN h|subst (h:(_:Bool)=_)|skip)|(refine wQ ?_;clear hQ hR hE hM)|fail)
  exact hg
theorem twin_pc (hH:HasAll P inv) (s:Section) (h:s.ends.length≤1000000):PC P inv 15 [.agg s.c] (·=.agg s.c):=by
 refine PC.fn hH cd15 fun w0 M Q hM hE hQ hR=>?_;dsimp only[cd15,qm,ql,qf,qi,qb,qc,qp,qv,qN,qT,qF,qt]at hQ ⊢
 (repeat' first|refine zaa [0,1,2,3] fun K hK=>?_|(refine hK.go ?_;clear hK K)|with_reducible exact wT|refine wA ?_|(refine wB (fun h=>?_) (fun h=>?_)<;>first|exact wN h|subst (h:(_:Bool)=_)|skip)|(refine wQ ?_;clear hQ hR hE hM)|fail)
end Go.Lev
namespace Go.Lev
open Go.Eng
set_option maxRecDepth 10000
set_option maxHeartbeats 4000000
variable {P:Program} {inv:Nat→Option Nat}
def zgv (l:List Section):Bool:=(l.take 40).any (fun s=>decide (20<(s.ends.length:Int)))||decide (40<(l.length:Int))
def rSame (a b:Section):Bool:=decide (a.id=b.id)&&decide (a.pt=b.pt)&&decide (a.ends=b.ends)
def routGo (s:Section) (f lie:Int):Nat→Nat→AV
 |_,0=>.tup [.n 0,.n 2]
 |k,m+1=>if rLie s f k=lie then .tup [.n k,.n 0] else routGo s f lie (k+1) m
end Go.Lev
