/-
  A part of the engine that walks the functions' codes, and of the functions' contracts. Conditions: those that each theorem names.
-/
import Derived.Test.YtjfongdncghjmaaGreatK3
import Derived.Below
import Derived.Calls
import Derived.ChangeKeysEq
import Derived.DataReads
import Derived.Deep.LoopGhost
import Derived.Laws.AppendOwn
import Derived.Laws.Cells
import Derived.Laws.CopyRow
import Derived.Laws.Entries
import Derived.Laws.MakeOwn
import Derived.Laws.Rows
import Derived.Laws.StructEq
import Derived.Laws.Tables
import Derived.Lib.AppendZerosOnto
import Derived.MapKept
import Derived.Orders
import Derived.ProofKit
import Derived.ScopeJumps
import Derived.Tactics2
import Derived.WalkSpells
set_option linter.unusedSimpArgs false
set_option linter.unusedVariables false
set_option linter.unusedSectionVars false
namespace Go.Eng
open Go.RowKit
section
variable {P:Program} {inv:Nat->Option Nat} {w0:World} {M:Nat->Prop} {N:Nat} {φ φ1:AF} {σ:AS}
theorem CallK.mono {j:Nat} {args:List AV} {R R':AV->AS->Prop} (h:CallK P inv w0 M N φ σ j args R) (hr:∀ r σ',R r σ'->R' r σ'):CallK P inv w0 M N φ σ j args R':=by
 obtain ⟨N',h1,h2,h3⟩:=h;refine ⟨N',h1,h2,fun g hg β w vs hm hv=>Calls.mono (h3 g hg β w vs hm hv) ?_⟩
 rintro e w' ⟨v,r,σ',β',k1,k2,k3⟩;exact ⟨v,r,σ',β',k1,hr _ _ k2,k3⟩
theorem CallK.frame {j:Nat} {args:List AV} {R:AV->AS->Prop} (h:CallK P inv w0 M N φ1 σ j args R) (hb:zaM φ<=mx N (zaM φ1)):CallK P inv w0 M N φ σ j args R:=by
 obtain ⟨N',h1,h2,h3⟩:=h;refine ⟨N',h1,Nat.le_trans hb ?_,h3⟩;unfold mx;split<;>omega
theorem zlG {a b c:Nat} (h1:a<=c) (h2:b<=c):mx a b<=c:=by unfold mx;split<;>assumption
theorem znd {N:Nat} {φ:AF} {σ:AS} (h1:zaM φ<=N) (h2:zax σ<=N):zaw N φ σ=N:=by
 unfold zaw mx;split<;>split<;>omega
theorem zi8 (N:Nat) (φ:AF) (σ:AS) (o:AO):SLe σ (sput σ (zaw N φ σ) o):=zgB o (.inl (zoX N φ σ))
theorem zcJ {sz:Nat} {x:AV} {K K':Nat->List AV->Prop} (hk:∀ m l,K m l->K' m l) (h:zmo σ sz x K):zmo σ sz x K':=by
 unfold zmo at h |-
 split at h
 ·exact hk _ _ h
 ·exact ⟨h.1,hk _ _ h.2⟩
 ·refine ⟨h.1, ?_⟩
  have h2:=h.2;split at h2
  ·exact ⟨h2.1,hk _ _ h2.2⟩
  ·exact h2.elim
 ·exact h.elim
theorem zc2 {l d sz m:Nat} {dest:AV} {new:List AV} {K K':AF->AS->Prop} (hk:∀ r σ',K (zbq φ1 d r) σ'->K' (zbq φ d r) σ') (h:zml φ1 σ l d sz dest m new K):zml φ σ l d sz dest m new K':=by
 unfold zml at h |-
 split at h
 ·exact ⟨h.1,hk _ _ h.2⟩
 ·refine ⟨h.1,h.2.1,h.2.2.1,h.2.2.2.1, ?_⟩
  have h2:=h.2.2.2.2;split at h2
  ·exact ⟨h2.1,hk _ _ h2.2⟩
  ·exact h2.elim
 ·exact h.elim
theorem zi3 {o:AOp} {K1 K2:AF->AS->Prop} (hk:∀ φ σ,K1 φ σ->K2 φ σ) (h:za4 P inv w0 M N o φ σ K1):za4 P inv w0 M N o φ σ K2:=by
 cases o with
 |set d e =>
  simp only[za4,aop]at h |-
  obtain ⟨x,k1,k2⟩:=zkW e _ h;exact k2 σ (.refl _ σ) _ (hk _ _ k1)
 |alloc d z=>simp only[za4,aop]at h |-;exact hk _ _ h
 |box d n x=>simp only[za4,aop]at h |-;exact ⟨h.1,h.2.1,hk _ _ h.2.2⟩
 |isnil d neg x =>
  simp only[za4,aop]at h |-
  split at h
  ·exact ⟨fun e=>hk _ _ (h.1 e),hk _ _ h.2⟩
  ·exact ⟨fun e=>hk _ _ (h.1 e),hk _ _ h.2⟩
  ·exact ⟨h.1,fun e=>hk _ _ (h.2.1 e),hk _ _ h.2.2⟩
  ·exact h.elim
 |mks0 d sz=>simp only[za4,aop]at h |-;exact hk _ _ h
 |mksl d sz len z ps =>
  simp only[za4,aop]at h |-
  obtain ⟨cs,e,h⟩:=za2 h;rw[e];simp only[zd1];cases eb:zaf cs<;>rw[eb]at h<;>exact hk _ _ h
 |store n a x =>
  simp only[za4,aop]at h |-
  split at h
  ·split at h
   ·exact ⟨h.1,h.2.1,h.2.2.1,h.2.2.2.1,hk _ _ h.2.2.2.2⟩
   ·exact h.elim
  ·exact h.elim
 |app d s x sz=>simp only[za4,aop]at h |-;exact zcJ (fun m l h=>zc2 (fun r σ' h'=>⟨h'.1,hk _ _ h'.2⟩) h) h
 |make d a c z sz =>
  simp only[za4,aop]at h |-
  split at h
  ·exact ⟨h.1,hk _ _ h.2⟩
  ·exact h.elim
 |call d j args=>simp only[za4]at h |-;exact h.mono fun r σ' h'=>⟨h'.1,hk _ _ h'.2⟩
 |calv d f args =>
  simp only[za4]at h |-
  split at h
  ·exact h.mono fun r σ' h'=>⟨h'.1,hk _ _ h'.2⟩
  ·exact h.elim
 |callp d j args =>
  simp only[za4,aop]at h |-
  obtain ⟨r,h1,h2⟩:=h;exact ⟨r,h1,hk _ _ h2⟩
 |gal d back z =>
  simp only[za4,aop]at h |-
  split at h
  ·exact ⟨h.1,hk _ _ h.2⟩
  ·exact h.elim
 |storeA n a x pts =>
  simp only[za4,aop]at h |-
  split at h
  ·refine ⟨h.1, ?_⟩
   have h:=h.2;split at h
   ·exact ⟨h.1,h.2.1,h.2.2.1,h.2.2.2.1,hk _ _ h.2.2.2.2⟩
   ·exact h.elim
  ·exact h.elim
 |bad d=>exact h.elim
 |mkmap d=>simp only[za4,aop]at h |-;exact hk _ _ h
 |appe d s x sz=>simp only[za4,aop]at h |-;exact zcJ (fun m l h=>zc2 (fun r σ' h'=>hk _ _ h') h) h
 |appA d s x sz pts=>simp only[za4,aop]at h |-;exact zcJ (fun m l h=>⟨h.1,zc2 (fun r σ' h'=>hk _ _ h') h.2⟩) h
 |mksr d sz len z ps =>
  simp only[za4,aop]at h |-
  obtain ⟨cs,e,h⟩:=za2 h;rw[e];simp only[zd1];exact hk _ _ h
 |callA d j args pts=>simp only[za4,aop]at h |-;exact h.mono fun r σ' h'=>⟨h'.1,hk _ _ h'.2⟩
 |clr s z sz =>
  simp only[za4,aop]at h |-
  split at h
  ·exact hk _ _ h
  ·refine ⟨h.1,h.2.1, ?_⟩
   have h2:=h.2.2;split at h2
   ·exact ⟨h2.1,hk _ _ h2.2⟩
   ·exact h2.elim
  ·exact h.elim
 |calle d j args=>simp only[za4,aop]at h |-;exact h.mono fun r σ' h'=>hk _ _ h'
 |calve d f args =>
  simp only[za4,aop]at h |-
  split at h
  ·exact h.mono fun r σ' h'=>hk _ _ h'
  ·exact h.elim
 |mapset m k v =>
  simp only[za4,aop]at h |-
  split at h
  ·split at h
   ·exact hk _ _ h
   ·exact h.elim
  ·exact h.elim
 |appz d s n z sz =>
  simp only[za4,aop]at h |-
  split at h
  ·exact ⟨h.1,hk _ _ h.2⟩
  ·exact h.elim
def Sw (o:AOp) (φ φ1:AF) (σ:AS) (K:AF->AS->Prop):AF->AS->Prop:=fun φ' σ'=>(zm6 o=true\/SLx (!zem o) σ σ')/\∃ r,φ'=zcu φ o.dst r/\K (zcu φ1 o.dst r) σ'
theorem zjy {l l' ver:Nat} {cs xs:List AV} {r:Bool} {off:Nat} (hg:zah σ l=some (.cells cs r)) (h:zcd σ l' ver):zcd (sput σ l (.cells (ovl cs off xs) r)) l' ver:=by
 unfold zcd at h |-
 rw[zag];by_cases e:l'=l
 ·subst e
  rw[hg]at h;simp only[if_true,zb3];exact h
 ·rw[if_neg e]
  exact h
theorem zsn {o:AOp} {K:AF->AS->Prop} (hp:plain o=o) (he:zjd o=false) (h:za4 P inv w0 M N o φ1 σ K) (hr:∀ t∈o.rd,zbl φ t=zbl φ1 t) (hb:zaM φ<=mx N (zaM φ1)) :
  ∃ N2,N<=N2/\za4 P inv w0 M N2 o φ σ (Sw o φ φ1 σ K):=by
 have hfr:zaM φ<=zaw N φ1 σ:=Nat.le_trans hb (by have:=zbw N φ1 σ;exact zlG this.1 this.2.1)
 have hN:N<=zaw N φ1 σ:=(zbw N φ1 σ).1;have hfe:zaw (zaw N φ1 σ) φ σ=zaw N φ1 σ:=znd hfr (zbw N φ1 σ).2.2;have hsl:∀ o,SLe σ (sput σ (zaw N φ1 σ) o):=zi8 N φ1 σ;cases o with
 |set d e =>
  refine ⟨N,Nat.le_refl _, ?_⟩;simp only[za4,aop,AOp.rd]at h hr |-
  rw[zsk hr];obtain ⟨x,hk,hd⟩:=zkW e _ h;exact hd σ (.refl _ σ) _ ⟨.inr (.refl _ σ),x,rfl,hk⟩
 |alloc d z =>
  refine ⟨_,hN, ?_⟩;simp only[za4,aop]at h |-
  rw[hfe];exact ⟨(.inr ((hsl _).x _)),_,rfl,h⟩
 |box d n x =>
  refine ⟨_,hN, ?_⟩;simp only[za4,aop,AOp.rd]at h hr |-
  rw[hfe,zbb hr];exact ⟨h.1,h.2.1,(.inr ((hsl _).x _)),_,rfl,h.2.2⟩
 |isnil d neg x =>
  refine ⟨N,Nat.le_refl _, ?_⟩;simp only[za4,aop,AOp.rd]at h hr |-
  rw[zbb hr];split at h
  ·exact ⟨fun e=>⟨.inr (SLx.refl _ σ),_,rfl,h.1 e⟩,.inr (SLx.refl _ σ),_,rfl,h.2⟩
  ·exact ⟨fun e=>⟨.inr (SLx.refl _ σ),_,rfl,h.1 e⟩,.inr (SLx.refl _ σ),_,rfl,h.2⟩
  ·exact ⟨h.1,fun e=>⟨.inr (SLx.refl _ σ),_,rfl,h.2.1 e⟩,.inr (SLx.refl _ σ),_,rfl,h.2.2⟩
  ·exact h.elim
 |mks0 d sz =>
  refine ⟨N,Nat.le_refl _, ?_⟩;simp only[za4,aop]at h |-
  exact ⟨.inr (SLx.refl _ σ),_,rfl,h⟩
 |mksl d sz len z ps =>
  refine ⟨_,hN, ?_⟩;simp only[za4,aop,AOp.rd]at h hr |-
  rw[hfe,ze9 _ hr];obtain ⟨cs,e,h⟩:=za2 h;rw[e];simp only[zd1];cases eb:zaf cs<;>rw[eb]at h
  ·exact ⟨(.inr ((hsl _).x _)),_,rfl,h⟩
  ·exact ⟨.inr (SLx.refl _ σ),_,rfl,h⟩
 |store n a x =>
  refine ⟨N,Nat.le_refl _, ?_⟩;simp only[za4,aop,AOp.rd,List.mem_append]at h hr |-
  rw[zbb fun t ht=>hr t (.inl ht),zbb fun t ht=>hr t (.inr ht)]
  split at h
  ·split at h
   ·rename_i hg
    exact ⟨h.1,h.2.1,h.2.2.1,h.2.2.2.1,(.inr ⟨fun l' ver hl=>zjy hg hl,fun e=>by simp[zem]at e⟩),.u,rfl,h.2.2.2.2⟩
   ·exact h.elim
  ·exact h.elim
 |app d s x sz =>
  refine ⟨_,hN, ?_⟩;simp only[za4,aop,AOp.rd,List.mem_append]at h hr |-
  rw[hfe,zbb fun t ht=>hr t (.inl ht),zbb fun t ht=>hr t (.inr ht)]
  refine zcJ (fun m l hk=>zc2 (fun r σ' h'=>?_) hk) h
  exact ⟨h'.1,(.inr (SLe.x h'.1 _)),r,rfl,h'.2⟩
 |make d l c z sz =>
  refine ⟨_,hN, ?_⟩;simp only[za4,aop,AOp.rd,List.mem_append]at h hr |-
  rw[hfe,zbb fun t ht=>hr t (.inl ht),zbb fun t ht=>hr t (.inr ht)]
  split at h
  ·exact ⟨h.1,(.inr ((hsl _).x _)),_,rfl,h.2⟩
  ·exact h.elim
 |call d j args =>
  refine ⟨N,Nat.le_refl _, ?_⟩;simp only[za4,AOp.rd]at h hr |-
  rw[zdi hr];exact (h.frame hb).mono fun r σ' h'=>⟨h'.1,(.inr (SLe.x h'.1 _)),r,rfl,h'.2⟩
 |calv d f args =>
  refine ⟨N,Nat.le_refl _, ?_⟩;simp only[za4,AOp.rd,List.mem_append]at h hr |-
  rw[zbb fun t ht=>hr t (.inl ht),zdi fun t ht=>hr t (.inr ht)]
  split at h
  ·exact (h.frame hb).mono fun r σ' h'=>⟨h'.1,(.inr (SLe.x h'.1 _)),r,rfl,h'.2⟩
  ·exact h.elim
 |callp d j args =>
  refine ⟨N,Nat.le_refl _, ?_⟩;simp only[za4,aop,AOp.rd]at h hr |-
  rw[zdi hr];obtain ⟨r,h1,h2⟩:=h;exact ⟨r,h1,.inr (SLx.refl _ σ),r,rfl,h2⟩
 |gal d back z =>
  refine ⟨N,Nat.le_refl _, ?_⟩;simp only[za4,aop]at h |-
  split at h
  ·rename_i hg
   exact ⟨h.1,(.inr ((zgB _ (.inr hg)).x _)),_,rfl,h.2⟩
  ·exact h.elim
 |storeA n a x pts=>simp[plain]at hp
 |bad d=>exact h.elim
 |appA d s x sz pts =>
  refine ⟨_,hN, ?_⟩;have hpt:pts=[]:=by simpa [plain] using hp.symm
  subst hpt;simp only[za4,aop,AOp.rd,List.mem_append]at h hr |-
  rw[hfe,zbb fun t ht=>hr t (.inl ht),zbb fun t ht=>hr t (.inr ht)]
  refine zcJ (fun m l hk=>⟨by cases ev φ1 s<;>rfl,zc2 (fun r σ' h'=>?_) hk.2⟩) h
  exact ⟨.inl rfl,r,rfl,h'⟩
 |mksr d sz len z ps =>
  refine ⟨_,hN, ?_⟩;simp only[za4,aop,AOp.rd]at h hr |-
  rw[hfe,ze9 _ hr];obtain ⟨cs,e,h⟩:=za2 h;rw[e];simp only[zd1];exact ⟨(.inr ((hsl _).x _)),_,rfl,h⟩
 |callA d j args pts =>
  refine ⟨N,Nat.le_refl _, ?_⟩;have hpt:pts=[]:=by simpa [plain] using hp.symm
  subst hpt;simp only[za4,aop,AOp.rd]at h hr |-
  rw[zdi hr];exact (h.frame hb).mono fun r σ' h'=>⟨trivial,.inl rfl,r,rfl,h'.2⟩
 |clr s z sz =>
  refine ⟨N,Nat.le_refl _, ?_⟩;simp only[za4,aop,AOp.rd]at h hr |-
  rw[zbb fun t ht=>hr t ht]
  split at h
  ·exact ⟨.inr (SLx.refl _ σ),.u,rfl,h⟩
  ·refine ⟨h.1,h.2.1, ?_⟩
   have h2:=h.2.2;split at h2
   ·rename_i hg
    exact ⟨h2.1,(.inr ⟨fun l' ver hl=>zjy hg hl,fun e=>by simp[zem]at e⟩),.u,rfl,h2.2⟩
   ·exact h2.elim
  ·exact h.elim
 |appe d s x sz=>cases he
 |calle d j args=>cases he
 |calve d f args=>cases he
 |mkmap d =>
  refine ⟨_,hN, ?_⟩;simp only[za4,aop]at h |-
  rw[hfe];exact ⟨(.inr ((hsl _).x _)),_,rfl,h⟩
 |mapset m k v =>
  refine ⟨N,Nat.le_refl _, ?_⟩;simp only[za4,aop,AOp.rd,List.mem_append]at h hr |-
  rw[zbb fun t ht=>hr t (.inl ht),zbb fun t ht=>hr t (.inr (.inl ht)),zbb fun t ht=>hr t (.inr (.inr ht))]
  split at h
  ·rename_i l a b _ _ _
   split at h
   ·rename_i kvs hg
    refine ⟨.inr ⟨fun l' ver hl=>?_,fun e=>by simp[zem]at e⟩,.u,rfl,h⟩
    unfold zcd at hl |-
    rw[zag];by_cases e:l'=l
    ·subst e;rw[hg]at hl;exact hl.elim
    ·rw[if_neg e];exact hl
   ·exact h.elim
  ·exact h.elim
 |appz d s n z sz =>
  refine ⟨_,hN, ?_⟩;simp only[za4,aop,AOp.rd,List.mem_append]at h hr |-
  rw[hfe,zbb fun t ht=>hr t (.inl ht),zbb fun t ht=>hr t (.inr ht)]
  split at h
  ·exact ⟨h.1,(.inr ((hsl _).x _)),_,rfl,h.2⟩
  ·exact h.elim
def zfO (P:Program) (inv:Nat->Option Nat) (w0:World) (M:Nat->Prop) (N:Nat) (g:GOp) (φ:AF) (σ:AS) (K:AF->AS->Prop):Prop :=
 match g with
 |(none,o)=>za4 P inv w0 M N o φ σ K
 |(some (s,want),o)=>(∃ t,zbl φ s=.b t/\(t=want->za4 P inv w0 M N o φ σ K)/\(¬t=want->K (zcu φ o.dst .u) σ))\/(zbl φ s=.u/\K (zcu φ o.dst .u) σ)
def zno (P:Program) (inv:Nat->Option Nat) (w0:World) (M:Nat->Prop) (N:Nat):List GOp->(AF->AS->Prop)->AF->AS->Prop
 |[],K,φ,σ=>K φ σ
 |g::r,K,φ,σ=>zfO P inv w0 M N g φ σ (zno P inv w0 M N r K)
theorem awpL_of:∀ {l:List GOp} {K:AF->AS->Prop} {φ:AF} {σ:AS},zbB P inv w0 M N l K φ σ->zno P inv w0 M N l K φ σ:=by
 intro l
 induction l with
 |nil=>exact fun h=>h
 |cons g l ih =>
  intro K φ σ h;have mono:∀ {o:AOp} {φ:AF} {σ:AS},za4 P inv w0 M N o φ σ (zbB P inv w0 M N l K)->za4 P inv w0 M N o φ σ (zno P inv w0 M N l K):=by
   intro o φ σ h;exact zi3 (fun _ _ h=>ih h) h
  obtain ⟨g,o⟩:=g;cases g with
  |none=>exact mono h
  |some sw =>
   obtain ⟨s,want⟩:=sw;cases want<;>simp only[zbB]at h<;>split at h
   all_goals first|exact h.elim|skip
   ·rename_i t et
    refine .inl ⟨t,et,fun e=>?_,fun e=>?_⟩
    ·have:=h.2 e;rw[zeo (by rw[et,e])]at this;exact mono this
    ·have e':t=true:=by simpa using e
     have:=h.1 e';rw[zeo (by rw[et,e'])]at this;exact ih this
   ·rename_i et;exact .inr ⟨et,ih h⟩
   ·rename_i t et
    refine .inl ⟨t,et,fun e=>?_,fun e=>?_⟩
    ·have:=h.1 e;rw[zeo (by rw[et,e])]at this;exact mono this
    ·have e':t=false:=by simpa using e
     have:=h.2 e';rw[zeo (by rw[et,e'])]at this;exact ih this
   ·rename_i et;exact .inr ⟨et,ih h⟩
end
theorem zfY {a b:Nat} (hne:a≠b) (x y:AO):∀ σ:AS,sput (sput σ a x) b y=sput (sput σ b y) a x
 |[]=>by
  simp only[sput];rcases Nat.lt_or_gt_of_ne hne with h|h
  ·rw[if_neg (Ne.symm hne),if_neg (by omega),if_neg hne,if_pos h]
  ·rw[if_neg (Ne.symm hne),if_pos h,if_neg hne,if_neg (by omega)]
 |(j,z)::r=>by
  have ih:=zfY hne x y r;simp only[sput];rcases Nat.lt_trichotomy a j with ha|ha|ha<;>rcases Nat.lt_trichotomy b j with hb|hb|hb
  all_goals (try subst ha)<;>(try subst hb)
  all_goals first|(exact absurd rfl hne)|skip
  all_goals (repeat' split)<;>simp only[sput]<;>(repeat' split)<;>first|rfl|omega|(exfalso;contradiction)|(exact absurd trivial (by assumption))|(simp only[ih];done)|skip
theorem zep (d:Nat) (x:AV):∀ φ:AF,zaM φ<=mx (zbl φ d).bound (zaM (zbq φ d x))
 |[]=>by simp[zaM]
 |(j,y)::r=>by
  simp only[zbl,zbq];by_cases h:d=j
  ·rw[if_pos h,if_pos h]
   simp only[zaM];exact zlG (zaQ _ _) (Nat.le_trans (zaq x.bound (zaM r)) (zaq _ _))
  ·rw[if_neg h,if_neg h]
   split
   ·simp only[zaM]
    exact Nat.le_trans (zaq x.bound _) (zaq _ _)
   ·simp only[zaM]
    have ih:=zep d x r;refine zlG (Nat.le_trans (zaQ _ _) (zaq _ _)) (Nat.le_trans ih (zlG (zaQ _ _) (Nat.le_trans (zaq _ _) (zaq _ _))))
section
variable {P:Program} {inv:Nat->Option Nat} {w0:World} {M:Nat->Prop} {n N:Nat} {φ φ1:AF} {σ:AS}
theorem ziF {g:GOp} {K1 K2:AF->AS->Prop} (hk:∀ φ σ,K1 φ σ->K2 φ σ) (h:zfO P inv w0 M N g φ σ K1):zfO P inv w0 M N g φ σ K2:=by
 obtain ⟨gd,o⟩:=g;cases gd with
 |none=>exact zi3 hk h
 |some sw =>
  rcases h with ⟨t,e,h1,h2⟩|⟨e,h⟩
  ·exact .inl ⟨t,e,fun k=>zi3 hk (h1 k),fun k=>hk _ _ (h2 k)⟩
  ·exact .inr ⟨e,hk _ _ h⟩
theorem gopD_val {g:GOp} {K:AF->AS->Prop} (hv:zpn g.2=true) (h:zfO P inv w0 M N g φ σ K) :
  ∃ d x,g.2.dst=some d/\K (zbq φ d x) σ/\∀ (φ':AF) (σ':AS) (K':AF->AS->Prop),(∀ t∈grd g,zbl φ' t=zbl φ t)->SLx (isLdO g.2) σ σ'->K' (zbq φ' d x) σ'->zfO P inv w0 M N g φ' σ' K':=by
 obtain ⟨gd,o⟩:=g;have key:za4 P inv w0 M N o φ σ K->∃ d x,o.dst=some d/\K (zbq φ d x) σ/\∀ (φ':AF) (σ':AS) (K':AF->AS->Prop),(∀ t∈o.rd,zbl φ' t=zbl φ t)->SLx (isLdO o) σ σ'->K' (zbq φ' d x) σ'->za4 P inv w0 M N o φ' σ' K':=by
  clear h;intro h;cases o with
  |set d e =>
   simp only[za4,aop]at h;obtain ⟨x,k1,k2⟩:=zkW e _ h;refine ⟨d,x,rfl,k1,fun φ' σ' K' hr hs hk=>?_⟩
   simp only[za4,aop];rw[zsk hr];exact k2 σ' hs _ hk
  |callp d j args =>
   simp only[za4,aop]at h;obtain ⟨x,k1,k2⟩:=h;refine ⟨d,x,rfl,k2,fun φ' σ' K' hr hs hk=>?_⟩
   simp only[za4,aop];simp only[AOp.rd]at hr;rw[zdi hr];refine ⟨x,fun N' φ2 σ2 h2=>k1 N' φ2 σ2 fun l o e hne=>?_,hk⟩
   exact h2 l o ((hs.2 rfl) l o e hne) hne
  |_=>simp[zpn]at hv
 have hdst:∃ d,o.dst=some d:=by cases o<;>simp only[zpn,Bool.false_eq_true]at hv<;>exact ⟨_,rfl⟩
 cases gd with
 |none=>exact key h
 |some sw =>
  obtain ⟨s,want⟩:=sw;obtain ⟨d,hd⟩:=hdst;rcases h with ⟨t,et,h1,h2⟩|⟨et,h⟩
  ·by_cases htw:t=want
   ·obtain ⟨d',x,k0,k1,k2⟩:=key (h1 htw)
    refine ⟨d',x,k0,k1,fun φ' σ' K' hr hs hk=>.inl ⟨t, ?_,fun _=>k2 φ' σ' K' (fun t ht=>hr t ?_) hs hk,fun e=>absurd htw e⟩⟩
    ·rw[hr s (by simp[grd])];exact et
    ·simp only[grd,List.mem_cons];exact .inr ht
   ·have h3:=h2 htw
    rw[hd]at h3;refine ⟨d,.u,hd,h3,fun φ' σ' K' hr hs hk=>.inl ⟨t, ?_,fun e=>absurd e htw,fun _=>by rw[hd];exact hk⟩⟩
    rw[hr s (by simp[grd])];exact et
  ·rw[hd]at h
   refine ⟨d,.u,hd,h,fun φ' σ' K' hr hs hk=>.inr ⟨?_,by rw[hd];exact hk⟩⟩
   rw[hr s (by simp[grd])];exact et
theorem zrM {g:GOp} {K:AF->AS->Prop} (hp:plain g.2=g.2) (he:zjd g.2=false) (h:zfO P inv w0 M N g φ1 σ K) (hr:∀ t∈grd g,zbl φ t=zbl φ1 t) (hb:zaM φ<=mx N (zaM φ1)) :
  ∃ N2,N<=N2/\zfO P inv w0 M N2 g φ σ (Sw g.2 φ φ1 σ K):=by
 obtain ⟨gd,o⟩:=g;cases gd with
 |none=>exact zsn hp he h hr hb
 |some sw =>
  obtain ⟨s,want⟩:=sw;have hrs:zbl φ s=zbl φ1 s:=hr s (by simp[grd])
  have hro:∀ t∈o.rd,zbl φ t=zbl φ1 t:=fun t ht=>hr t (by simp only[grd,List.mem_cons];exact .inr ht)
  rcases h with ⟨t,et,h1,h2⟩|⟨et,h⟩
  ·by_cases htw:t=want
   ·obtain ⟨N2,hN,h3⟩:=zsn hp he (h1 htw) hro hb
    exact ⟨N2,hN,.inl ⟨t,hrs.trans et,fun _=>h3,fun e=>absurd htw e⟩⟩
   ·exact ⟨N,Nat.le_refl _,.inl ⟨t,hrs.trans et,fun e=>absurd e htw,fun _=>⟨.inr (.refl _ σ),.u,rfl,h2 htw⟩⟩⟩
  ·exact ⟨N,Nat.le_refl _,.inr ⟨hrs.trans et,.inr (.refl _ σ),.u,rfl,h⟩⟩
def Fav (σ σ':AS) (v:AV):Prop:=(∀ m y,zds σ m v=some y->zds σ' m v=some y)/\∀ l ver off,v=.ptr l ver off->zcd σ l ver->zcd σ' l ver
theorem Fav.refl (σ:AS) (v:AV):Fav σ σ v:=⟨fun _ _ h=>h,fun _ _ _ _ h=>h⟩
theorem Fav.of_sle {σ σ':AS} (h:SLe σ σ') (v:AV):Fav σ σ' v:=⟨fun _ _ e=>zjQ h e,fun _ _ _ _ e=>zlM h e⟩
def Far (pts:List Opd) (φ:AF) (σ σ':AS):Prop:=∀ p∈pts,Fav σ σ' (ev φ p)
theorem zso {l:Nat} {o:AO} {v y:AV} {m:Option Nat} (h:ziZ l v=true) (hl:zds σ m v=some y):zds (sput σ l o) m v=some y:=by
 cases v<;>simp only[zds]at hl |-<;>try exact hl
 have h':∀ {a:Nat},a.beq l=false->a≠l:=fun e e'=>by subst e';simp at e
 simp only[ziZ,Bool.not_eq_true']at h;rw[zag,if_neg (h' h)];exact hl
theorem zrY {l:Nat} {o:AO} {v:AV} (h:ziZ l v=true):Fav σ (sput σ l o) v:=by
 refine ⟨fun m y hl=>zso h hl,fun l' ver off e hl=>?_⟩
 subst e;simp only[ziZ,Bool.not_eq_true']at h;unfold zcd at hl |-
 rw[zag,if_neg (fun e=>by subst e;simp at h)]
 exact hl
theorem far_app {N:Nat} {φ0:AF} {d sz m:Nat} {dest:AV} {new:List AV} {pts:List Opd} {K:AF->AS->Prop} (hf:zpB φ dest pts=true) (h:zml φ0 σ (zaw N φ0 σ) d sz dest m new K):zml φ0 σ (zaw N φ0 σ) d sz dest m new (fun φ' σ'=>K φ' σ'/\Far pts φ σ σ'):=by
 unfold zml at h |-
 split at h
 ·exact ⟨h.1,h.2,fun p _=>.of_sle (zi8 N φ0 σ _) _⟩
 ·refine ⟨h.1,h.2.1,h.2.2.1,h.2.2.2.1, ?_⟩
  have h2:=h.2.2.2.2;split at h2
  ·exact ⟨h2.1,h2.2,fun p hp=>zrY (List.all_eq_true.1 hf p hp)⟩
  ·exact h2.elim
 ·exact h.elim
theorem fav_keep {σ σ':AS} {v:AV} (h:zrd σ σ' v):Fav σ σ' v:=by
 cases v with
 |ptr l ver off =>
  simp only[zrd]at h;refine ⟨fun m y hl=>?_,fun l' ver' off' e hl=>?_⟩
  ·simp only[zds]at hl |-;rw[h];exact hl
  ·cases e
   unfold zcd at hl |-
   rw[h];exact hl
 |_=>exact ⟨fun m y hl=>(by simpa only[zds] using hl),fun l' ver' off' e=>by cases e⟩
theorem far_of {φ:AF} {σ σ':AS}:∀ {pts:List Opd},farP φ σ σ' pts->Far pts φ σ σ'
 |[],_,p,hp=>by cases hp
 |q::r,h,p,hp=>by
  simp only[farP]at h;rcases List.mem_cons.1 hp with rfl|hp
  ·exact fav_keep h.1
  ·exact far_of h.2 p hp
theorem zrN {i:GOp} {K:AF->AS->Prop} (h:zfO P inv w0 M N i φ σ K) :
  ∃ N2,N<=N2/\zfO P inv w0 M N2 (zck i) φ σ (fun φ' σ'=>(∃ r,φ'=zcu φ i.2.dst r/\K φ' σ')/\Far (zgU i.2) φ σ σ'):=by
 obtain ⟨gd,o⟩:=i;cases heff:zjd o with
 |true =>
  refine ⟨N,Nat.le_refl _, ?_⟩;have he:zck (gd,o)=(gd,o):=by cases o<;>first|rfl|cases heff
  rw[he];have key:za4 P inv w0 M N o φ σ K->za4 P inv w0 M N o φ σ (fun φ' σ'=>(∃ r,φ'=zcu φ o.dst r/\K φ' σ')/\Far (zgU o) φ σ σ'):=by
   intro h;cases o<;>first|(cases heff;done)|skip
   ·simp only[za4,aop]at h |-
    exact h.mono fun r σ' h'=>⟨⟨r,rfl,h'⟩,fun p hp=>by cases hp⟩
   ·simp only[za4,aop]at h |-
    split at h
    ·exact h.mono fun r σ' h'=>⟨⟨r,rfl,h'⟩,fun p hp=>by cases hp⟩
    ·exact h.elim
   ·simp only[za4,aop]at h |-
    exact zcJ (fun m l h=>zc2 (fun r σ' h'=>⟨⟨r,rfl,h'⟩,fun p hp=>by cases hp⟩) h) h
  have hpt:zgU o=[]:=by cases o<;>first|rfl|cases heff
  cases gd with
  |none=>exact key h
  |some sw =>
   obtain ⟨s,want⟩:=sw;rcases h with ⟨t,et,h1,h2⟩|⟨et,h⟩
   ·exact .inl ⟨t,et,fun e=>key (h1 e),fun e=>⟨⟨.u,rfl,h2 e⟩,fun p hp=>by simp only[hpt]at hp;cases hp⟩⟩
   ·exact .inr ⟨et,⟨.u,rfl,h⟩,fun p hp=>by simp only[hpt]at hp;cases hp⟩
 |false =>
 by_cases hp:plain o=o
 ·obtain ⟨N2,hN,h2⟩:=zrM (g:=(gd,o)) (φ:=φ) hp heff h (fun _ _=>rfl) (zaq _ _)
  refine ⟨N2,hN, ?_⟩;have he:zck (gd,o)=(gd,o):=by unfold zck;simp only[hp]
  rw[he];refine ziF (fun φ' σ' hk=>?_) h2
  obtain ⟨_,r,rfl,hk⟩:=hk;refine ⟨⟨r,rfl,hk⟩, ?_⟩;cases o<;>first|(intro p hp';cases hp';done)|(simp[plain]at hp;done)|(simp[plain]at hp;subst hp;intro p hp';cases hp';done)
 ·cases o<;>first|(exact absurd rfl hp)|skip
  case appA dd s x sz pts =>
   refine ⟨N,Nat.le_refl _, ?_⟩;have key:za4 P inv w0 M N (.appA dd s x sz pts) φ σ K->za4 P inv w0 M N (.appA dd s x sz []) φ σ (fun φ' σ'=>(∃ r,φ'=zcu φ (AOp.appA dd s x sz pts).dst r/\K φ' σ')/\Far pts φ σ σ'):=by
    intro h;simp only[za4,aop]at h |-
    exact zcJ (fun m l hk=>⟨by cases ev φ s<;>rfl,zc2 (fun r σ' h'=>⟨⟨r,rfl,h'.1⟩,h'.2⟩) (far_app hk.1 hk.2)⟩) h
   cases gd with
   |none=>exact key h
   |some sw =>
    obtain ⟨s,want⟩:=sw;rcases h with ⟨t,et,h1,h2⟩|⟨et,h⟩
    ·exact .inl ⟨t,et,fun e=>key (h1 e),fun e=>⟨⟨.u,rfl,h2 e⟩,fun _ _=>.refl _ _⟩⟩
    ·exact .inr ⟨et,⟨.u,rfl,h⟩,fun _ _=>.refl _ _⟩
  case callA dd j l pts =>
   refine ⟨N,Nat.le_refl _, ?_⟩;have key:za4 P inv w0 M N (.callA dd j l pts) φ σ K->za4 P inv w0 M N (.callA dd j l []) φ σ (fun φ' σ'=>(∃ r,φ'=zcu φ (AOp.callA dd j l pts).dst r/\K φ' σ')/\Far pts φ σ σ'):=by
    intro h;simp only[za4,aop]at h |-
    exact h.mono fun r σ' h'=>⟨trivial,⟨r,rfl,h'.2⟩,far_of h'.1⟩
   cases gd with
   |none=>exact key h
   |some sw =>
    obtain ⟨s,want⟩:=sw;rcases h with ⟨t,et,h1,h2⟩|⟨et,h⟩
    ·exact .inl ⟨t,et,fun e=>key (h1 e),fun e=>⟨⟨.u,rfl,h2 e⟩,fun _ _=>.refl _ _⟩⟩
    ·exact .inr ⟨et,⟨.u,rfl,h⟩,fun _ _=>.refl _ _⟩
  rename_i nn a x pts;refine ⟨N,Nat.le_refl _, ?_⟩;have key:za4 P inv w0 M N (.storeA nn a x pts) φ σ K->za4 P inv w0 M N (.store nn a x) φ σ (fun φ' σ'=>(∃ r,φ'=zcu φ (AOp.storeA nn a x pts).dst r/\K φ' σ')/\Far pts φ σ σ'):=by
   intro h;simp only[za4,aop]at h |-
   split at h
   ·rename_i l ver off e
    have hf:=h.1;have h:=h.2;split at h
    ·exact ⟨h.1,h.2.1,h.2.2.1,h.2.2.2.1,⟨.u,rfl,h.2.2.2.2⟩,fun p hp=>zrY (List.all_eq_true.1 hf p hp)⟩
    ·exact h.elim
   ·exact h.elim
  cases gd with
  |none=>exact key h
  |some sw =>
   obtain ⟨s,want⟩:=sw;rcases h with ⟨t,et,h1,h2⟩|⟨et,h⟩
   ·exact .inl ⟨t,et,fun e=>key (h1 e),fun e=>⟨⟨.u,rfl,h2 e⟩,fun _ _=>.refl _ _⟩⟩
   ·exact .inr ⟨et,⟨.u,rfl,h⟩,fun _ _=>.refl _ _⟩
theorem gopD_ld {g:GOp} {d:Nat} {m:Option Nat} {p:Opd} {K:AF->AS->Prop} (hg:g.2=.set d (.load m p)) (h:zfO P inv w0 M N g φ σ K) :
  ∃ x,K (zbq φ d x) σ/\∀ (φ':AF) (σ':AS) (K':AF->AS->Prop),(∀ t∈grd g,zbl φ' t=zbl φ t)->(∀ v,zds σ m (ev φ p)=some v->zds σ' m (ev φ p)=some v)->K' (zbq φ' d x) σ'->zfO P inv w0 M N g φ' σ' K':=by
 obtain ⟨gd,o⟩:=g;simp only at hg;subst hg;have key:za4 P inv w0 M N (.set d (.load m p)) φ σ K->∃ x,K (zbq φ d x) σ/\∀ (φ':AF) (σ':AS) (K':AF->AS->Prop),(∀ t∈p.rd,zbl φ' t=zbl φ t)->(∀ v,zds σ m (ev φ p)=some v->zds σ' m (ev φ p)=some v)->K' (zbq φ' d x) σ'->za4 P inv w0 M N (.set d (.load m p)) φ' σ' K':=by
  clear h;intro h;simp only[za4,aop,zdN]at h;obtain ⟨v,e,hk⟩:=za2 h;refine ⟨v,hk,fun φ' σ' K' hr hs hk'=>?_⟩
  simp only[za4,aop,zdN];rw[zbb hr,hs v e];exact hk'
 cases gd with
 |none=>exact key h
 |some sw =>
  obtain ⟨s,want⟩:=sw;rcases h with ⟨t,et,h1,h2⟩|⟨et,h⟩
  ·by_cases htw:t=want
   ·obtain ⟨x,k1,k2⟩:=key (h1 htw)
    refine ⟨x,k1,fun φ' σ' K' hr hs hk=>.inl ⟨t, ?_,fun _=>k2 φ' σ' K' (fun t ht=>hr t ?_) hs hk,fun e=>absurd htw e⟩⟩
    ·rw[hr s (by simp[grd])];exact et
    ·simp only[grd,List.mem_cons];exact .inr ht
   ·refine ⟨.u,h2 htw,fun φ' σ' K' hr hs hk=>.inl ⟨t, ?_,fun e=>absurd e htw,fun _=>hk⟩⟩
    rw[hr s (by simp[grd])];exact et
  ·refine ⟨.u,h,fun φ' σ' K' hr hs hk=>.inr ⟨?_,hk⟩⟩
   rw[hr s (by simp[grd])];exact et
theorem gopD_fad {g:GOp} {d:Nat} {m:Nat} {p:Opd} {K:AF->AS->Prop} (hg:g.2=.set d (.fadr p m)) (h:zfO P inv w0 M N g φ σ K) :
  ∃ x,K (zbq φ d x) σ/\∀ (φ':AF) (σ':AS) (K':AF->AS->Prop),(∀ t∈grd g,zbl φ' t=zbl φ t)->Fav σ σ' (ev φ p)->K' (zbq φ' d x) σ'->zfO P inv w0 M N g φ' σ' K':=by
 obtain ⟨gd,o⟩:=g;simp only at hg;subst hg;have key:za4 P inv w0 M N (.set d (.fadr p m)) φ σ K->∃ x,K (zbq φ d x) σ/\∀ (φ':AF) (σ':AS) (K':AF->AS->Prop),(∀ t∈p.rd,zbl φ' t=zbl φ t)->Fav σ σ' (ev φ p)->K' (zbq φ' d x) σ'->za4 P inv w0 M N (.set d (.fadr p m)) φ' σ' K':=by
  clear h;intro h;simp only[za4,aop,zdN]at h;split at h
  ·rename_i l ver off e
   refine ⟨_,h.2,fun φ' σ' K' hr hs hk'=>?_⟩
   simp only[za4,aop,zdN];rw[zbb hr,e];exact ⟨hs.2 l ver off e h.1,hk'⟩
  ·rename_i e
   refine ⟨_,h,fun φ' σ' K' hr hs hk'=>?_⟩
   simp only[za4,aop,zdN];rw[zbb hr,e];exact hk'
  ·exact h.elim
 cases gd with
 |none=>exact key h
 |some sw =>
  obtain ⟨s,want⟩:=sw;rcases h with ⟨t,et,h1,h2⟩|⟨et,h⟩
  ·by_cases htw:t=want
   ·obtain ⟨x,k1,k2⟩:=key (h1 htw)
    refine ⟨x,k1,fun φ' σ' K' hr hs hk=>.inl ⟨t, ?_,fun _=>k2 φ' σ' K' (fun t ht=>hr t ?_) hs hk,fun e=>absurd htw e⟩⟩
    ·rw[hr s (by simp[grd])];exact et
    ·simp only[grd,List.mem_cons];exact .inr ht
   ·refine ⟨.u,h2 htw,fun φ' σ' K' hr hs hk=>.inl ⟨t, ?_,fun e=>absurd e htw,fun _=>hk⟩⟩
    rw[hr s (by simp[grd])];exact et
  ·refine ⟨.u,h,fun φ' σ' K' hr hs hk=>.inr ⟨?_,hk⟩⟩
   rw[hr s (by simp[grd])];exact et
theorem gopD_nil {g:GOp} {d:Nat} {p:Opd} {K:AF->AS->Prop} (hg:g.2=.set d (.nilck p)) (h:zfO P inv w0 M N g φ σ K) :
  ∃ x,K (zbq φ d x) σ/\∀ (φ':AF) (σ':AS) (K':AF->AS->Prop),(∀ t∈grd g,zbl φ' t=zbl φ t)->Fav σ σ' (ev φ p)->K' (zbq φ' d x) σ'->zfO P inv w0 M N g φ' σ' K':=by
 obtain ⟨gd,o⟩:=g;simp only at hg;subst hg;have key:za4 P inv w0 M N (.set d (.nilck p)) φ σ K->∃ x,K (zbq φ d x) σ/\∀ (φ':AF) (σ':AS) (K':AF->AS->Prop),(∀ t∈p.rd,zbl φ' t=zbl φ t)->Fav σ σ' (ev φ p)->K' (zbq φ' d x) σ'->za4 P inv w0 M N (.set d (.nilck p)) φ' σ' K':=by
  clear h;intro h;simp only[za4,aop,zdN]at h;split at h
  ·rename_i l ver off e
   refine ⟨_,h.2,fun φ' σ' K' hr hs hk'=>?_⟩
   simp only[za4,aop,zdN];rw[zbb hr,e];exact ⟨hs.2 l ver off e h.1,hk'⟩
  ·rename_i e
   refine ⟨_,h,fun φ' σ' K' hr hs hk'=>?_⟩
   simp only[za4,aop,zdN];rw[zbb hr,e];exact hk'
  ·rename_i e
   refine ⟨_,h,fun φ' σ' K' hr hs hk'=>?_⟩
   simp only[za4,aop,zdN];rw[zbb hr,e];exact hk'
  ·exact h.elim
 cases gd with
 |none=>exact key h
 |some sw =>
  obtain ⟨s,want⟩:=sw;rcases h with ⟨t,et,h1,h2⟩|⟨et,h⟩
  ·by_cases htw:t=want
   ·obtain ⟨x,k1,k2⟩:=key (h1 htw)
    refine ⟨x,k1,fun φ' σ' K' hr hs hk=>.inl ⟨t, ?_,fun _=>k2 φ' σ' K' (fun t ht=>hr t ?_) hs hk,fun e=>absurd htw e⟩⟩
    ·rw[hr s (by simp[grd])];exact et
    ·simp only[grd,List.mem_cons];exact .inr ht
   ·refine ⟨.u,h2 htw,fun φ' σ' K' hr hs hk=>.inl ⟨t, ?_,fun e=>absurd e htw,fun _=>hk⟩⟩
    rw[hr s (by simp[grd])];exact et
  ·refine ⟨.u,h,fun φ' σ' K' hr hs hk=>.inr ⟨?_,hk⟩⟩
   rw[hr s (by simp[grd])];exact et
theorem gopD_mov {g:GOp} {d:Nat} {p:Opd} {K:AF->AS->Prop} (hg:g.2=.set d (.mov p)) (h:zfO P inv w0 M N g φ σ K) :
  ∃ x,K (zbq φ d x) σ/\∀ (φ':AF) (σ':AS) (K':AF->AS->Prop),(∀ t∈grd g,zbl φ' t=zbl φ t)->K' (zbq φ' d x) σ'->zfO P inv w0 M N g φ' σ' K':=by
 obtain ⟨gd,o⟩:=g;simp only at hg;subst hg;have key:za4 P inv w0 M N (.set d (.mov p)) φ σ K->∃ x,K (zbq φ d x) σ/\∀ (φ':AF) (σ':AS) (K':AF->AS->Prop),(∀ t∈p.rd,zbl φ' t=zbl φ t)->K' (zbq φ' d x) σ'->za4 P inv w0 M N (.set d (.mov p)) φ' σ' K':=by
  clear h;intro h;simp only[za4,aop,zdN]at h;refine ⟨_,h,fun φ' σ' K' hr hk'=>?_⟩
  simp only[za4,aop,zdN];rw[zbb hr];exact hk'
 cases gd with
 |none=>exact key h
 |some sw =>
  obtain ⟨s,want⟩:=sw;rcases h with ⟨t,et,h1,h2⟩|⟨et,h⟩
  ·by_cases htw:t=want
   ·obtain ⟨x,k1,k2⟩:=key (h1 htw)
    refine ⟨x,k1,fun φ' σ' K' hr hk=>.inl ⟨t, ?_,fun _=>k2 φ' σ' K' (fun t ht=>hr t ?_) hk,fun e=>absurd htw e⟩⟩
    ·rw[hr s (by simp[grd])];exact et
    ·simp only[grd,List.mem_cons];exact .inr ht
   ·refine ⟨.u,h2 htw,fun φ' σ' K' hr hk=>.inl ⟨t, ?_,fun e=>absurd e htw,fun _=>hk⟩⟩
    rw[hr s (by simp[grd])];exact et
  ·refine ⟨.u,h,fun φ' σ' K' hr hk=>.inr ⟨?_,hk⟩⟩
   rw[hr s (by simp[grd])];exact et
theorem gopD_mk0 {g:GOp} {d sz:Nat} {K:AF->AS->Prop} (hg:g.2=.mks0 d sz) (h:zfO P inv w0 M N g φ σ K) :
  ∃ x,K (zbq φ d x) σ/\∀ (φ':AF) (σ':AS) (K':AF->AS->Prop),(∀ t∈grd g,zbl φ' t=zbl φ t)->K' (zbq φ' d x) σ'->zfO P inv w0 M N g φ' σ' K':=by
 obtain ⟨gd,o⟩:=g;simp only at hg;subst hg;have key:za4 P inv w0 M N (.mks0 d sz) φ σ K->∃ x,K (zbq φ d x) σ/\∀ (φ':AF) (σ':AS) (K':AF->AS->Prop),K' (zbq φ' d x) σ'->za4 P inv w0 M N (.mks0 d sz) φ' σ' K':=by
  clear h;intro h;simp only[za4,aop]at h;exact ⟨_,h,fun φ' σ' K' hk'=>by simp only[za4,aop];exact hk'⟩
 cases gd with
 |none=>obtain ⟨x,h1,h2⟩:=key h;exact ⟨x,h1,fun φ' σ' K' _ hk=>h2 φ' σ' K' hk⟩
 |some sw =>
  obtain ⟨s,want⟩:=sw;rcases h with ⟨t,et,h1,h2⟩|⟨et,h⟩
  ·by_cases htw:t=want
   ·obtain ⟨x,k1,k2⟩:=key (h1 htw)
    refine ⟨x,k1,fun φ' σ' K' hr hk=>.inl ⟨t, ?_,fun _=>k2 φ' σ' K' hk,fun e=>absurd htw e⟩⟩
    rw[hr s (by simp[grd])];exact et
   ·refine ⟨.u,h2 htw,fun φ' σ' K' hr hk=>.inl ⟨t, ?_,fun e=>absurd e htw,fun _=>hk⟩⟩
    rw[hr s (by simp[grd])];exact et
  ·refine ⟨.u,h,fun φ' σ' K' hr hk=>.inr ⟨?_,hk⟩⟩
   rw[hr s (by simp[grd])];exact et
theorem zoF {sz:Nat} {v:AV} {K:Nat->List AV->Prop} (h:zmo σ sz v K):∃ m new,K m new/\∀ (σ':AS) (K':Nat->List AV->Prop),SLe σ σ'->K' m new->zmo σ' sz v K':=by
 unfold zmo at h;split at h
 ·exact ⟨_,_,h,fun σ' K' _ hk=>by unfold zmo;exact hk⟩
 ·exact ⟨_,_,h.2,fun σ' K' _ hk=>by unfold zmo;exact ⟨h.1,hk⟩⟩
 ·have h2:=h.2
  split at h2
  ·rename_i hg
   exact ⟨_,_,h2.2,fun σ' K' hs hk=>by unfold zmo;refine ⟨h.1, ?_⟩;rw[hs _ _ hg (by simp)];exact ⟨h2.1,hk⟩⟩
  ·exact h2.elim
 ·exact h.elim
theorem zoJ {l d sz m:Nat} {dest:AV} {new:List AV} {K:AF->AS->Prop} (h:zml φ σ l d sz dest m new K) :
  ∃ r lx o,K (zbq φ d r) (sput σ lx o)/\o≠.rsv/\(lx=l\/∃ o0,zah σ lx=some o0/\o0≠.rsv)/\∀ (φ':AF) (σ':AS) (K':AF->AS->Prop),SLe σ σ'->K' (zbq φ' d r) (sput σ' lx o)->zml φ' σ' l d sz dest m new K':=by
 unfold zml at h;split at h
 ·exact ⟨_,_,_,h.2,by simp,.inl rfl,fun φ' σ' K' _ hk=>by unfold zml;exact ⟨h.1,hk⟩⟩
 ·have h2:=h.2.2.2.2
  split at h2
  ·rename_i hg
   exact ⟨_,_,_,h2.2,by simp,.inr ⟨_,hg,by simp⟩,fun φ' σ' K' hs hk=>by unfold zml;refine ⟨h.1,h.2.1,h.2.2.1,h.2.2.2.1, ?_⟩;rw[hs _ _ hg (by simp)];exact ⟨h2.1,hk⟩⟩
  ·exact h2.elim
 ·exact h.elim
theorem app_det {d sz:Nat} {s x:Opd} {R:AF->AS->Prop} (h:za4 P inv w0 M N (.app d s x sz) φ σ R) :
  ∃ r lx o,R (zbq φ d r) (sput σ lx o)/\o≠.rsv/\∀ (φ':AF) (σ':AS) (R':AF->AS->Prop),(∀ t∈(AOp.app d s x sz).rd,zbl φ' t=zbl φ t)->zaw N φ' σ'=zaw N φ σ->SLe σ σ'->R' (zbq φ' d r) (sput σ' lx o)->za4 P inv w0 M N (.app d s x sz) φ' σ' R':=by
 simp only[za4,aop]at h;obtain ⟨m,new,h,hb1⟩:=zoF h;obtain ⟨r,lx,o,h,ho,hlx,hb2⟩:=zoJ h;refine ⟨r,lx,o,h.2,ho,fun φ' σ' R' hr hf hs hk=>?_⟩
 simp only[AOp.rd,List.mem_append]at hr;simp only[za4,aop];rw[zbb fun t ht=>hr t (.inl ht),zbb fun t ht=>hr t (.inr ht),hf]
 refine hb1 σ' _ hs (hb2 φ' σ' _ hs ⟨?_,hk⟩);rcases hlx with rfl|⟨o0,e1,e2⟩
 ·rw[<-hf];exact zi8 N φ' σ' _
 ·have h3:=h.1 lx o0 e1 e2
  rw[zag,if_pos rfl]at h3;have h4:=hs lx o0 e1 e2;intro l' o' e' _;rw[zag];split
  ·rename_i hl;subst hl;rw[h4]at e';rw[h3];exact e'
  ·exact e'
theorem awayD_eq {φ':AF} {v:AV} {pts:List Opd} (h:∀ t∈zdj pts,zbl φ' t=zbl φ t):zpB φ' v pts=zpB φ v pts:=by
 have key:∀ l,(pts.all fun p=>ziZ l (ev φ' p))=pts.all fun p=>ziZ l (ev φ p):=by
  intro l
  induction pts with
  |nil=>rfl
  |cons p r ih =>
   simp only[zdj,List.mem_append]at h;simp only[List.all_cons];rw[zbb fun t ht=>h t (.inl ht),ih fun t ht=>h t (.inr ht)]
 cases v<;>first|rfl|exact key _
theorem appA_det {d sz:Nat} {s x:Opd} {pts:List Opd} {R:AF->AS->Prop} (h:za4 P inv w0 M N (.appA d s x sz pts) φ σ R) :
  ∃ r lx o,R (zbq φ d r) (sput σ lx o)/\o≠.rsv/\∀ (φ':AF) (σ':AS) (R':AF->AS->Prop),(∀ t∈(AOp.appA d s x sz pts).rd,zbl φ' t=zbl φ t)->(∀ t∈zdj pts,zbl φ' t=zbl φ t)->zaw N φ' σ'=zaw N φ σ->SLe σ σ'->R' (zbq φ' d r) (sput σ' lx o)->za4 P inv w0 M N (.appA d s x sz pts) φ' σ' R':=by
 simp only[za4,aop]at h;obtain ⟨m,new,h,hb1⟩:=zoF h;obtain ⟨ha,h⟩:=h;obtain ⟨r,lx,o,h,ho,hlx,hb2⟩:=zoJ h;refine ⟨r,lx,o,h,ho,fun φ' σ' R' hr hp hf hs hk=>?_⟩
 simp only[AOp.rd,List.mem_append]at hr;simp only[za4,aop];rw[zbb fun t ht=>hr t (.inl ht),zbb fun t ht=>hr t (.inr ht),hf]
 exact hb1 σ' _ hs ⟨by rw[awayD_eq hp];exact ha,hb2 φ' σ' _ hs hk⟩
theorem zgL {g:Nat} {o:AO} (ho:o.bound=0):∀ {σ:AS},zah σ g=some .rsv->zax (sput σ g o)=zax σ
 |[],h=>by simp[zah]at h
 |(j,y)::r,h=>by
  simp only[zah]at h;simp only[sput];by_cases e:g=j
  ·rw[if_pos e]at h
   simp only[Option.some.injEq]at h;subst h e;rw[if_pos rfl];show mx (g+1) (mx o.bound (zax r))=mx (g+1) (mx 0 (zax r))
   rw[ho]
  ·rw[if_neg e]at h
   rw[if_neg e];have ih:=zgL ho h;have hlt:=(zau r g _ h).1;split
   ·simp only[zax,ho,mx]
    repeat' split
    all_goals omega
   ·simp only[zax,ih]
theorem zdM (d:Nat) (x:AV):∀ φ:AF,zaM (zbq φ d x)<=mx x.bound (zaM φ)
 |[]=>by simp[zbq,zaM,mx]
 |(j,y)::r=>by
  have ih:=zdM d x r;simp only[zbq];split
  ·simp only[zaM]
   exact zlG (zaQ _ _) (Nat.le_trans (zaq y.bound _) (zaq _ _))
  ·split
   ·simp only[zaM];exact Nat.le_refl _
   ·simp only[zaM]
    exact zlG (Nat.le_trans (zaQ _ _) (zaq _ _)) (Nat.le_trans ih (zlG (zaQ _ _) (Nat.le_trans (zaq _ _) (zaq _ _))))
def znx (j i:GOp):Prop:=(zpo j=true/\zpo i=true/\zgv j.2.dst i.2.dst=true)\/(zpn j.2=true/\zjd i.2=false/\(zem i.2&&isLdO j.2)=false/\(zm6 i.2=true->isFree j.2=true)/\zgv j.2.dst i.2.dst=true/\zcx (grd i) j.2.dst=false/\zcx (grd j) i.2.dst=false) \/
 (ldPt j.2 (zgU i.2)=true/\zjd i.2=false/\zgv j.2.dst i.2.dst=true/\zcx (grd i) j.2.dst=false/\zcx (grd j) i.2.dst=false/\zcx (grd j) j.2.dst=false) \/
 (isMk0 j.2=true/\zjd i.2=false/\zgv j.2.dst i.2.dst=true/\zcx (grd i) j.2.dst=false/\zcx (grd j) i.2.dst=false) \/
 (zrm j=true/\zrl i=true/\zgv j.2.dst i.2.dst=true/\zcx (grd j) i.2.dst=false/\zcx (zdj (zgU j.2)) i.2.dst=false)
theorem zra {o:AOp} {pts:List Opd} (h:ldPt o pts=true):(∃ d m s,o=.set d (.load m (.t s))/\(.t s:Opd)∈pts)\/(∃ d m s,o=.set d (.fadr (.t s) m)/\(.t s:Opd)∈pts)\/∃ d s,o=.set d (.nilck (.t s))/\(.t s:Opd)∈pts:=by
 unfold ldPt at h;split at h
 ·obtain ⟨q,hq,h⟩:=List.any_eq_true.1 h
  split at h
  ·simp only[Nat.beq_eq]at h;subst h;exact .inl ⟨_,_,_,rfl,hq⟩
  ·cases h
 ·obtain ⟨q,hq,h⟩:=List.any_eq_true.1 h
  split at h
  ·simp only[Nat.beq_eq]at h;subst h;exact .inr (.inl ⟨_,_,_,rfl,hq⟩)
  ·cases h
 ·obtain ⟨q,hq,h⟩:=List.any_eq_true.1 h
  split at h
  ·simp only[Nat.beq_eq]at h;subst h;exact .inr (.inr ⟨_,_,rfl,hq⟩)
  ·cases h
 ·cases h
theorem zmS (o:AOp):plain (plain o)=plain o:=by cases o<;>rfl
theorem zkI (o:AOp):zem (plain o)=zem o:=by cases o<;>rfl
theorem zm5 (o:AOp):zm6 (plain o)=zm6 o:=by cases o<;>rfl
theorem zr4 (o:AOp):(plain o).dst=o.dst:=by cases o<;>rfl
theorem rd_plain (o:AOp):(plain o).rd=o.rd:=by cases o<;>rfl
theorem zrL (g:GOp):grd (zck g)=grd g:=by obtain ⟨gd,o⟩:=g;cases gd<;>simp only[grd,zck,rd_plain]
theorem zb6 {a b:Nat} (h:zgv (some a) (some b)=true):a≠b:=by
 intro e;subst e;simp[zgv]at h
theorem putO_get {d:Option Nat} {l:List Nat} (h:zcx l d=false) (φ:AF) (r:AV):∀ t∈l,zbl (zcu φ d r) t=zbl φ t:=by
 intro t ht;cases d with
 |none=>rfl
 |some d =>
  simp only[zcu];rw[zba,if_neg (zcw h t ht)]
theorem zqG {d:Nat} {d':Option Nat} (h:zgv (some d) d'=true) (φ:AF) (x r:AV):zcu (zbq φ d x) d' r=zbq (zcu φ d' r) d x:=by
 cases d' with
 |none=>rfl
 |some d'=>simp only[zcu];exact zeQ (zb6 h) x r φ
def FarL (l:List GOp) (pts:List Opd) (φ:AF) (σ σ':AS):Prop:=∀ p∈pts,(∀ k∈l,zcx p.rd k.2.dst=false)->Fav σ σ' (ev φ p)
theorem zp0 {i:GOp} {l2:List GOp} {K:AF->AS->Prop}:∀ {l1:List GOp} {φ:AF} {σ:AS},zno P inv w0 M N (l1++i::l2) K φ σ->(∀ j∈l1,znx j i)->l1.Pairwise (fun j k=>zgv j.2.dst k.2.dst=true/\(isLdS j.2=true->zcx (grd j) k.2.dst=false)) ->
  (∀ j∈l1,∀ d,j.2.dst=some d->(zbl φ d).bound<=N)->(∀ d,i.2.dst=some d->(zbl φ d).bound<=N)->∃ N2,N<=N2/\zfO P inv w0 M N2 (zck i) φ σ (fun φ' σ'=>(∃ r,φ'=zcu φ i.2.dst r/\zno P inv w0 M N (l1++l2) K φ' σ')/\FarL l1 (zgU i.2) φ σ σ')
 |[],φ,σ,h,_,_,_,_=>by
  obtain ⟨N2,hN,h2⟩:=zrN (φ:=φ) h;exact ⟨N2,hN,ziF (fun φ' σ' hk=>⟨hk.1,fun p hp _=>hk.2 p hp⟩) h2⟩
 |j::l1,φ,σ,h,ha,hp,hb,hbi=>by
  rw[List.pairwise_cons]at hp;have tail:zjd i.2=false->∀ d x,j.2.dst=some d->zgv j.2.dst i.2.dst=true->zcx (grd i) j.2.dst=false->zcx (grd j) i.2.dst=false->zno P inv w0 M N (l1++i::l2) K (zbq φ d x) σ ->
    (∀ (φ':AF) (σ':AS) (K':AF->AS->Prop),(∀ t∈grd j,zbl φ' t=zbl φ t)->(zm6 i.2=true\/SLx (!zem i.2) σ σ')->FarL l1 (zgU i.2) (zbq φ d x) σ σ'->K' (zbq φ' d x) σ'->zfO P inv w0 M N j φ' σ' K') ->
    ∃ N2,N<=N2/\zfO P inv w0 M N2 (zck i) φ σ (fun φ' σ'=>(∃ r,φ'=zcu φ i.2.dst r/\zno P inv w0 M N (j::l1++l2) K φ' σ')/\FarL (j::l1) (zgU i.2) φ σ σ'):=by
   intro heff d x hd a3 a4 a5 hk hback;rw[hd]at a3 a4;obtain ⟨N2,hN,h2⟩:=zp0 (φ:=zbq φ d x) hk (fun j hj=>ha j (by simp[hj])) hp.2 (fun j' hj d' hd'=>by
    rw[zba,if_neg]
    ·exact hb j' (by simp[hj]) d' hd'
    ·have:=(hp.1 j' hj).1
     rw[hd,hd']at this;exact Ne.symm (zb6 this)) (fun d' hd'=>by
    rw[zba,if_neg]
    ·exact hbi d' hd'
    ·rw[hd']at a3
     exact Ne.symm (zb6 a3))
   have hbd:zaM φ<=mx N2 (zaM (zbq φ d x)):=by
    refine Nat.le_trans (zep d x φ) (zlG ?_ (zaq _ _));exact Nat.le_trans (hb j (by simp) d hd) (Nat.le_trans hN (zaQ _ _))
   obtain ⟨N3,hN3,h3⟩:=zrM (g:=zck i) (φ:=φ) (zmS _) (by rw[<-heff];unfold zck;cases i.2<;>rfl) h2 (fun t ht=>by rw[zrL]at ht;rw[zba,if_neg (zcw a4 t ht)]) hbd
   refine ⟨N3,Nat.le_trans hN hN3,ziF (fun φ' σ' hk=>?_) h3⟩
   obtain ⟨hle,r,rfl,⟨r',_,hk⟩,hfar⟩:=hk;simp only[zck,zkI,zm5,zr4]at hle hk |-
   refine ⟨⟨r,rfl, ?_⟩,fun p hp' hk'=>?_⟩
   ·show zfO P inv w0 M N j _ σ' (zno P inv w0 M N (l1++l2) K)
    refine hback _ _ _ (putO_get a5 φ r) hle hfar ?_;rw[<-zqG a3];exact hk
   ·have hev:ev (zbq φ d x) p=ev φ p:=zbb fun t ht=>by
     have:=hk' j (by simp)
     rw[hd]at this;rw[zba,if_neg (zcw this t ht)]
    have:=hfar p hp' (fun k hk2=>hk' k (by simp[hk2]))
    rw[hev]at this;exact this
  rcases ha j (by simp) with ⟨g1,g2,g3⟩|⟨a1,a0,a2,a7,a3,a4,a5⟩|⟨a1,a0,a3,a4,a5,a6⟩|⟨a1,a0,a3,a4,a5⟩|⟨g1,g2,g3,a5,a6⟩
  ·obtain ⟨jg,jo⟩:=j
   obtain ⟨ig,io⟩:=i;cases jg<;>cases jo<;>simp only[zpo,Bool.false_eq_true]at g1
   cases ig<;>cases io<;>simp only[zpo,Bool.false_eq_true]at g2
   rename_i d back z di backi zi;clear tail;simp only[AOp.dst]at g3;simp only[List.cons_append,zno,zfO,za4,aop]at h;split at h
   ·rename_i hg
    obtain ⟨N2,hN,h2⟩:=zp0 h.2 (fun j hj=>ha j (by simp[hj])) hp.2 (fun j' hj d' hd'=>by
     rw[zba,if_neg]
     ·exact hb j' (by simp[hj]) d' hd'
     ·have:=(hp.1 j' hj).1
      rw[hd']at this;exact Ne.symm (zb6 this)) (fun d' hd'=>by
     rw[zba,if_neg]
     ·exact hbi d' hd'
     ·simp only[AOp.dst,Option.some.injEq]at hd'
      subst hd';exact Ne.symm (zb6 g3))
    refine ⟨N2,hN, ?_⟩;simp only[zck,plain,zfO,za4,aop]at h2 |-
    rw[zag]at h2;split at h2
    ·rename_i hg2
     split at hg2
     ·cases hg2
     ·rename_i hne
      rw[hg2];refine ⟨h2.1,⟨_,rfl, ?_⟩,fun p hp=>by cases hp⟩
      obtain ⟨⟨r,hr,hk⟩,_⟩:=h2.2;simp only[List.cons_append,zno,zfO,za4,aop];rw[zag,if_neg (Ne.symm hne),hg];refine ⟨h.1, ?_⟩;rw[<-zfY (Ne.symm hne),<-zeQ (zb6 g3)];exact hk
    ·exact h2.elim
   ·exact h.elim
  ·by_cases hap:zm6 i.2=true
   ·have hf:=a7 hap
    obtain ⟨jg,jo⟩:=j;cases jo<;>first|(cases hf;done)|skip
    rename_i d e;cases e<;>first|(cases hf;done)|skip
    rename_i q;obtain ⟨x,hk,hback⟩:=gopD_mov (d:=d) (p:=q) rfl h;exact tail a0 d x rfl a3 a4 a5 hk fun φ' σ' K' hr _ _ hk'=>hback φ' σ' K' hr hk'
   ·obtain ⟨d,x,hd,hk,hback⟩:=gopD_val a1 h
    refine tail a0 d x hd a3 a4 a5 hk fun φ' σ' K' hr hle _ hk'=>?_
    rcases hle with hle|hle
    ·exact absurd hle hap
    ·exact hback φ' σ' K' hr ⟨hle.1,fun e=>hle.2 (by rw[e]at a2;simpa using a2)⟩ hk'
  ·have hev:∀ (d:Nat) (x:AV) (s:Nat),j.2.dst=some d->(∀ t∈(Opd.t s).rd,t∈grd j)->isLdS j.2=true->(.t s:Opd)∈zgU i.2->∀ σ',FarL l1 (zgU i.2) (zbq φ d x) σ σ'->Fav σ σ' (ev φ (.t s)):=by
    intro d x s hd hsub hls hmem σ' hfar;have hno:∀ k:Option Nat,zcx (grd j) k=false->zcx (Opd.t s).rd k=false:=by
     intro k hk;cases k with
     |none=>rfl
     |some k =>
      cases e:zcx (Opd.t s).rd (some k) with
      |false=>rfl
      |true =>
       simp only[zcx]at e hk;rw[zfb.2 (hsub k (zfb.1 e))]at hk;cases hk
    have hev:ev (zbq φ d x) (.t s)=ev φ (.t s):=zbb fun t ht=>by
     have:=hno _ a6;rw[hd]at this;rw[zba,if_neg (zcw this t ht)]
    have:=hfar (.t s) hmem (fun k hk2=>hno _ ((hp.1 k hk2).2 hls))
    rw[hev]at this;exact this
   rcases zra a1 with ⟨d,m,s,hj,hmem⟩|⟨d,m,s,hj,hmem⟩|⟨d,s,hj,hmem⟩
   ·obtain ⟨x,hk,hback⟩:=gopD_ld hj h
    have hd:j.2.dst=some d:=by rw[hj];rfl
    have hsub:∀ t∈(Opd.t s).rd,t∈grd j:=by
     intro t ht;obtain ⟨gd,o⟩:=j;simp only at hj;subst hj;cases gd<;>simp_all [grd,AOp.rd,AVal.rd]
    exact tail a0 d x hd a3 a4 a5 hk fun φ' σ' K' hr hle hfar hk'=>hback φ' σ' K' hr ((hev d x s hd hsub (by rw[hj];rfl) hmem σ' hfar).1 m) hk'
   ·obtain ⟨x,hk,hback⟩:=gopD_fad hj h
    have hd:j.2.dst=some d:=by rw[hj];rfl
    have hsub:∀ t∈(Opd.t s).rd,t∈grd j:=by
     intro t ht;obtain ⟨gd,o⟩:=j;simp only at hj;subst hj;cases gd<;>simp_all [grd,AOp.rd,AVal.rd]
    exact tail a0 d x hd a3 a4 a5 hk fun φ' σ' K' hr hle hfar hk'=>hback φ' σ' K' hr (hev d x s hd hsub (by rw[hj];rfl) hmem σ' hfar) hk'
   ·obtain ⟨x,hk,hback⟩:=gopD_nil hj h
    have hd:j.2.dst=some d:=by rw[hj];rfl
    have hsub:∀ t∈(Opd.t s).rd,t∈grd j:=by
     intro t ht;obtain ⟨gd,o⟩:=j;simp only at hj;subst hj;cases gd<;>simp_all [grd,AOp.rd,AVal.rd]
    exact tail a0 d x hd a3 a4 a5 hk fun φ' σ' K' hr hle hfar hk'=>hback φ' σ' K' hr (hev d x s hd hsub (by rw[hj];rfl) hmem σ' hfar) hk'
  ·obtain ⟨jg,jo⟩:=j
   cases jo<;>first|(cases a1;done)|skip
   rename_i d sz;obtain ⟨x,hk,hback⟩:=gopD_mk0 (d:=d) (sz:=sz) rfl h;exact tail a0 d x rfl a3 a4 a5 hk fun φ' σ' K' hr _ _ hk'=>hback φ' σ' K' hr hk'
  ·-- what is put behind,and a new variable
   clear tail;obtain ⟨jg,jo⟩:=j;obtain ⟨ig,io⟩:=i;cases jg<;>cases jo<;>simp only[zrm,Bool.false_eq_true]at g1
   all_goals (cases ig<;>cases io<;>simp only[zrl,Bool.false_eq_true]at g2)
   ·rename_i d s x sz dg back z
    simp only[AOp.dst]at g3;obtain ⟨r,lx,o,hk,ho,hback⟩:=app_det (h:za4 P inv w0 M N (.app d s x sz) φ σ (zno P inv w0 M N (l1++(none,.gal dg back z)::l2) K));obtain ⟨N2,hN,h2⟩:=zp0 hk (fun j hj=>ha j (by simp[hj])) hp.2 (fun j' hj d' hd'=>by
     rw[zba,if_neg]
     ·exact hb j' (by simp[hj]) d' hd'
     ·have:=(hp.1 j' hj).1
      rw[hd']at this;exact Ne.symm (zb6 this)) (fun d' hd'=>by
     rw[zba,if_neg]
     ·exact hbi d' hd'
     ·simp only[AOp.dst,Option.some.injEq]at hd'
      subst hd';exact Ne.symm (zb6 g3))
    refine ⟨N2,hN, ?_⟩;simp only[zck,plain,zfO,za4,aop]at h2 |-
    rw[zag]at h2;split at h2
    ·rename_i hg2
     split at hg2
     ·simp only[Option.some.injEq]at hg2;exact absurd hg2 ho
     ·rename_i hne
      rw[hg2];refine ⟨h2.1,⟨_,rfl, ?_⟩,fun p hp=>by cases hp⟩
      obtain ⟨⟨r',hr',hk'⟩,_⟩:=h2.2;show za4 P inv w0 M N (.app d s x sz) _ _ (zno P inv w0 M N (l1++l2) K)
      have hzb:(AO.cells (zc3 z) true).bound=0:=by simp only[AO.bound];exact zbr _ g2
      have hgs:=(zau σ (N2-back) _ hg2).1;refine hback _ _ _ (fun t ht=>?_) ?_ (zgB _ (.inr hg2)) ?_
      ·rw[zba,if_neg]
       exact zcw (by simpa only[grd,AOp.dst] using a5) t ht
      ·have e1:=zgL hzb hg2
       have e2:=zdM dg (.ptr (N2-back) (zc3 z).length 0) φ;have e3:=zep dg (.ptr (N2-back) (zc3 z).length 0) φ;have e4:=hbi dg rfl;simp only[AV.bound]at e2;unfold zaw;rw[e1];unfold mx at e2 e3 |-
       split at e2<;>split at e3<;>(repeat' split)<;>omega
      ·rw[<-zeQ (zb6 g3),<-zfY (Ne.symm hne)]
       exact hk'
    ·exact h2.elim
   ·rename_i d s x sz pts dg back z
    simp only[AOp.dst]at g3;obtain ⟨r,lx,o,hk,ho,hback⟩:=appA_det (h:za4 P inv w0 M N (.appA d s x sz pts) φ σ (zno P inv w0 M N (l1++(none,.gal dg back z)::l2) K));obtain ⟨N2,hN,h2⟩:=zp0 hk (fun j hj=>ha j (by simp[hj])) hp.2 (fun j' hj d' hd'=>by
     rw[zba,if_neg]
     ·exact hb j' (by simp[hj]) d' hd'
     ·have:=(hp.1 j' hj).1
      rw[hd']at this;exact Ne.symm (zb6 this)) (fun d' hd'=>by
     rw[zba,if_neg]
     ·exact hbi d' hd'
     ·simp only[AOp.dst,Option.some.injEq]at hd'
      subst hd';exact Ne.symm (zb6 g3))
    refine ⟨N2,hN, ?_⟩;simp only[zck,plain,zfO,za4,aop]at h2 |-
    rw[zag]at h2;split at h2
    ·rename_i hg2
     split at hg2
     ·simp only[Option.some.injEq]at hg2;exact absurd hg2 ho
     ·rename_i hne
      rw[hg2];refine ⟨h2.1,⟨_,rfl, ?_⟩,fun p hp=>by cases hp⟩
      obtain ⟨⟨r',hr',hk'⟩,_⟩:=h2.2;show za4 P inv w0 M N (.appA d s x sz pts) _ _ (zno P inv w0 M N (l1++l2) K)
      have hzb:(AO.cells (zc3 z) true).bound=0:=by simp only[AO.bound];exact zbr _ g2
      have hgs:=(zau σ (N2-back) _ hg2).1;refine hback _ _ _ (fun t ht=>?_) (fun t ht=>?_) ?_ (zgB _ (.inr hg2)) ?_
      ·rw[zba,if_neg]
       exact zcw (by simpa only[grd,AOp.dst] using a5) t ht
      ·rw[zba,if_neg]
       exact zcw (by simpa only[zgU,AOp.dst] using a6) t ht
      ·have e1:=zgL hzb hg2
       have e2:=zdM dg (.ptr (N2-back) (zc3 z).length 0) φ;have e3:=zep dg (.ptr (N2-back) (zc3 z).length 0) φ;have e4:=hbi dg rfl;simp only[AV.bound]at e2;unfold zaw;rw[e1];unfold mx at e2 e3 |-
       split at e2<;>split at e3<;>(repeat' split)<;>omega
      ·rw[<-zeQ (zb6 g3),<-zfY (Ne.symm hne)]
       exact hk'
    ·exact h2.elim
theorem zi2 {o:AOp} {K:AF->AS->Prop} (h:za4 P inv w0 M N o φ σ K):aop P inv w0 M N o φ σ K:=by
 cases o with
 |app d s x sz =>
  simp only[za4,aop]at h |-
  exact zcJ (fun m l h=>zc2 (fun r σ' h'=>h'.2) h) h
 |call d j args=>simp only[za4]at h;simp only[aop];exact h.mono fun r σ' h'=>h'.2
 |calv d f args =>
  simp only[za4]at h;simp only[aop];split at h
  ·exact h.mono fun r σ' h'=>h'.2
  ·exact h.elim
 |_=>exact h
end
def gopW (P:Program) (inv:Nat->Option Nat) (w0:World) (M:Nat->Prop) (N:Nat) (g:GOp) (φ:AF) (σ:AS) (K:AF->AS->Prop):Prop :=
 match g with
 |(none,o)=>aop P inv w0 M N o φ σ K
 |(some (s,want),o)=>(∃ t,zbl φ s=.b t/\(t=want->aop P inv w0 M N o φ σ K)/\(¬t=want->K (zcu φ o.dst .u) σ))\/(zbl φ s=.u/\K (zcu φ o.dst .u) σ)
theorem znb {P:Program} {inv:Nat->Option Nat} {w0:World} {M:Nat->Prop} {N:Nat} {g:GOp} {φ:AF} {σ:AS} {K:AF->AS->Prop} (h:zfO P inv w0 M N g φ σ K):gopW P inv w0 M N g φ σ K:=by
 obtain ⟨gd,o⟩:=g;cases gd with
 |none=>exact zi2 h
 |some sw =>
  obtain ⟨s,want⟩:=sw;rcases h with ⟨t,et,h1,h2⟩|h
  ·exact .inl ⟨t,et,fun e=>zi2 (h1 e),h2⟩
  ·exact .inr h
section
variable {P:Program} {inv:Nat->Option Nat} {w0:World} {M:Nat->Prop} {n N:Nat} {φ:AF} {σ:AS} {β:Nat->Nat} {a:Act} {w:World}
theorem zjB {ops:Array Oper} {Q:Exit->Act->World->Prop} {K:AF->AS->Prop} {i:Nat} {o:Oper} {g:GOp} (ho:ops[i]?=some o)
  (hg:zeU n ops o.guard=some g.1) (hdst:g.2.dst=o.dst/\zjg n o.dst=true) {za0:Act->World->Prop} (hop:aop P inv w0 M N g.2 φ σ K->o.wp P a w za0 Q) (h:gopW P inv w0 M N g φ σ K) (hs:St inv w0 M n φ σ β a w)
  (hn:∀ φ' σ' β' a' w',K φ' σ'->St inv w0 M n φ' σ' β' a' w'->Ext N (ctx inv M σ β w) (ctx inv M σ' β' w')->za0 a' w'):wpOp P ops Q i za0 a w:=by
 obtain ⟨hd1,hd2⟩:=hdst;obtain ⟨g,op⟩:=g;have go:Region.wanted o (yielded ops a.tmps)=true->aop P inv w0 M N op φ σ K->wpOp P ops Q i za0 a w:=by
  intro hw h;unfold wpOp;simp only[ho,hw,if_true];exact .inl (hop h)
 have skip:Region.wanted o (yielded ops a.tmps)=false->K (zcu φ op.dst .u) σ->wpOp P ops Q i za0 a w:=by
  intro hw h;unfold wpOp;simp only[ho,hw,Bool.false_eq_true,if_false];simp only at hd1;rw[hd1]at h;exact hn _ _ _ _ _ h (hs.skip hd2) (.refl _ _)
 cases hgd:o.guard with
 |none =>
  rw[hgd]at hg;simp only[zeU,Option.some.injEq]at hg;subst hg;exact go (by simp[Region.wanted,hgd]) h
 |some jw =>
  obtain ⟨j,want⟩:=jw;rw[hgd]at hg;simp only[zeU]at hg;split at hg
  ·rename_i s hj
   split at hg
   ·rename_i hlt
    simp only[Option.some.injEq]at hg;subst hg;have hy:=zjk (a:=a) hj (by rw[hs.size];exact hlt)
    have hsl:=hs.slots s;rcases h with ⟨t,et,h1,h2⟩|⟨et,h⟩
    ·rw[et]at hsl
     simp only[rel]at hsl;have hw:Region.wanted o (yielded ops a.tmps)=decide (t=want):=by
      simp only[Region.wanted,hgd,hy,hsl];cases t<;>cases want<;>rfl
     by_cases htw:t=want
     ·exact go (by rw[hw];simpa using htw) (h1 htw)
     ·exact skip (by rw[hw];simpa using htw) (h2 htw)
    ·rw[et]at hsl
     simp only[rel]at hsl;refine skip ?_ h;simp only[Region.wanted,hgd,hy,hsl];rfl
   ·cases hg
  ·cases hg
theorem zdl (hE:zcs P inv) (hM:∀ b,M b->b<w0.heap.size) {ops:Array Oper} {Q:Exit->Act->World->Prop} {K:AF->AS->Prop} {i:Nat} {o:Oper} {g:GOp} (ho:ops[i]?=some o)
  (hg:zeU n ops o.guard=some g.1) (hop:zbt P inv n o=some g.2) (h:gopW P inv w0 M N g φ σ K) (hs:St inv w0 M n φ σ β a w) {za0:Act->World->Prop}
  (hn:∀ φ' σ' β' a' w',K φ' σ'->St inv w0 M n φ' σ' β' a' w'->Ext N (ctx inv M σ β w) (ctx inv M σ' β' w')->za0 a' w'):wpOp P ops Q i za0 a w:=by
 exact zjB ho hg (zc9 hop) (fun h=>zn4 hE hM hs hop h hn) h hs hn
theorem St.gal (hs:St inv w0 M n φ σ β a w) {d l:Nat} (hd:d<n) (hg:zah σ l=some .rsv) {cs:List AV} {xs:Array Value} {ty:TypeId} (hpos:0<cs.length) (hcb:zab cs=0) (hlen:cs.length=xs.size) (hrel:relCs (ctx inv M σ β w) cs xs.toList) :
  St inv w0 M n (zbq φ d (.ptr l cs.length 0)) (sput σ l (.cells cs true)) (upd β l w.heap.size) (a.put (some d) (.pointer (some ⟨w.heap.size,0,none⟩))) (w.alloc (.cells xs ty)) /\
  Ext N (ctx inv M σ β w) (ctx inv M (sput σ l (.cells cs true)) (upd β l w.heap.size) (w.alloc (.cells xs ty))):=by
 have hnew:(w.alloc (.cells xs ty)).heap[w.heap.size]?=some (.cells xs ty (0,0)):=heap_alloc_new w _;have h:=hs.mem.put (l:=l) (b':=w.heap.size) (cs':=cs) (xs':=xs) (ty:=ty) (w':=w.alloc (.cells xs ty)) (N:=zaw N φ σ) (hs.mem.below.alloc hs.mem.below.size _) (by simp)
  (fun b hb _=>Below.heap_alloc _ _ _ hb) hnew (by omega) hs.mem.below.size (fun l' o' _ e hr=>by have:=(hs.mem.own l' o' e hr).2;omega) (.inl (Nat.le_refl _))
  (fun l' o' e _=>Nat.le_trans (zau σ l' o' e).2 (zbw N φ σ).2.2) (by omega)
  (fun _ p' hp'=>by
   simp only[Option.some.injEq]at hp';subst hp';refine ⟨⟨0,0,0,false⟩,by unfold zai;rw[hg],Nat.zero_le _,fun e=>?_⟩
   simp only at e;omega) (by rw[hlen,<-Array.length_toList,List.take_length];exact hrel)
 refine ⟨hs.put h.1 h.2 (zbw N φ σ).2.1 hd ?_,h.2.mono (zbw N φ σ).1⟩;refine zdW (p:=⟨w.heap.size,cs.length,xs.size,true⟩) ?_ rfl;unfold zai;rw[zag,if_pos rfl];simp only[zbe,zaN,hnew]
def Tr (g0 g:GOp):Prop:=g=g0\/(∃ gd d j l,g0=(gd,.call (some d) j l)/\g=(gd,.callp d j l))\/(∃ d z back,g0=(none,.alloc d z)/\g=(none,.gal d back z))\/(∃ gd d j l,g0=(gd,.call d j l)/\g=(gd,.calle d j l))\/(∃ gd d f l,g0=(gd,.calv d f l)/\g=(gd,.calve d f l))\/(∃ gd d u x sz,g0=(gd,.app d u x sz)/\g=(gd,.appe d u x sz))\/(∃ gd d u x sz,g0=(gd,.app d u x sz)/\g=(gd,.appA d u x sz []))\/(∃ gd d j l,g0=(gd,.call d j l)/\g=(gd,.callA d j l []))\/(∃ gd d sz len z ps,g0=(gd,.mksl d sz len z ps)/\g=(gd,.mksr d sz len z ps))
theorem zrp {o:Oper} {d:Nat} {z:List (Nat×AV)} (h:zbt P inv n o=some (.alloc d z)):∃ t,o.op=.alloc t/\zdO P t=some z/\o.dst=some d/\d<n:=by
 have hd:=zc9 h;unfold zbt at h;split at h
 ·split at h
  ·split at h<;>simp at h
  ·cases h
 ·split at h
  ·rename_i op hop
   split at h
   ·simp only[Option.some.injEq]at h
    subst h;have hds:o.dst=some d:=hd.1.symm;refine (?_:∃ t,o.op=.alloc t/\zdO P t=some z).elim fun t ht=>⟨t,ht.1,ht.2,hds,zox hd.2 d hds⟩
    unfold zbP at hop;split at hop
    ·rename_i t ho
     obtain ⟨z',h1,h2⟩:=Option.map_eq_some_iff.1 hop;simp only[AOp.alloc.injEq]at h2;exact ⟨t,ho,by rw[h1,h2.2]⟩
    all_goals (exfalso;revert hop;try unfold znn)
    all_goals (repeat' split)
    all_goals first|(intro hop;cases hop;done)|(intro hop;simp at hop;done)|(intro hop;obtain ⟨_,_,e⟩:=Option.map_eq_some_iff.1 hop;cases e)
   ·cases h
  ·split at h
   ·simp at h
   ·cases h
theorem ziV {o:Oper} {op:AOp} (h:zbt P inv n o=some op):plain op=op:=by
 cases op with
 |appA d s x sz pts =>
  exfalso;unfold zbt at h;split at h
  ·split at h
   ·split at h<;>simp at h
   ·cases h
  ·split at h
   ·rename_i op hop
    split at h
    ·simp only[Option.some.injEq]at h
     subst h;unfold zbP at hop;revert hop;try unfold znn
     repeat' split
     all_goals first|(intro hop;cases hop;done)|(intro hop;simp at hop;done)|(intro hop;obtain ⟨_,_,e⟩:=Option.map_eq_some_iff.1 hop;cases e)
    ·cases h
   ·split at h
    ·simp at h
    ·cases h
 |callA d j l pts =>
  exfalso;unfold zbt at h;split at h
  ·split at h
   ·split at h<;>simp at h
   ·cases h
  ·split at h
   ·rename_i op hop
    split at h
    ·simp only[Option.some.injEq]at h
     subst h;unfold zbP at hop;revert hop;try unfold znn
     repeat' split
     all_goals first|(intro hop;cases hop;done)|(intro hop;simp at hop;done)|(intro hop;obtain ⟨_,_,e⟩:=Option.map_eq_some_iff.1 hop;cases e)
    ·cases h
   ·split at h
    ·simp at h
    ·cases h
 |storeA nn a x pts =>
  exfalso;unfold zbt at h;split at h
  ·split at h
   ·split at h<;>simp at h
   ·cases h
  ·split at h
   ·rename_i op hop
    split at h
    ·simp only[Option.some.injEq]at h
     subst h;unfold zbP at hop;revert hop;try unfold znn
     repeat' split
     all_goals first|(intro hop;cases hop;done)|(intro hop;simp at hop;done)|(intro hop;obtain ⟨_,_,e⟩:=Option.map_eq_some_iff.1 hop;cases e)
    ·cases h
   ·split at h
    ·simp at h
    ·cases h
 |_=>rfl
theorem Tr.plain {g0 g:GOp} (h:Tr g0 g) (hp:Go.Eng.plain g0.2=g0.2):zck g=g:=by
 rcases h with rfl|⟨gd,d,j,l,rfl,rfl⟩|⟨d,z,back,rfl,rfl⟩|⟨gd,d,j,l,rfl,rfl⟩|⟨gd,d,f,l,rfl,rfl⟩|⟨gd,d,u,x,sz,rfl,rfl⟩|⟨gd,d,u,x,sz,rfl,rfl⟩|⟨gd,d,j,l,rfl,rfl⟩|⟨gd,d,sz,len,z,ps,rfl,rfl⟩
 ·obtain ⟨gd,o⟩:=g;simp only at hp;simp only[zck,hp]
 ·rfl
 ·rfl
 ·rfl
 ·rfl
 ·rfl
 ·rfl
 ·rfl
 ·rfl
theorem zps (hE:zcs P inv) (hM:∀ b,M b->b<w0.heap.size) {ops:Array Oper} {Q:Exit->Act->World->Prop} {K:AF->AS->Prop} {i:Nat} {o:Oper} {g0 g:GOp} (ho:ops[i]?=some o)
  (hg:zeU n ops o.guard=some g0.1) (hop:zbt P inv n o=some g0.2) (htr:Tr g0 g) (h:zfO P inv w0 M N g φ σ K) (hs:St inv w0 M n φ σ β a w) {za0:Act->World->Prop}
  (hn:∀ φ' σ' β' a' w',K φ' σ'->St inv w0 M n φ' σ' β' a' w'->Ext N (ctx inv M σ β w) (ctx inv M σ' β' w')->za0 a' w'):wpOp P ops Q i za0 a w:=by
 rcases htr with rfl|⟨gd,d,j,l,rfl,rfl⟩|⟨d,z,back,rfl,rfl⟩|⟨gd,d,j,l,rfl,rfl⟩|⟨gd,d,f,l,rfl,rfl⟩|⟨gd,d,u,x,sz,rfl,rfl⟩|⟨gd,d,u,x,sz,rfl,rfl⟩|⟨gd,d,j,l,rfl,rfl⟩|⟨gd,d,sz,len,z,ps,rfl,rfl⟩
 ·exact zdl hE hM ho hg hop (znb h) hs hn
 ·refine zdl (K:=K) hE hM ho hg hop (znb ?_) hs hn
  have key:za4 P inv w0 M N (.callp d j l) φ σ K->za4 P inv w0 M N (.call (some d) j l) φ σ K:=by
   intro h;simp only[za4,aop]at h |-
   obtain ⟨r,h1,h2⟩:=h;refine (h1 N φ σ (.refl σ)).mono fun r' σ'' ⟨e1,e2⟩=>?_
   subst e1 e2;exact ⟨.refl _,h2⟩
  cases gd with
  |none=>exact key h
  |some sw =>
   obtain ⟨s,want⟩:=sw;rcases h with ⟨t,et,h1,h2⟩|h
   ·exact .inl ⟨t,et,fun e=>key (h1 e),h2⟩
   ·exact .inr h
 ·obtain ⟨t,h1,h2,h3,h4⟩:=zrp hop
  have hgd:o.guard=none:=by
   cases e:o.guard with
   |none=>rfl
   |some jw =>
    rw[e]at hg;simp only[zeU]at hg;split at hg
    ·split at hg<;>simp at hg
    ·cases hg
  simp only[zfO,za4,aop]at h;split at h
  ·rename_i hsg
   obtain ⟨it,zv,hi,hz,hzr⟩:=zce (c:=ctx inv M σ β w) h2;have hlen:=zaB hzr;have hgal:=hs.gal (N:=N) (ty:=t) h4 hsg h.1 (zb8 h2) (by simpa using hlen) hzr
   have hx:(execOp a.eval o).run P w=.ok (.value (.pointer (some ⟨w.heap.size,0,none⟩))) (w.alloc (.cells zv.cells t)):=by
    simp only[execOp,h1,Sem.run_bind,zfv hi hz,Result.andThen_ok,Sem.run_pure]
   unfold wpOp;simp only[ho,Region.wanted,hgd,if_true];refine .inl ?_;unfold Oper.wp;rw[hx];show za0 (a.put o.dst _) _
   rw[h3];exact hn _ _ _ _ _ h.2 hgal.1 hgal.2
  ·exact h.elim
 ·refine zdl (K:=K) hE hM ho hg hop ?_ hs hn
  cases gd with
  |none=>exact h
  |some sw =>
   obtain ⟨s,want⟩:=sw;rcases h with ⟨t,et,h1,h2⟩|h
   ·exact .inl ⟨t,et,h1,h2⟩
   ·exact .inr h
 ·refine zdl (K:=K) hE hM ho hg hop ?_ hs hn
  cases gd with
  |none=>exact h
  |some sw =>
   obtain ⟨s,want⟩:=sw;rcases h with ⟨t,et,h1,h2⟩|h
   ·exact .inl ⟨t,et,h1,h2⟩
   ·exact .inr h
 ·refine zdl (K:=K) hE hM ho hg hop ?_ hs hn
  cases gd with
  |none=>exact h
  |some sw =>
   obtain ⟨s,want⟩:=sw;rcases h with ⟨t,et,h1,h2⟩|h
   ·exact .inl ⟨t,et,h1,h2⟩
   ·exact .inr h
 ·refine zdl (K:=K) hE hM ho hg hop ?_ hs hn
  have key:∀ {K:AF->AS->Prop},za4 P inv w0 M N (.appA d u x sz []) φ σ K->aop P inv w0 M N (.app d u x sz) φ σ K:=by
   intro K h;simp only[za4,aop]at h |-
   exact zcJ (fun m l h=>h.2) h
  cases gd with
  |none=>exact key h
  |some sw =>
   obtain ⟨s,want⟩:=sw;rcases h with ⟨t,et,h1,h2⟩|h
   ·exact .inl ⟨t,et,fun e=>key (h1 e),h2⟩
   ·exact .inr h
 ·refine zdl (K:=K) hE hM ho hg hop ?_ hs hn
  have key:∀ {K:AF->AS->Prop},za4 P inv w0 M N (.callA d j l []) φ σ K->aop P inv w0 M N (.call d j l) φ σ K:=by
   intro K h;simp only[za4,aop]at h |-
   exact h.mono fun r σ' h'=>h'.2
  cases gd with
  |none=>exact key h
  |some sw =>
   obtain ⟨s,want⟩:=sw;rcases h with ⟨t,et,h1,h2⟩|h
   ·exact .inl ⟨t,et,fun e=>key (h1 e),h2⟩
   ·exact .inr h
 ·have hd:=zc9 hop
  simp only[AOp.dst]at hd;have hce:zbP P inv o=some (.mksl d sz len z ps):=by
   unfold zbt at hop;split at hop
   ·split at hop
    ·split at hop<;>simp at hop
    ·cases hop
   ·split at hop
    ·split at hop
     ·simp only[Option.some.injEq]at hop;subst hop;assumption
     ·cases hop
    ·split at hop<;>simp at hop
  exact zjB (g:=(gd,.mksr d sz len z ps)) ho hg hd (fun h=>zph hs hce hd.1 hd.2 h hn) (znb h) hs hn
theorem zcY {ops:Array Oper}:∀ {l:List Oper} {gs:List GOp},zbD P inv n ops l=some gs->gs.length=l.length/\∀ i o,l[i]?=some o->zeU n ops o.guard=some (gAt gs i).1/\zbt P inv n o=some (gAt gs i).2
 |[],gs,h=>by
  simp only[zbD,Option.some.injEq]at h;subst h;exact ⟨rfl,fun i o h=>by simp at h⟩
 |o::l,gs,h=>by
  simp only[zbD]at h;split at h
  ·rename_i g op al hg hop hal
   simp only[Option.some.injEq]at h;subst h;obtain ⟨h1,h2⟩:=zcY hal;refine ⟨by simp[h1],fun i o' ho=>?_⟩
   cases i with
   |zero=>simp only[List.getElem?_cons_zero,Option.some.injEq]at ho;subst ho;exact ⟨hg,hop⟩
   |succ i=>exact h2 i o' (by simpa using ho)
  ·cases h
theorem zhk {gs:List GOp} {anc:List Nat}:∀ {l:List Nat},zkw gs anc l=true->l.Pairwise (fun j i=>zlA gs anc j i=true)
 |[],_=>.nil
 |j::r,h=>by
  simp only[zkw,Bool.and_eq_true,List.all_eq_true]at h;exact .cons h.1 (zhk h.2)
theorem zhh {prs:List (List Nat)}:∀ {l pre x:List Nat} {i:Nat} {y:List Nat},zil prs pre l=true->l=x++i::y->∀ p∈prs[i]?.getD [],p∈pre\/p∈x
 |l,pre,[],i,y,h,e,p,hp=>by
  subst e;simp only[List.nil_append,zil,Bool.and_eq_true,List.all_eq_true]at h;exact .inl (zfb.1 (h.1 p hp))
 |l,pre,k::x,i,y,h,e,p,hp=>by
  subst e;simp only[List.cons_append,zil,Bool.and_eq_true]at h;rcases zhh h.2 rfl p hp with h'|h'
  ·rcases List.mem_cons.1 h' with e|h''
   ·exact .inr (by simp[e])
   ·exact .inl h''
  ·exact .inr (by simp[h'])
theorem znc {l:Array Bool} {i:Nat} (h:i<l.size):l.getD i true=l.getD i false:=by simp[h]
theorem zpx (hE:zcs P inv) (hM:∀ b,M b->b<w0.heap.size) {ops:Array Oper} {gs:List GOp} {prs:List (List Nat)} {anc ord:List Nat} {gs0:List GOp} (hc:zbD P inv n ops ops.toList=some gs0) (hlen1:gs.length=gs0.length) (htr:∀ i,i<gs.length->Tr (gAt gs0 i) (zck (gAt gs i))) (hprs:prs=ops.toList.map zgg)
  (hok:zl5 gs prs anc ord gs.length=true) {Q:Exit->Act->World->Prop} {K:AF->AS->Prop} :
  ∀ (fuel:Nat) (listed:Array Bool) (φ:AF) (σ:AS) (β:Nat->Nat) (a:Act) (w:World),listed.size=ops.size ->
   (∀ k x,listed.getD k false=true->zgl anc k x=true->x<ops.size->listed.getD x false=true) ->
   (ord.filter fun i=>!listed.getD i false).length<=fuel->(∀ j∈ord.filter fun i=>!listed.getD i false,∀ d,(gAt gs j).2.dst=some d->(zbl φ d).bound<=N) ->
   zno P inv w0 M N ((ord.filter fun i=>!listed.getD i false).map (gAt gs)) K φ σ->St inv w0 M n φ σ β a w ->
   (∀ φ' σ' β' a' w',K φ' σ'->St inv w0 M n φ' σ' β' a' w'->Ext N (ctx inv M σ β w) (ctx inv M σ' β' w')->Q .normal a' w')->wpAny P .any ops Q fuel listed a w:=by
 obtain ⟨hlen0,hget⟩:=zcY hc;have hlen:gs.length=ops.size:=by rw[hlen1];simpa using hlen0
 have hget':∀ (i:Nat) (o:Oper),ops[i]?=some o->zeU n ops o.guard=some (gAt gs0 i).1/\zbt P inv n o=some (gAt gs0 i).2:=fun i o h=>hget i o (by rw[Array.getElem?_toList];exact h)
 unfold zl5 at hok;simp only[Bool.and_eq_true]at hok;obtain ⟨⟨⟨⟨k1,k2⟩,k3⟩,k4⟩,k5⟩:=hok;have hpw:=zhk k1;have hin:∀ i∈ord,i<ops.size:=by
  intro i hi;unfold zoe at k5;have:=List.all_eq_true.1 k5 i hi;rw[Nat.blt_eq,hlen]at this;exact this
 have hcov:∀ i,i<ops.size->i∈ord:=by
  intro i hi;unfold zr7 at k3;exact zfb.1 (List.all_eq_true.1 k3 i (by rw[List.mem_range,hlen];exact hi))
 have hprs':∀ (i:Nat) (o:Oper),ops[i]?=some o->prs[i]?.getD []=zgg o:=by
  intro i o ho;rw[hprs,List.getElem?_map,Array.getElem?_toList,ho];rfl
 have hpreds:∀ (o:Oper) (l:Array Bool),(∀ e∈o.after,Region.binds .any e=true->l.getD e.on false=true)↔∀ p∈zgg o,l.getD p false=true:=by
  intro o l;unfold zgg;constructor
  ·intro h p hp
   obtain ⟨e,he,rfl⟩:=List.mem_map.1 hp;obtain ⟨h1,h2⟩:=List.mem_filter.1 he;exact h e (by simpa using h1) h2
  ·intro h e he hb
   exact h e.on (List.mem_map.2 ⟨e,List.mem_filter.2 ⟨by simpa using he,hb⟩,rfl⟩)
 have hanc:∀ (i:Nat) (o:Oper) (x:Nat),ops[i]?=some o->x<ops.size->zgl anc i x=true->∃ p∈zgg o,p=x\/zgl anc p x=true:=by
  intro i o x ho hx ha;have hi:i<ops.size:=(Array.getElem?_eq_some_iff.1 ho).1;unfold ancOk at k4;have h1:=List.all_eq_true.1 (List.all_eq_true.1 k4 i (by rw[List.mem_range,hlen];exact hi)) x (by rw[List.mem_range,hlen];exact hx)
  rw[ha,hprs' i o ho]at h1;simp only[Bool.not_true,Bool.false_or,List.any_eq_true,Bool.or_eq_true,Nat.beq_eq]at h1;exact h1
 have hhead:∀ (listed:Array Bool) (i:Nat) (r:List Nat),listed.size=ops.size->(ord.filter fun i=>!listed.getD i false)=i::r->i∈Region.ready .any ops listed:=by
  intro listed i r hsz e;obtain ⟨x,y,e1,e2,e3,_⟩:=List.filter_eq_cons_iff.1 e;have hi:i<ops.size:=hin i (by rw[e1];simp)
  have e3':listed.getD i false=false:=by simpa using e3
  rw[mem_ready];refine ⟨by rw[znc (by omega)];exact e3',ops[i],by simp[hi], ?_⟩
  rw[hpreds];intro p hp;rw[<-hprs' i ops[i] (by simp[hi])]at hp
  rcases zhh k2 e1 p hp with h|h
  ·cases h
  ·have:=e2 p h
   simpa using this
 intro fuel
 induction fuel with
 |zero =>
  intro listed φ σ β a w hsz hcl hrem hb h hs hn;have hnil:(ord.filter fun i=>!listed.getD i false)=[]:=List.eq_nil_of_length_eq_zero (by omega)
  rw[hnil]at h;refine ⟨?_,hn _ _ _ _ _ h hs (.refl _ _)⟩;refine List.eq_nil_iff_forall_not_mem.2 fun i hi=>?_
  obtain ⟨h0,o,ho,_⟩:=mem_ready.1 hi;have hlt:i<ops.size:=(Array.getElem?_eq_some_iff.1 ho).1;have:i∈ord.filter fun i=>!listed.getD i false:=List.mem_filter.2 ⟨hcov i hlt,by rw[<-znc (by omega),h0];rfl⟩
  rw[hnil]at this;cases this
 |succ fuel ih =>
  intro listed φ σ β a w hsz hcl hrem hb h hs hn;refine ⟨fun hr=>?_,fun i hi=>?_⟩
  ·cases e:ord.filter fun i=>!listed.getD i false with
   |nil=>rw[e]at h;exact hn _ _ _ _ _ h hs (.refl _ _)
   |cons i r =>
    have:=hhead listed i r hsz e;rw[hr]at this;cases this
  ·obtain ⟨h0,o,ho,hpre⟩:=mem_ready.1 hi
   have hlt:i<ops.size:=(Array.getElem?_eq_some_iff.1 ho).1;have hmem:i∈ord.filter fun i=>!listed.getD i false:=List.mem_filter.2 ⟨hcov i hlt,by rw[<-znc (by omega),h0];rfl⟩
   obtain ⟨l1,l2,e⟩:=List.append_of_mem hmem;have hpw2:(l1++i::l2).Pairwise (fun j i=>zlA gs anc j i=true):=by rw[<-e];exact hpw.filter _
   rw[List.pairwise_append]at hpw2;obtain ⟨hp1,hp2,hp3⟩:=hpw2;rw[List.pairwise_cons]at hp2;have hpl:∀ p∈zgg o,listed.getD p false=true:=(hpreds o listed).1 hpre;have hanc':∀ x,x<ops.size->zgl anc i x=true->listed.getD x false=true:=by
    intro x hx ha;obtain ⟨p,hp,h'|h'⟩:=hanc i o x ho hx ha
    ·rw[<-h'];exact hpl p hp
    ·exact hcl p x (hpl p hp) h' hx
   have hpk:∀ {j k:Nat},zlA gs anc j k=true->j≠k/\zgv (gAt gs j).2.dst (gAt gs k).2.dst=true/\(isLdS (gAt gs j).2=true->zcx (grd (gAt gs j)) (gAt gs k).2.dst=false)/\(zgl anc k j=true\/znx (gAt gs j) (gAt gs k)):=by
    intro j k hp;unfold zlA at hp;simp only[Bool.and_eq_true,Bool.or_eq_true,Bool.not_eq_true']at hp;refine ⟨fun e=>by rw[e]at hp;simp at hp,hp.1.1.2,fun e=>by rcases hp.1.2 with h'|h'<;>first|(rw[e]at h';cases h';done)|exact h', ?_⟩
    rcases hp.2 with ((((h'|h')|h')|h')|h')|h'
    ·exact .inr (.inr (.inr (.inl ⟨h'.1.1.1.1,h'.1.1.1.2,hp.1.1.2,h'.1.1.2,h'.1.2,h'.2⟩)))
    ·exact .inl h'
    ·exact .inr (.inl ⟨h'.1,h'.2,hp.1.1.2⟩)
    ·exact .inr (.inr (.inl ⟨h'.1.1.1.1.1,h'.1.1.1.1.2,h'.1.1.1.2,fun e=>by rcases h'.1.1.2 with q|q<;>first|(rw[e]at q;cases q;done)|exact q,hp.1.1.2,h'.1.2,h'.2⟩))
    ·exact .inr (.inr (.inr (.inr (.inl ⟨h'.1.1.1,h'.1.1.2,hp.1.1.2,h'.1.2,h'.2⟩))))
    ·exact .inr (.inr (.inr (.inr (.inr ⟨h'.1.1.1,h'.1.1.2,hp.1.1.2,h'.1.2,h'.2⟩))))
   have hun:∀ j∈l1++i::l2,j<ops.size/\listed.getD j false=false:=by
    intro j hj;rw[<-e]at hj;obtain ⟨hj1,hj2⟩:=List.mem_filter.1 hj;exact ⟨hin j hj1,by simpa using hj2⟩
   have hap:∀ j∈l1,znx (gAt gs j) (gAt gs i):=by
    intro j hj;obtain ⟨_,_,_,h'|h'⟩:=hpk (hp3 j hj i (by simp))
    ·obtain ⟨h5,h6⟩:=hun j (by simp[hj])
     rw[hanc' j h5 h']at h6;cases h6
    ·exact h'
   rw[e,List.map_append,List.map_cons]at h;obtain ⟨N2,hN,hg⟩:=zp0 h (fun j hj=>by obtain ⟨j',hj',rfl⟩:=List.mem_map.1 hj;exact hap j' hj')
    (List.pairwise_map.2 (hp1.imp fun hp=>⟨(hpk hp).2.1,(hpk hp).2.2.1⟩)) (fun j hj d hd=>by obtain ⟨j',hj',rfl⟩:=List.mem_map.1 hj;exact hb j' (by rw[e];simp[hj']) d hd) (fun d hd=>hb i (by rw[e];simp) d hd)
   refine zps hE hM ho (hget' i o ho).1 (hget' i o ho).2 (htr i (by omega)) hg hs fun φ' σ' β' a' w' hk hst hext=>?_
   obtain ⟨⟨r,rfl,hk⟩,_⟩:=hk;have hnew:(ord.filter fun k=>!(listed.setIfInBounds i true).getD k false)=l1++l2:=by
    have hfi:∀ l:List Nat,(∀ k∈l,k≠i)->l.filter (fun k=>decide (k≠i))=l:=fun l hl=>List.filter_eq_self.2 fun k hk=>by simpa using hl k hk
    have h1:(ord.filter fun k=>!(listed.setIfInBounds i true).getD k false)=(ord.filter fun k=>!listed.getD k false).filter (fun k=>decide (k≠i)):=by
     rw[List.filter_filter];refine List.filter_congr fun k hk=>?_
     by_cases hki:k=i
     ·subst hki
      have:k<(listed.setIfInBounds k true).size:=by simp;omega
      simp[show k<listed.size by omega]
     ·rw[getD_set_ne false (Ne.symm hki)]
      simp[hki]
    rw[h1,e,List.filter_append,List.filter_cons,hfi l1 (fun k hk=>(hpk (hp3 k hk i (by simp))).1),hfi l2 (fun k hk=>Ne.symm (hpk (hp2.1 k hk)).1)]
    simp
   refine ih (listed.setIfInBounds i true) _ σ' β' a' w' (by simp[hsz]) ?_ ?_ ?_ ?_ hst fun φ2 σ2 β2 a2 w2 q s2 e2=>hn _ _ _ _ _ q s2 ((hext.mono hN).trans e2)
   ·intro k x hk' ha hx
    by_cases hki:k=i
    ·subst hki
     exact getD_set_true (hanc' x hx ha)
    ·rw[getD_set_ne false (Ne.symm hki)]at hk'
     exact getD_set_true (hcl k x hk' ha hx)
   ·rw[hnew]
    rw[e]at hrem;simp only[List.length_append,List.length_cons]at hrem |-
    omega
   ·rw[hnew]
    intro j hj d hd;have hne:zgv (some d) (gAt gs i).2.dst=true\/zgv (gAt gs i).2.dst (some d)=true:=by
     rcases List.mem_append.1 hj with hj|hj
     ·have:=(hpk (hp3 j hj i (by simp))).2.1;rw[hd]at this;exact .inl this
     ·have:=(hpk (hp2.1 j hj)).2.1;rw[hd]at this;exact .inr this
    have hbj:=hb j (by rw[e];rcases List.mem_append.1 hj with hj|hj<;>simp[hj]) d hd
    cases hdi:(gAt gs i).2.dst with
    |none=>exact hbj
    |some di =>
     rw[hdi]at hne;have hdd:d≠di:=by
      rcases hne with h'|h'
      ·exact zb6 h'
      ·exact Ne.symm (zb6 h')
     simp only[zcu];rw[zba,if_neg hdd];exact hbj
   ·rw[hnew,List.map_append]
    exact hk
theorem inv_regd {c₀:Code} {k:Nat} {l:List GOp} (h:zaD P inv n c₀=some (.regd k l)):∃ id ops,c₀=.region id ops true/\zgw P inv n ops=some (.regd k l):=by
 unfold zaD at h;split at h<;>first|(cases h;done)|exact ⟨_,_,rfl,h⟩|(obtain ⟨_,_,e⟩:=Option.map_eq_some_iff.1 h;cases e;done)|(split at h<;>simp at h)
theorem zhA (k:Nat):∀ (gs:List GOp) (c i:Nat),(zkm k c gs).length=gs.length/\(i<gs.length->Tr (gAt gs i) (gAt (zkm k c gs) i))
 |[],_,_=>⟨rfl,fun h=>absurd h (Nat.not_lt_zero _)⟩
 |(gd,o)::r,c,i=>by
  have ih:=fun c i=>zhA k r c i
  have hd:∃ c' g,zkm k c ((gd,o)::r)=g::zkm k c' r/\Tr (gd,o) g:=by
   cases gd with
   |none =>
    cases o with
    |alloc d z=>exact ⟨_,_,rfl,.inr (.inr (.inl ⟨d,z,_,rfl,rfl⟩))⟩
    |call d j l=>cases d with
     |some d=>exact ⟨_,_,rfl,.inr (.inl ⟨_,d,j,l,rfl,rfl⟩)⟩
     |none=>exact ⟨_,_,rfl,.inl rfl⟩
    |_=>exact ⟨_,_,rfl,.inl rfl⟩
   |some sw =>
    cases o with
    |call d j l=>cases d with
     |some d=>exact ⟨_,_,rfl,.inr (.inl ⟨_,d,j,l,rfl,rfl⟩)⟩
     |none=>exact ⟨_,_,rfl,.inl rfl⟩
    |_=>exact ⟨_,_,rfl,.inl rfl⟩
  obtain ⟨c',g,e,ht⟩:=hd;rw[e];refine ⟨by simp[(ih c' 0).1],fun hi=>?_⟩
  cases i with
  |zero=>exact ht
  |succ i=>exact (ih c' i).2 (by simpa using hi)
theorem zkh (N:Nat) {b:Nat} (hs:St inv w0 M n φ σ β a w) (_h1:N<=b) (h2:zaM φ<=b) (h3:zax σ<=b):∀ k,St inv w0 M n φ (zcG b k σ) β a w/\Ext b (ctx inv M σ β w) (ctx inv M (zcG b k σ) β w):=by
 intro k;have hget:∀ k l,zah (zcG b k σ) l=zah σ l\/(b<=l/\zah (zcG b k σ) l=some .rsv):=by
  intro k
  induction k with
  |zero=>intro l;exact .inl rfl
  |succ k ih =>
   intro l;simp only[zcG];rw[zag];split
   ·rename_i e;exact .inr ⟨by omega,rfl⟩
   ·exact ih l
 have hlow:∀ l,l<b->zah (zcG b k σ) l=zah σ l:=fun l hl=>by
  rcases hget k l with h|h
  ·exact h
  ·omega
 have hreal:∀ l o,zah (zcG b k σ) l=some o->o≠.rsv->zah σ l=some o:=by
  intro l o h hne;rcases hget k l with h'|⟨_,h'⟩
  ·rw[<-h'];exact h
  ·rw[h']at h;simp only[Option.some.injEq]at h;exact absurd h.symm hne
 have hback:∀ l o,zah σ l=some o->zah (zcG b k σ) l=some o:=fun l o h=>by rw[hlow l (by have:=(zau σ l o h).1;omega)];exact h
 have hav:∀ x,avoid M (zcG b k σ) β x↔avoid M σ β x:=by
  intro x;constructor
  ·rintro (h|⟨l,o,e,hr,hb⟩)
   ·exact .inl h
   ·exact .inr ⟨l,o,hreal l o e (by rintro rfl;simp[AO.real]at hr),hr,hb⟩
  ·rintro (h|⟨l,o,e,hr,hb⟩)
   ·exact .inl h
   ·exact .inr ⟨l,o,hback l o e,hr,hb⟩
 have hext:Ext b (ctx inv M σ β w) (ctx inv M (zcG b k σ) β w):=by
  refine ⟨⟨rfl,Nat.le_refl _,fun _ _ _=>rfl,fun x _ h=>(hav x).1 h⟩,fun l hl p' hp'=>⟨p', ?_,Nat.le_refl _,fun _=>rfl⟩⟩
  show zai β w σ l=some p'
  have hp'':zai β w (zcG b k σ) l=some p':=hp';unfold zai at hp'' |-
  rw[hlow l hl]at hp'';exact hp''
 refine ⟨⟨⟨fun i=>hext.rel (zaK _ (Nat.le_trans (zbO φ i) h2)) (hs.slots i), ?_⟩,hs.size,hs.defers⟩,hext⟩
 have hm:=hs.mem;refine ⟨hm.below,fun l l' o o' e e' hr hr'=>hm.inj l l' o o' (hreal _ _ e (by rintro rfl;simp[AO.real]at hr)) (hreal _ _ e' (by rintro rfl;simp[AO.real]at hr')) hr hr',fun l o e hr=>hm.own l o (hreal _ _ e (by rintro rfl;simp[AO.real]at hr)) hr,fun l cs e=>?_,
  fun l cs e=>hm.ghost l cs (hreal _ _ e (by simp)),fun l kvs e=>hm.maps l kvs (hreal _ _ e (by simp))⟩
 obtain ⟨xs,ty,q1,q2,q3⟩:=hm.cells l cs (hreal _ _ e (by simp))
 exact ⟨xs,ty,q1,q2,hext.relCs (zaA cs (Nat.le_trans (zau σ l _ (hreal _ _ e (by simp))).2 h3)) q3⟩
theorem AWp.regd (hE:zcs P inv) (hM:∀ b,M b->b<w0.heap.size) {k:Nat} {l:List GOp} {Q:Exit->AF->AS->Prop} (h:zbB P inv w0 M (zaw N φ σ+k) l (Q .normal) φ (zcG (zaw N φ σ) k σ)):AWp P inv w0 M N n (.regd k l) Q φ σ:=by
 intro c₀ hc β a w hs;obtain ⟨id,ops,rfl,hl⟩:=inv_regd hc;have main:∀ (gs0 gs:List GOp),zbD P inv n ops ops.toList=some gs0->gs.length=gs0.length->(∀ i,i<gs.length->Tr (gAt gs0 i) (gAt gs i))->drawn (ops.toList.map zgg) gs k=some (.regd k l) ->
   (Code.region id ops true).wp P (fun e a' w'=>∃ φ' σ' β',Q e φ' σ'/\St inv w0 M n φ' σ' β' a' w'/\Ext N (ctx inv M σ β w) (ctx inv M σ' β' w')) a w:=by
  intro gs0 gs hgs hl1 htr hdr;have hplain:∀ i,i<gs.length->zck (gAt gs i)=gAt gs i:=fun i hi=>by
   obtain ⟨q1,q2⟩:=zcY hgs;have hi':i<ops.toList.length:=by omega
   exact (htr i hi).plain (ziV (q2 i ops.toList[i] (by simp[hi'])).2)
  have hlen:gs.length=ops.size:=by rw[hl1];simpa using (zcY hgs).1
  have main2:∀ (gs':List GOp),gs'.length=gs.length->(∀ i,i<gs'.length->Tr (gAt gs0 i) (zck (gAt gs' i)))->zl5 gs' (ops.toList.map zgg) (ancGo [] (ops.toList.map zgg)) (zeV gs (ops.toList.map zgg) (List.range gs.length) gs.length 0) gs'.length=true ->
    l=(zeV gs (ops.toList.map zgg) (List.range gs.length) gs.length 0).map (gAt gs')->(Code.region id ops true).wp P (fun e a' w'=>∃ φ' σ' β',Q e φ' σ'/\St inv w0 M n φ' σ' β' a' w'/\Ext N (ctx inv M σ β w) (ctx inv M σ' β' w')) a w:=by
   intro gs' hlen' htr' hok el;subst el;obtain ⟨f1,f2,f3⟩:=zbw N φ σ;have hdw:=fun N=>hs.mem.call (w':={ w with drawn:=w.drawn+1 }) ⟨rfl,rfl,rfl,Nat.le_refl _,fun _ _=>rfl⟩ N
   have hs1:St inv w0 M n φ σ β a { w with drawn:=w.drawn+1 }:=hs.keep (hdw (zaM φ)).1 (hdw (zaM φ)).2 (Nat.le_refl _)
   obtain ⟨hs',hr'⟩:=zkh N hs1 f1 f2 f3 k;have hext:=(hdw N).2.trans (hr'.mono f1);have hfalse:∀ i,(Array.replicate ops.size false).getD i false=false:=by
    intro i;simp only[Array.getD_eq_getD_getElem?,Array.getElem?_replicate];split<;>rfl
   have hall:∀ l:List Nat,(l.filter fun i=>!(Array.replicate ops.size false).getD i false)=l:=fun l=>List.filter_eq_self.2 fun i _=>by rw[hfalse];rfl
   refine wp_region_any hE.1 ?_;refine zpx hE hM hgs (hlen'.trans hl1) htr' rfl hok (N:=zaw N φ σ+k) (K:=Q .normal) ops.size (Array.replicate ops.size false) φ _ β a _ (by simp) ?_ ?_ ?_ ?_ hs' ?_
   ·intro k x hk
    rw[hfalse]at hk;cases hk
   ·rw[hall]
    have hnd:∀ (f:Nat) (bits:Nat),(zeV gs (ops.toList.map zgg) (List.range gs.length) f bits).length<=f:=by
     intro f
     induction f with
     |zero=>intro bits;simp[zeV]
     |succ f ih =>
      intro bits;simp only[zeV];split
      ·simp only[List.length_cons];have:=ih (bits ||| 2 ^ ‹Nat›);omega
      ·split
       ·simp only[List.length_cons];have:=ih (bits ||| 2 ^ ‹Nat›);omega
       ·simp
    exact Nat.le_trans (hnd _ _) (by omega)
   ·intro j _ d _
    have:=zbO φ d;omega
   ·rw[hall]
    exact awpL_of h
   ·intro φ' σ' β' a' w' hk hst he
    exact ⟨φ',σ',β',hk,hst,hext.trans (he.mono (by omega))⟩
  have hget:∀ (f:Nat->GOp) (i:Nat),i<gs.length->gAt ((List.range gs.length).map f) i=f i:=by
   intro f i hi;show ((List.map f (List.range gs.length))[i]?).getD _=_
   rw[List.getElem?_map,List.getElem?_range hi];rfl
  have hel:∀ anc ord,(znh gs anc ord).length=gs.length:=fun anc ord=>by simp[znh]
  have hpl:∀ anc ord,(zi7 (znh gs anc ord) anc ord).length=gs.length:=fun anc ord=>by simp[zi7,hel]
  have heff:∀ anc ord i,i<gs.length->Tr (gAt gs0 i) (zck (gAt (znh gs anc ord) i)):=by
   intro anc ord i hi;have h1:=htr i hi;have h2:=hplain i hi;unfold znh;rw[hget _ i hi];unfold effOp;split
   ·rename_i gd d j l _ e
    rw[e]at h1;show Tr _ (gd,.calle d j l)
    rcases h1 with h1|⟨_,_,_,_,_,h1⟩|⟨_,_,_,_,h1⟩|⟨_,_,_,_,_,h1⟩|⟨_,_,_,_,_,h1⟩|⟨_,_,_,_,_,_,h1⟩|⟨_,_,_,_,_,_,h1⟩|⟨_,_,_,_,_,h1⟩|⟨_,_,_,_,_,_,_,h1⟩
    ·exact .inr (.inr (.inr (.inl ⟨gd,d,j,l,h1.symm,rfl⟩)))
    all_goals simp at h1
   ·rename_i gd d f l _ e
    rw[e]at h1;show Tr _ (gd,.calve d f l)
    rcases h1 with h1|⟨_,_,_,_,_,h1⟩|⟨_,_,_,_,h1⟩|⟨_,_,_,_,_,h1⟩|⟨_,_,_,_,_,h1⟩|⟨_,_,_,_,_,_,h1⟩|⟨_,_,_,_,_,_,h1⟩|⟨_,_,_,_,_,h1⟩|⟨_,_,_,_,_,_,_,h1⟩
    ·exact .inr (.inr (.inr (.inr (.inl ⟨gd,d,f,l,h1.symm,rfl⟩))))
    all_goals simp at h1
   ·rename_i gd d u x sz _ e
    rw[e]at h1;show Tr _ (gd,.appe d u x sz)
    rcases h1 with h1|⟨_,_,_,_,_,h1⟩|⟨_,_,_,_,h1⟩|⟨_,_,_,_,_,h1⟩|⟨_,_,_,_,_,h1⟩|⟨_,_,_,_,_,_,h1⟩|⟨_,_,_,_,_,_,h1⟩|⟨_,_,_,_,_,h1⟩|⟨_,_,_,_,_,_,_,h1⟩
    ·exact .inr (.inr (.inr (.inr (.inr (.inl ⟨gd,d,u,x,sz,h1.symm,rfl⟩)))))
    all_goals simp at h1
   ·rename_i gd d u x sz _ e
    rw[e]at h1;show Tr _ (gd,.appA d (.t u) x sz [])
    rcases h1 with h1|⟨_,_,_,_,_,h1⟩|⟨_,_,_,_,h1⟩|⟨_,_,_,_,_,h1⟩|⟨_,_,_,_,_,h1⟩|⟨_,_,_,_,_,_,h1⟩|⟨_,_,_,_,_,_,h1⟩|⟨_,_,_,_,_,h1⟩|⟨_,_,_,_,_,_,_,h1⟩
    ·exact .inr (.inr (.inr (.inr (.inr (.inr (.inl ⟨gd,d,_,x,sz,h1.symm,rfl⟩))))))
    all_goals simp at h1
   ·rename_i gd d j l _ e
    rw[e]at h1 h2;split
    ·show Tr _ (gd,.callA d j l [])
     rcases h1 with h1|⟨_,_,_,_,_,h1⟩|⟨_,_,_,_,h1⟩|⟨_,_,_,_,_,h1⟩|⟨_,_,_,_,_,h1⟩|⟨_,_,_,_,_,_,h1⟩|⟨_,_,_,_,_,_,h1⟩|⟨_,_,_,_,_,h1⟩|⟨_,_,_,_,_,_,_,h1⟩
     ·exact .inr (.inr (.inr (.inr (.inr (.inr (.inr (.inl ⟨gd,d,j,l,h1.symm,rfl⟩)))))))
     all_goals simp at h1
    ·rw[h2];exact h1
   ·rename_i gd d sz len z ps e
    rw[e]at h1 h2;split
    ·show Tr _ (gd,.mksr d sz len z ps)
     rcases h1 with h1|⟨_,_,_,_,_,h1⟩|⟨_,_,_,_,h1⟩|⟨_,_,_,_,_,h1⟩|⟨_,_,_,_,_,h1⟩|⟨_,_,_,_,_,_,h1⟩|⟨_,_,_,_,_,_,h1⟩|⟨_,_,_,_,_,h1⟩|⟨_,_,_,_,_,_,_,h1⟩
     ·exact .inr (.inr (.inr (.inr (.inr (.inr (.inr (.inr ⟨gd,d,sz,len,z,ps,h1.symm,rfl⟩)))))))
     all_goals simp at h1
    ·rw[h2];exact h1
   ·rw[h2];exact h1
  unfold drawn at hdr;simp only at hdr;split at hdr
  ·rename_i hok
   simp only[Option.some.injEq,ACode.regd.injEq,true_and]at hdr;refine main2 _ (hel _ _) (fun i hi=>?_) (by rw[hel];exact hok) hdr.symm
   rw[hel]at hi;exact heff _ _ i hi
  ·split at hdr
   ·rename_i hok
    simp only[Option.some.injEq,ACode.regd.injEq,true_and]at hdr;refine main2 _ (hpl _ _) (fun i hi=>?_) (by rw[hpl];exact hok) hdr.symm
    rw[hpl]at hi;have he:∀ anc ord,zck (gAt (zi7 (znh gs anc ord) anc ord) i)=zck (gAt (znh gs anc ord) i):=by
     intro anc ord;have e1:gAt (zi7 (znh gs anc ord) anc ord) i=addPt (znh gs anc ord) anc ord i:=by
      simp only[zi7,hel];exact hget _ i hi
     rw[e1];unfold addPt;split
     ·rename_i e;rw[e];rfl
     ·rfl
    rw[he];exact heff _ _ i hi
   ·cases hdr
 unfold zgw at hl;split at hl
 ·rename_i gs hgs
  split at hl
  ·rename_i c e
   simp only[Option.some.injEq]at hl;subst hl;obtain ⟨_,e'⟩:=zer e;simp only[ACode.regd.injEq]at e';obtain ⟨rfl,_⟩:=e';exact main gs gs hgs rfl (fun _ _=>.inl rfl) e
  ·obtain ⟨_,e'⟩:=zer hl
   simp only[ACode.regd.injEq]at e';have hk:=e'.1;exact main gs (zkm (zix gs) 0 gs) hgs (zhA _ gs 0 0).1 (fun i hi=>(zhA (zix gs) gs 0 i).2 (by rw[(zhA (zix gs) gs 0 0).1]at hi;exact hi)) (by rw[hk];rw[hk]at hl;exact hl)
 ·cases hl
end
section
variable {P:Program} {inv:Nat->Option Nat} {w0:World} {M:Nat->Prop} {n N:Nat} {φ:AF} {σ:AS}
theorem zrn {c₀:Code} {l:Nat} (h:zaD P inv n c₀=some (.label l)):c₀=.label l:=by
 unfold zaD at h;split at h<;>first|(cases h;done)|(obtain ⟨_,e⟩:=za7 h;cases e;done)|(obtain ⟨_,_,e⟩:=Option.map_eq_some_iff.1 h;cases e;done)|(simp only[Option.some.injEq,ACode.label.injEq]at h;rw[h];done)|(split at h<;>simp at h)
theorem inv_goto {c₀:Code} {l:Nat} (h:zaD P inv n c₀=some (.goto l)):c₀=.goto l:=by
 unfold zaD at h;split at h<;>first|(cases h;done)|(obtain ⟨_,e⟩:=za7 h;cases e;done)|(obtain ⟨_,_,e⟩:=Option.map_eq_some_iff.1 h;cases e;done)|(simp only[Option.some.injEq,ACode.goto.injEq]at h;rw[h];done)|(split at h<;>simp at h)
theorem AWp.label {l:Nat} {Q:Exit->AF->AS->Prop} (h:Q .normal φ σ):AWp P inv w0 M N n (.label l) Q φ σ:=by
 intro c₀ hc β a w hs;rw[zrn hc];exact wp_label ⟨φ,σ,β,h,hs,.refl _ _⟩
theorem AWp.goto {l:Nat} {Q:Exit->AF->AS->Prop} (h:Q (.goto l) φ σ):AWp P inv w0 M N n (.goto l) Q φ σ:=by
 intro c₀ hc β a w hs;rw[inv_goto hc];exact wp_goto ⟨φ,σ,β,h,hs,.refl _ _⟩
end
end Go.Eng
