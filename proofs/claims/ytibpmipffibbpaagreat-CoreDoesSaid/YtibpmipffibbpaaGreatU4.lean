/-
  A part of the engine that walks the functions' codes, and of the functions' contracts. Conditions: those that each theorem names.
-/
import Derived.Test.YtibpmipffibbpaaGreatU3
import Derived.Below
import Derived.Calls
import Derived.ChangeKeysEq
import Derived.DataReads
import Derived.Deep.LoopGhost
import Derived.Laws.AppendOwn
import Derived.Laws.Cells
import Derived.Laws.CopyRow
import Derived.Laws.Entries
import Derived.Laws.MakeOwn
import Derived.Laws.Rows
import Derived.Laws.StructEq
import Derived.Laws.Tables
import Derived.Lib.AppendZerosOnto
import Derived.MapKept
import Derived.Orders
import Derived.ProofKit
import Derived.ScopeJumps
import Derived.Tactics2
import Derived.WalkSpells
set_option linter.unusedSimpArgs false
set_option linter.unusedVariables false
set_option linter.unusedSectionVars false
namespace Go.Eng
open Go.RowKit
theorem zkX {a b:Nat} (hne:a≠b) (x y:AO):∀ σ:AS,za8 (za8 σ a x) b y=za8 (za8 σ b y) a x
 |[]=>by
  simp only[za8]
  rcases Nat.lt_or_gt_of_ne hne with h|h
  ·rw[if_neg (Ne.symm hne),if_neg (by omega),if_neg hne,if_pos h]
  ·rw[if_neg (Ne.symm hne),if_pos h,if_neg hne,if_neg (by omega)]
 |(j,z)::r=>by
  have ih:=zkX hne x y r
  simp only[za8]
  rcases Nat.lt_trichotomy a j with ha|ha|ha<;>rcases Nat.lt_trichotomy b j with hb|hb|hb
  all_goals (try subst ha)<;>(try subst hb)
  all_goals first|(exact absurd rfl hne)|skip
  all_goals (repeat' split)<;>simp only[za8]<;>(repeat' split)<;>first|rfl|omega|(exfalso;contradiction)|(exact absurd trivial (by assumption))|(simp only[ih];done)|skip
theorem zix (d:Nat) (x:AV):∀ φ:AF,zaS φ<=mx (zbs φ d).bound (zaS (zbE φ d x))
 |[]=>by simp[zaS]
 |(j,y)::r=>by
  simp only[zbs,zbE]
  by_cases h:d=j
  ·rw[if_pos h,if_pos h]
   simp only[zaS]
   exact zqy (za2 _ _) (Nat.le_trans (zaz x.bound (zaS r)) (zaz _ _))
  ·rw[if_neg h,if_neg h]
   split
   ·simp only[zaS]
    exact Nat.le_trans (zaz x.bound _) (zaz _ _)
   ·simp only[zaS]
    have ih:=zix d x r
    refine zqy (Nat.le_trans (za2 _ _) (zaz _ _)) (Nat.le_trans ih (zqy (za2 _ _) (Nat.le_trans (zaz _ _) (zaz _ _))))
section
variable {P:Program} {inv:Nat->Option Nat} {w0:World} {M:Nat->Prop} {n N:Nat} {φ φ1:AF} {σ:AS}
theorem ziq {g:GOp} {K1 K2:AF->AS->Prop} (hk:∀ φ σ,K1 φ σ->K2 φ σ) (h:zhe P inv w0 M N g φ σ K1):zhe P inv w0 M N g φ σ K2:=by
 obtain ⟨gd,o⟩:=g
 cases gd with
 |none=>exact ziS hk h
 |some sw =>
  rcases h with ⟨t,e,h1,h2⟩|⟨e,h⟩
  ·exact .inl ⟨t,e,fun k=>ziS hk (h1 k),fun k=>hk _ _ (h2 k)⟩
  ·exact .inr ⟨e,hk _ _ h⟩
theorem gopD_val {g:GOp} {K:AF->AS->Prop} (hv:zoW g.2=true) (h:zhe P inv w0 M N g φ σ K) :
  ∃ d x,g.2.dst=some d/\K (zbE φ d x) σ/\∀ (φ':AF) (σ':AS) (K':AF->AS->Prop),(∀ t∈grd g,zbs φ' t=zbs φ t)->SLx (isLdO g.2) σ σ'->K' (zbE φ' d x) σ'->zhe P inv w0 M N g φ' σ' K':=by
 obtain ⟨gd,o⟩:=g
 have key:zbp P inv w0 M N o φ σ K->∃ d x,o.dst=some d/\K (zbE φ d x) σ/\∀ (φ':AF) (σ':AS) (K':AF->AS->Prop),(∀ t∈o.rd,zbs φ' t=zbs φ t)->SLx (isLdO o) σ σ'->K' (zbE φ' d x) σ'->zbp P inv w0 M N o φ' σ' K':=by
  clear h
  intro h
  cases o with
  |set d e =>
   simp only[zbp,aop]at h
   obtain ⟨x,k1,k2⟩:=zkJ e _ h
   refine ⟨d,x,rfl,k1,fun φ' σ' K' hr hs hk=>?_⟩
   simp only[zbp,aop]
   rw[zrH hr]
   exact k2 σ' hs _ hk
  |callp d j args =>
   simp only[zbp,aop]at h
   obtain ⟨x,k1,k2⟩:=h
   refine ⟨d,x,rfl,k2,fun φ' σ' K' hr hs hk=>?_⟩
   simp only[zbp,aop]
   simp only[AOp.rd]at hr
   rw[zdN hr]
   refine ⟨x,fun N' φ2 σ2 h2=>k1 N' φ2 σ2 fun l o e hne=>?_,hk⟩
   exact h2 l o ((hs.2 rfl) l o e hne) hne
  |_=>simp[zoW]at hv
 have hdst:∃ d,o.dst=some d:=by cases o<;>simp only[zoW,Bool.false_eq_true]at hv<;>exact ⟨_,rfl⟩
 cases gd with
 |none=>exact key h
 |some sw =>
  obtain ⟨s,want⟩:=sw
  obtain ⟨d,hd⟩:=hdst
  rcases h with ⟨t,et,h1,h2⟩|⟨et,h⟩
  ·by_cases htw:t=want
   ·obtain ⟨d',x,k0,k1,k2⟩:=key (h1 htw)
    refine ⟨d',x,k0,k1,fun φ' σ' K' hr hs hk=>.inl ⟨t, ?_,fun _=>k2 φ' σ' K' (fun t ht=>hr t ?_) hs hk,fun e=>absurd htw e⟩⟩
    ·rw[hr s (by simp[grd])];exact et
    ·simp only[grd,List.mem_cons];exact .inr ht
   ·have h3:=h2 htw
    rw[hd]at h3
    refine ⟨d,.u,hd,h3,fun φ' σ' K' hr hs hk=>.inl ⟨t, ?_,fun e=>absurd e htw,fun _=>by rw[hd];exact hk⟩⟩
    rw[hr s (by simp[grd])];exact et
  ·rw[hd]at h
   refine ⟨d,.u,hd,h,fun φ' σ' K' hr hs hk=>.inr ⟨?_,by rw[hd];exact hk⟩⟩
   rw[hr s (by simp[grd])];exact et
theorem zq6 {g:GOp} {K:AF->AS->Prop} (hp:plain g.2=g.2) (he:zlz g.2=false) (h:zhe P inv w0 M N g φ1 σ K) (hr:∀ t∈grd g,zbs φ t=zbs φ1 t) (hb:zaS φ<=mx N (zaS φ1)) :
  ∃ N2,N<=N2/\zhe P inv w0 M N2 g φ σ (Sw g.2 φ φ1 σ K):=by
 obtain ⟨gd,o⟩:=g
 cases gd with
 |none=>exact zrP hp he h hr hb
 |some sw =>
  obtain ⟨s,want⟩:=sw
  have hrs:zbs φ s=zbs φ1 s:=hr s (by simp[grd])
  have hro:∀ t∈o.rd,zbs φ t=zbs φ1 t:=fun t ht=>hr t (by simp only[grd,List.mem_cons];exact .inr ht)
  rcases h with ⟨t,et,h1,h2⟩|⟨et,h⟩
  ·by_cases htw:t=want
   ·obtain ⟨N2,hN,h3⟩:=zrP hp he (h1 htw) hro hb
    exact ⟨N2,hN,.inl ⟨t,hrs.trans et,fun _=>h3,fun e=>absurd htw e⟩⟩
   ·exact ⟨N,Nat.le_refl _,.inl ⟨t,hrs.trans et,fun e=>absurd e htw,fun _=>⟨.inr (.refl _ σ),.u,rfl,h2 htw⟩⟩⟩
  ·exact ⟨N,Nat.le_refl _,.inr ⟨hrs.trans et,.inr (.refl _ σ),.u,rfl,h⟩⟩
def Fav (σ σ':AS) (v:AV):Prop:=(∀ m y,zdC σ m v=some y->zdC σ' m v=some y)/\∀ l ver off,v=.ptr l ver off->zb9 σ l ver->zb9 σ' l ver
theorem Fav.refl (σ:AS) (v:AV):Fav σ σ v:=⟨fun _ _ h=>h,fun _ _ _ _ h=>h⟩
theorem Fav.of_sle {σ σ':AS} (h:SLe σ σ') (v:AV):Fav σ σ' v:=⟨fun _ _ e=>zjK h e,fun _ _ _ _ e=>zlw h e⟩
def Far (pts:List Opd) (φ:AF) (σ σ':AS):Prop:=∀ p∈pts,Fav σ σ' (ev φ p)
theorem zrQ {l:Nat} {o:AO} {v y:AV} {m:Option Nat} (h:zhm l v=true) (hl:zdC σ m v=some y):zdC (za8 σ l o) m v=some y:=by
 cases v<;>simp only[zdC]at hl |-<;>try exact hl
 have h':∀ {a:Nat},a.beq l=false->a≠l:=fun e e'=>by subst e';simp at e
 simp only[zhm,Bool.not_eq_true']at h
 rw[zal,if_neg (h' h)]
 exact hl
theorem zre {l:Nat} {o:AO} {v:AV} (h:zhm l v=true):Fav σ (za8 σ l o) v:=by
 refine ⟨fun m y hl=>zrQ h hl,fun l' ver off e hl=>?_⟩
 subst e
 simp only[zhm,Bool.not_eq_true']at h
 unfold zb9 at hl |-
 rw[zal,if_neg (fun e=>by subst e;simp at h)]
 exact hl
theorem far_app {N:Nat} {φ0:AF} {d sz m:Nat} {dest:AV} {new:List AV} {pts:List Opd} {K:AF->AS->Prop} (hf:zrG φ dest pts=true) (h:zpl φ0 σ (zaB N φ0 σ) d sz dest m new K):zpl φ0 σ (zaB N φ0 σ) d sz dest m new (fun φ' σ'=>K φ' σ'/\Far pts φ σ σ'):=by
 unfold zpl at h |-
 split at h
 ·exact ⟨h.1,h.2,fun p _=>.of_sle (zl8 N φ0 σ _) _⟩
 ·refine ⟨h.1,h.2.1,h.2.2.1,h.2.2.2.1, ?_⟩
  have h2:=h.2.2.2.2
  split at h2
  ·exact ⟨h2.1,h2.2,fun p hp=>zre (List.all_eq_true.1 hf p hp)⟩
  ·exact h2.elim
 ·exact h.elim
theorem zq7 {i:GOp} {K:AF->AS->Prop} (h:zhe P inv w0 M N i φ σ K) :
  ∃ N2,N<=N2/\zhe P inv w0 M N2 (zch i) φ σ (fun φ' σ'=>(∃ r,φ'=zcS φ i.2.dst r/\K φ' σ')/\Far (zi0 i.2) φ σ σ'):=by
 obtain ⟨gd,o⟩:=i
 cases heff:zlz o with
 |true =>
  refine ⟨N,Nat.le_refl _, ?_⟩
  have he:zch (gd,o)=(gd,o):=by cases o<;>first|rfl|cases heff
  rw[he]
  have key:zbp P inv w0 M N o φ σ K->zbp P inv w0 M N o φ σ (fun φ' σ'=>(∃ r,φ'=zcS φ o.dst r/\K φ' σ')/\Far (zi0 o) φ σ σ'):=by
   intro h
   cases o<;>first|(cases heff;done)|skip
   ·simp only[zbp,aop]at h |-
    exact h.mono fun r σ' h'=>⟨⟨r,rfl,h'⟩,fun p hp=>by cases hp⟩
   ·simp only[zbp,aop]at h |-
    split at h
    ·exact h.mono fun r σ' h'=>⟨⟨r,rfl,h'⟩,fun p hp=>by cases hp⟩
    ·exact h.elim
   ·simp only[zbp,aop]at h |-
    exact zct (fun m l h=>zcY (fun r σ' h'=>⟨⟨r,rfl,h'⟩,fun p hp=>by cases hp⟩) h) h
  have hpt:zi0 o=[]:=by cases o<;>first|rfl|cases heff
  cases gd with
  |none=>exact key h
  |some sw =>
   obtain ⟨s,want⟩:=sw
   rcases h with ⟨t,et,h1,h2⟩|⟨et,h⟩
   ·exact .inl ⟨t,et,fun e=>key (h1 e),fun e=>⟨⟨.u,rfl,h2 e⟩,fun p hp=>by simp only[hpt]at hp;cases hp⟩⟩
   ·exact .inr ⟨et,⟨.u,rfl,h⟩,fun p hp=>by simp only[hpt]at hp;cases hp⟩
 |false =>
 by_cases hp:plain o=o
 ·obtain ⟨N2,hN,h2⟩:=zq6 (g:=(gd,o)) (φ:=φ) hp heff h (fun _ _=>rfl) (zaz _ _)
  refine ⟨N2,hN, ?_⟩
  have he:zch (gd,o)=(gd,o):=by unfold zch;simp only[hp]
  rw[he]
  refine ziq (fun φ' σ' hk=>?_) h2
  obtain ⟨_,r,rfl,hk⟩:=hk
  refine ⟨⟨r,rfl,hk⟩, ?_⟩
  cases o<;>first|(intro p hp';cases hp';done)|(simp[plain]at hp;done)|(simp[plain]at hp;subst hp;intro p hp';cases hp';done)
 ·cases o<;>first|(exact absurd rfl hp)|skip
  case appA dd s x sz pts =>
   refine ⟨N,Nat.le_refl _, ?_⟩
   have key:zbp P inv w0 M N (.appA dd s x sz pts) φ σ K->zbp P inv w0 M N (.appA dd s x sz []) φ σ (fun φ' σ'=>(∃ r,φ'=zcS φ (AOp.appA dd s x sz pts).dst r/\K φ' σ')/\Far pts φ σ σ'):=by
    intro h
    simp only[zbp,aop]at h |-
    exact zct (fun m l hk=>⟨by cases ev φ s<;>rfl,zcY (fun r σ' h'=>⟨⟨r,rfl,h'.1⟩,h'.2⟩) (far_app hk.1 hk.2)⟩) h
   cases gd with
   |none=>exact key h
   |some sw =>
    obtain ⟨s,want⟩:=sw
    rcases h with ⟨t,et,h1,h2⟩|⟨et,h⟩
    ·exact .inl ⟨t,et,fun e=>key (h1 e),fun e=>⟨⟨.u,rfl,h2 e⟩,fun _ _=>.refl _ _⟩⟩
    ·exact .inr ⟨et,⟨.u,rfl,h⟩,fun _ _=>.refl _ _⟩
  rename_i nn a x pts
  refine ⟨N,Nat.le_refl _, ?_⟩
  have key:zbp P inv w0 M N (.storeA nn a x pts) φ σ K->zbp P inv w0 M N (.store nn a x) φ σ (fun φ' σ'=>(∃ r,φ'=zcS φ (AOp.storeA nn a x pts).dst r/\K φ' σ')/\Far pts φ σ σ'):=by
   intro h
   simp only[zbp,aop]at h |-
   split at h
   ·rename_i l ver off e
    have hf:=h.1
    have h:=h.2
    split at h
    ·exact ⟨h.1,h.2.1,h.2.2.1,h.2.2.2.1,⟨.u,rfl,h.2.2.2.2⟩,fun p hp=>zre (List.all_eq_true.1 hf p hp)⟩
    ·exact h.elim
   ·exact h.elim
  cases gd with
  |none=>exact key h
  |some sw =>
   obtain ⟨s,want⟩:=sw
   rcases h with ⟨t,et,h1,h2⟩|⟨et,h⟩
   ·exact .inl ⟨t,et,fun e=>key (h1 e),fun e=>⟨⟨.u,rfl,h2 e⟩,fun _ _=>.refl _ _⟩⟩
   ·exact .inr ⟨et,⟨.u,rfl,h⟩,fun _ _=>.refl _ _⟩
theorem gopD_ld {g:GOp} {d:Nat} {m:Option Nat} {p:Opd} {K:AF->AS->Prop} (hg:g.2=.set d (.load m p)) (h:zhe P inv w0 M N g φ σ K) :
  ∃ x,K (zbE φ d x) σ/\∀ (φ':AF) (σ':AS) (K':AF->AS->Prop),(∀ t∈grd g,zbs φ' t=zbs φ t)->(∀ v,zdC σ m (ev φ p)=some v->zdC σ' m (ev φ p)=some v)->K' (zbE φ' d x) σ'->zhe P inv w0 M N g φ' σ' K':=by
 obtain ⟨gd,o⟩:=g
 simp only at hg
 subst hg
 have key:zbp P inv w0 M N (.set d (.load m p)) φ σ K->∃ x,K (zbE φ d x) σ/\∀ (φ':AF) (σ':AS) (K':AF->AS->Prop),(∀ t∈p.rd,zbs φ' t=zbs φ t)->(∀ v,zdC σ m (ev φ p)=some v->zdC σ' m (ev φ p)=some v)->K' (zbE φ' d x) σ'->zbp P inv w0 M N (.set d (.load m p)) φ' σ' K':=by
  clear h
  intro h
  simp only[zbp,aop,zea]at h
  obtain ⟨v,e,hk⟩:=za6 h
  refine ⟨v,hk,fun φ' σ' K' hr hs hk'=>?_⟩
  simp only[zbp,aop,zea]
  rw[zbg hr,hs v e]
  exact hk'
 cases gd with
 |none=>exact key h
 |some sw =>
  obtain ⟨s,want⟩:=sw
  rcases h with ⟨t,et,h1,h2⟩|⟨et,h⟩
  ·by_cases htw:t=want
   ·obtain ⟨x,k1,k2⟩:=key (h1 htw)
    refine ⟨x,k1,fun φ' σ' K' hr hs hk=>.inl ⟨t, ?_,fun _=>k2 φ' σ' K' (fun t ht=>hr t ?_) hs hk,fun e=>absurd htw e⟩⟩
    ·rw[hr s (by simp[grd])];exact et
    ·simp only[grd,List.mem_cons];exact .inr ht
   ·refine ⟨.u,h2 htw,fun φ' σ' K' hr hs hk=>.inl ⟨t, ?_,fun e=>absurd e htw,fun _=>hk⟩⟩
    rw[hr s (by simp[grd])];exact et
  ·refine ⟨.u,h,fun φ' σ' K' hr hs hk=>.inr ⟨?_,hk⟩⟩
   rw[hr s (by simp[grd])];exact et
theorem gopD_fad {g:GOp} {d:Nat} {m:Nat} {p:Opd} {K:AF->AS->Prop} (hg:g.2=.set d (.fadr p m)) (h:zhe P inv w0 M N g φ σ K) :
  ∃ x,K (zbE φ d x) σ/\∀ (φ':AF) (σ':AS) (K':AF->AS->Prop),(∀ t∈grd g,zbs φ' t=zbs φ t)->Fav σ σ' (ev φ p)->K' (zbE φ' d x) σ'->zhe P inv w0 M N g φ' σ' K':=by
 obtain ⟨gd,o⟩:=g
 simp only at hg
 subst hg
 have key:zbp P inv w0 M N (.set d (.fadr p m)) φ σ K->∃ x,K (zbE φ d x) σ/\∀ (φ':AF) (σ':AS) (K':AF->AS->Prop),(∀ t∈p.rd,zbs φ' t=zbs φ t)->Fav σ σ' (ev φ p)->K' (zbE φ' d x) σ'->zbp P inv w0 M N (.set d (.fadr p m)) φ' σ' K':=by
  clear h
  intro h
  simp only[zbp,aop,zea]at h
  split at h
  ·rename_i l ver off e
   refine ⟨_,h.2,fun φ' σ' K' hr hs hk'=>?_⟩
   simp only[zbp,aop,zea]
   rw[zbg hr,e]
   exact ⟨hs.2 l ver off e h.1,hk'⟩
  ·rename_i e
   refine ⟨_,h,fun φ' σ' K' hr hs hk'=>?_⟩
   simp only[zbp,aop,zea]
   rw[zbg hr,e]
   exact hk'
  ·exact h.elim
 cases gd with
 |none=>exact key h
 |some sw =>
  obtain ⟨s,want⟩:=sw
  rcases h with ⟨t,et,h1,h2⟩|⟨et,h⟩
  ·by_cases htw:t=want
   ·obtain ⟨x,k1,k2⟩:=key (h1 htw)
    refine ⟨x,k1,fun φ' σ' K' hr hs hk=>.inl ⟨t, ?_,fun _=>k2 φ' σ' K' (fun t ht=>hr t ?_) hs hk,fun e=>absurd htw e⟩⟩
    ·rw[hr s (by simp[grd])];exact et
    ·simp only[grd,List.mem_cons];exact .inr ht
   ·refine ⟨.u,h2 htw,fun φ' σ' K' hr hs hk=>.inl ⟨t, ?_,fun e=>absurd e htw,fun _=>hk⟩⟩
    rw[hr s (by simp[grd])];exact et
  ·refine ⟨.u,h,fun φ' σ' K' hr hs hk=>.inr ⟨?_,hk⟩⟩
   rw[hr s (by simp[grd])];exact et
theorem gopD_mov {g:GOp} {d:Nat} {p:Opd} {K:AF->AS->Prop} (hg:g.2=.set d (.mov p)) (h:zhe P inv w0 M N g φ σ K) :
  ∃ x,K (zbE φ d x) σ/\∀ (φ':AF) (σ':AS) (K':AF->AS->Prop),(∀ t∈grd g,zbs φ' t=zbs φ t)->K' (zbE φ' d x) σ'->zhe P inv w0 M N g φ' σ' K':=by
 obtain ⟨gd,o⟩:=g
 simp only at hg
 subst hg
 have key:zbp P inv w0 M N (.set d (.mov p)) φ σ K->∃ x,K (zbE φ d x) σ/\∀ (φ':AF) (σ':AS) (K':AF->AS->Prop),(∀ t∈p.rd,zbs φ' t=zbs φ t)->K' (zbE φ' d x) σ'->zbp P inv w0 M N (.set d (.mov p)) φ' σ' K':=by
  clear h
  intro h
  simp only[zbp,aop,zea]at h
  refine ⟨_,h,fun φ' σ' K' hr hk'=>?_⟩
  simp only[zbp,aop,zea]
  rw[zbg hr]
  exact hk'
 cases gd with
 |none=>exact key h
 |some sw =>
  obtain ⟨s,want⟩:=sw
  rcases h with ⟨t,et,h1,h2⟩|⟨et,h⟩
  ·by_cases htw:t=want
   ·obtain ⟨x,k1,k2⟩:=key (h1 htw)
    refine ⟨x,k1,fun φ' σ' K' hr hk=>.inl ⟨t, ?_,fun _=>k2 φ' σ' K' (fun t ht=>hr t ?_) hk,fun e=>absurd htw e⟩⟩
    ·rw[hr s (by simp[grd])];exact et
    ·simp only[grd,List.mem_cons];exact .inr ht
   ·refine ⟨.u,h2 htw,fun φ' σ' K' hr hk=>.inl ⟨t, ?_,fun e=>absurd e htw,fun _=>hk⟩⟩
    rw[hr s (by simp[grd])];exact et
  ·refine ⟨.u,h,fun φ' σ' K' hr hk=>.inr ⟨?_,hk⟩⟩
   rw[hr s (by simp[grd])];exact et
def znf (j i:GOp):Prop:=(zoY j=true/\zoY i=true/\zhk j.2.dst i.2.dst=true)\/(zoW j.2=true/\zlz i.2=false/\(zex i.2&&isLdO j.2)=false/\(zmQ i.2=true->isFree j.2=true)/\zhk j.2.dst i.2.dst=true/\zdi (grd i) j.2.dst=false/\zdi (grd j) i.2.dst=false) \/
 ldPt j.2 (zi0 i.2)=true/\zlz i.2=false/\zhk j.2.dst i.2.dst=true/\zdi (grd i) j.2.dst=false/\zdi (grd j) i.2.dst=false/\zdi (grd j) j.2.dst=false
theorem zqH {o:AOp} {pts:List Opd} (h:ldPt o pts=true):(∃ d m s,o=.set d (.load m (.t s))/\(.t s:Opd)∈pts)\/∃ d m s,o=.set d (.fadr (.t s) m)/\(.t s:Opd)∈pts:=by
 unfold ldPt at h
 split at h
 ·obtain ⟨q,hq,h⟩:=List.any_eq_true.1 h
  split at h
  ·simp only[Nat.beq_eq]at h;subst h;exact .inl ⟨_,_,_,rfl,hq⟩
  ·cases h
 ·obtain ⟨q,hq,h⟩:=List.any_eq_true.1 h
  split at h
  ·simp only[Nat.beq_eq]at h;subst h;exact .inr ⟨_,_,_,rfl,hq⟩
  ·cases h
 ·cases h
theorem zmx (o:AOp):plain (plain o)=plain o:=by cases o<;>rfl
theorem zkv (o:AOp):zex (plain o)=zex o:=by cases o<;>rfl
theorem zmP (o:AOp):zmQ (plain o)=zmQ o:=by cases o<;>rfl
theorem zrl (o:AOp):(plain o).dst=o.dst:=by cases o<;>rfl
theorem rd_plain (o:AOp):(plain o).rd=o.rd:=by cases o<;>rfl
theorem zq4 (g:GOp):grd (zch g)=grd g:=by obtain ⟨gd,o⟩:=g;cases gd<;>simp only[grd,zch,rd_plain]
theorem zeY {a b:Nat} (h:zhk (some a) (some b)=true):a≠b:=by
 intro e
 subst e
 simp[zhk]at h
theorem putO_get {d:Option Nat} {l:List Nat} (h:zdi l d=false) (φ:AF) (r:AV):∀ t∈l,zbs (zcS φ d r) t=zbs φ t:=by
 intro t ht
 cases d with
 |none=>rfl
 |some d =>
  simp only[zcS]
  rw[zbV,if_neg (zd5 h t ht)]
theorem zp9 {d:Nat} {d':Option Nat} (h:zhk (some d) d'=true) (φ:AF) (x r:AV):zcS (zbE φ d x) d' r=zbE (zcS φ d' r) d x:=by
 cases d' with
 |none=>rfl
 |some d'=>simp only[zcS];exact zis (zeY h) x r φ
def FarL (l:List GOp) (pts:List Opd) (φ:AF) (σ σ':AS):Prop:=∀ p∈pts,(∀ k∈l,zdi p.rd k.2.dst=false)->Fav σ σ' (ev φ p)
theorem swapL {i:GOp} {l2:List GOp} {K:AF->AS->Prop}:∀ {l1:List GOp} {φ:AF} {σ:AS},zrF P inv w0 M N (l1++i::l2) K φ σ->(∀ j∈l1,znf j i)->l1.Pairwise (fun j k=>zhk j.2.dst k.2.dst=true/\(isLdS j.2=true->zdi (grd j) k.2.dst=false)) ->
  (∀ j∈l1,∀ d,j.2.dst=some d->(zbs φ d).bound<=N)->∃ N2,N<=N2/\zhe P inv w0 M N2 (zch i) φ σ (fun φ' σ'=>(∃ r,φ'=zcS φ i.2.dst r/\zrF P inv w0 M N (l1++l2) K φ' σ')/\FarL l1 (zi0 i.2) φ σ σ')
 |[],φ,σ,h,_,_,_=>by
  obtain ⟨N2,hN,h2⟩:=zq7 (φ:=φ) h
  exact ⟨N2,hN,ziq (fun φ' σ' hk=>⟨hk.1,fun p hp _=>hk.2 p hp⟩) h2⟩
 |j::l1,φ,σ,h,ha,hp,hb=>by
  rw[List.pairwise_cons]at hp
  have tail:zlz i.2=false->∀ d x,j.2.dst=some d->zhk j.2.dst i.2.dst=true->zdi (grd i) j.2.dst=false->zdi (grd j) i.2.dst=false->zrF P inv w0 M N (l1++i::l2) K (zbE φ d x) σ ->
    (∀ (φ':AF) (σ':AS) (K':AF->AS->Prop),(∀ t∈grd j,zbs φ' t=zbs φ t)->(zmQ i.2=true\/SLx (!zex i.2) σ σ')->FarL l1 (zi0 i.2) (zbE φ d x) σ σ'->K' (zbE φ' d x) σ'->zhe P inv w0 M N j φ' σ' K') ->
    ∃ N2,N<=N2/\zhe P inv w0 M N2 (zch i) φ σ (fun φ' σ'=>(∃ r,φ'=zcS φ i.2.dst r/\zrF P inv w0 M N (j::l1++l2) K φ' σ')/\FarL (j::l1) (zi0 i.2) φ σ σ'):=by
   intro heff d x hd a3 a4 a5 hk hback
   rw[hd]at a3 a4
   obtain ⟨N2,hN,h2⟩:=swapL (φ:=zbE φ d x) hk (fun j hj=>ha j (by simp[hj])) hp.2 (fun j' hj d' hd'=>by
    rw[zbV,if_neg]
    ·exact hb j' (by simp[hj]) d' hd'
    ·have:=(hp.1 j' hj).1
     rw[hd,hd']at this
     exact Ne.symm (zeY this))
   have hbd:zaS φ<=mx N2 (zaS (zbE φ d x)):=by
    refine Nat.le_trans (zix d x φ) (zqy ?_ (zaz _ _))
    exact Nat.le_trans (hb j (by simp) d hd) (Nat.le_trans hN (za2 _ _))
   obtain ⟨N3,hN3,h3⟩:=zq6 (g:=zch i) (φ:=φ) (zmx _) (by rw[<-heff];unfold zch;cases i.2<;>rfl) h2 (fun t ht=>by rw[zq4]at ht;rw[zbV,if_neg (zd5 a4 t ht)]) hbd
   refine ⟨N3,Nat.le_trans hN hN3,ziq (fun φ' σ' hk=>?_) h3⟩
   obtain ⟨hle,r,rfl,⟨r',_,hk⟩,hfar⟩:=hk
   simp only[zch,zkv,zmP,zrl]at hle hk |-
   refine ⟨⟨r,rfl, ?_⟩,fun p hp' hk'=>?_⟩
   ·show zhe P inv w0 M N j _ σ' (zrF P inv w0 M N (l1++l2) K)
    refine hback _ _ _ (putO_get a5 φ r) hle hfar ?_
    rw[<-zp9 a3]
    exact hk
   ·have hev:ev (zbE φ d x) p=ev φ p:=zbg fun t ht=>by
     have:=hk' j (by simp)
     rw[hd]at this
     rw[zbV,if_neg (zd5 this t ht)]
    have:=hfar p hp' (fun k hk2=>hk' k (by simp[hk2]))
    rw[hev]at this
    exact this
  rcases ha j (by simp) with ⟨g1,g2,g3⟩|⟨a1,a0,a2,a7,a3,a4,a5⟩|⟨a1,a0,a3,a4,a5,a6⟩
  ·obtain ⟨jg,jo⟩:=j
   obtain ⟨ig,io⟩:=i
   cases jg<;>cases jo<;>simp only[zoY,Bool.false_eq_true]at g1
   cases ig<;>cases io<;>simp only[zoY,Bool.false_eq_true]at g2
   rename_i d back z di backi zi
   clear tail
   simp only[AOp.dst]at g3
   simp only[List.cons_append,zrF,zhe,zbp,aop]at h
   split at h
   ·rename_i hg
    obtain ⟨N2,hN,h2⟩:=swapL h.2 (fun j hj=>ha j (by simp[hj])) hp.2 (fun j' hj d' hd'=>by
     rw[zbV,if_neg]
     ·exact hb j' (by simp[hj]) d' hd'
     ·have:=(hp.1 j' hj).1
      rw[hd']at this
      exact Ne.symm (zeY this))
    refine ⟨N2,hN, ?_⟩
    simp only[zch,plain,zhe,zbp,aop]at h2 |-
    rw[zal]at h2
    split at h2
    ·rename_i hg2
     split at hg2
     ·cases hg2
     ·rename_i hne
      rw[hg2]
      refine ⟨h2.1,⟨_,rfl, ?_⟩,fun p hp=>by cases hp⟩
      obtain ⟨⟨r,hr,hk⟩,_⟩:=h2.2
      simp only[List.cons_append,zrF,zhe,zbp,aop]
      rw[zal,if_neg (Ne.symm hne),hg]
      refine ⟨h.1, ?_⟩
      rw[<-zkX (Ne.symm hne),<-zis (zeY g3)]
      exact hk
    ·exact h2.elim
   ·exact h.elim
  ·by_cases hap:zmQ i.2=true
   ·have hf:=a7 hap
    obtain ⟨jg,jo⟩:=j
    cases jo<;>first|(cases hf;done)|skip
    rename_i d e
    cases e<;>first|(cases hf;done)|skip
    rename_i q
    obtain ⟨x,hk,hback⟩:=gopD_mov (d:=d) (p:=q) rfl h
    exact tail a0 d x rfl a3 a4 a5 hk fun φ' σ' K' hr _ _ hk'=>hback φ' σ' K' hr hk'
   ·obtain ⟨d,x,hd,hk,hback⟩:=gopD_val a1 h
    refine tail a0 d x hd a3 a4 a5 hk fun φ' σ' K' hr hle _ hk'=>?_
    rcases hle with hle|hle
    ·exact absurd hle hap
    ·exact hback φ' σ' K' hr ⟨hle.1,fun e=>hle.2 (by rw[e]at a2;simpa using a2)⟩ hk'
  ·have hev:∀ (d:Nat) (x:AV) (s:Nat),j.2.dst=some d->(∀ t∈(Opd.t s).rd,t∈grd j)->isLdS j.2=true->(.t s:Opd)∈zi0 i.2->∀ σ',FarL l1 (zi0 i.2) (zbE φ d x) σ σ'->Fav σ σ' (ev φ (.t s)):=by
    intro d x s hd hsub hls hmem σ' hfar
    have hno:∀ k:Option Nat,zdi (grd j) k=false->zdi (Opd.t s).rd k=false:=by
     intro k hk
     cases k with
     |none=>rfl
     |some k =>
      cases e:zdi (Opd.t s).rd (some k) with
      |false=>rfl
      |true =>
       simp only[zdi]at e hk
       rw[zeO.2 (hsub k (zeO.1 e))]at hk
       cases hk
    have hev:ev (zbE φ d x) (.t s)=ev φ (.t s):=zbg fun t ht=>by
     have:=hno _ a6
     rw[hd]at this
     rw[zbV,if_neg (zd5 this t ht)]
    have:=hfar (.t s) hmem (fun k hk2=>hno _ ((hp.1 k hk2).2 hls))
    rw[hev]at this
    exact this
   rcases zqH a1 with ⟨d,m,s,hj,hmem⟩|⟨d,m,s,hj,hmem⟩
   ·obtain ⟨x,hk,hback⟩:=gopD_ld hj h
    have hd:j.2.dst=some d:=by rw[hj];rfl
    have hsub:∀ t∈(Opd.t s).rd,t∈grd j:=by
     intro t ht
     obtain ⟨gd,o⟩:=j
     simp only at hj
     subst hj
     cases gd<;>simp_all [grd,AOp.rd,AVal.rd]
    exact tail a0 d x hd a3 a4 a5 hk fun φ' σ' K' hr hle hfar hk'=>hback φ' σ' K' hr ((hev d x s hd hsub (by rw[hj];rfl) hmem σ' hfar).1 m) hk'
   ·obtain ⟨x,hk,hback⟩:=gopD_fad hj h
    have hd:j.2.dst=some d:=by rw[hj];rfl
    have hsub:∀ t∈(Opd.t s).rd,t∈grd j:=by
     intro t ht
     obtain ⟨gd,o⟩:=j
     simp only at hj
     subst hj
     cases gd<;>simp_all [grd,AOp.rd,AVal.rd]
    exact tail a0 d x hd a3 a4 a5 hk fun φ' σ' K' hr hle hfar hk'=>hback φ' σ' K' hr (hev d x s hd hsub (by rw[hj];rfl) hmem σ' hfar) hk'
theorem ziR {o:AOp} {K:AF->AS->Prop} (h:zbp P inv w0 M N o φ σ K):aop P inv w0 M N o φ σ K:=by
 cases o with
 |app d s x sz =>
  simp only[zbp,aop]at h |-
  exact zct (fun m l h=>zcY (fun r σ' h'=>h'.2) h) h
 |call d j args=>simp only[zbp]at h;simp only[aop];exact h.mono fun r σ' h'=>h'.2
 |calv d f args =>
  simp only[zbp]at h
  simp only[aop]
  split at h
  ·exact h.mono fun r σ' h'=>h'.2
  ·exact h.elim
 |_=>exact h
end
def gopW (P:Program) (inv:Nat->Option Nat) (w0:World) (M:Nat->Prop) (N:Nat) (g:GOp) (φ:AF) (σ:AS) (K:AF->AS->Prop):Prop :=
 match g with
 |(none,o)=>aop P inv w0 M N o φ σ K
 |(some (s,want),o)=>(∃ t,zbs φ s=.b t/\(t=want->aop P inv w0 M N o φ σ K)/\(¬t=want->K (zcS φ o.dst .u) σ))\/(zbs φ s=.u/\K (zcS φ o.dst .u) σ)
theorem zq5 {P:Program} {inv:Nat->Option Nat} {w0:World} {M:Nat->Prop} {N:Nat} {g:GOp} {φ:AF} {σ:AS} {K:AF->AS->Prop} (h:zhe P inv w0 M N g φ σ K):gopW P inv w0 M N g φ σ K:=by
 obtain ⟨gd,o⟩:=g
 cases gd with
 |none=>exact ziR h
 |some sw =>
  obtain ⟨s,want⟩:=sw
  rcases h with ⟨t,et,h1,h2⟩|h
  ·exact .inl ⟨t,et,fun e=>ziR (h1 e),h2⟩
  ·exact .inr h
section
variable {P:Program} {inv:Nat->Option Nat} {w0:World} {M:Nat->Prop} {n N:Nat} {φ:AF} {σ:AS} {β:Nat->Nat} {a:Act} {w:World}
theorem zdP (hE:zca P inv) (hM:∀ b,M b->b<w0.heap.size) {ops:Array Oper} {Q:Exit->Act->World->Prop} {K:AF->AS->Prop} {i:Nat} {o:Oper} {g:GOp} (ho:ops[i]?=some o)
  (hg:zfd n ops o.guard=some g.1) (hop:zbB P inv n o=some g.2) (h:gopW P inv w0 M N g φ σ K) (hs:St inv w0 M n φ σ β a w) {za5:Act->World->Prop}
  (hn:∀ φ' σ' β' a' w',K φ' σ'->St inv w0 M n φ' σ' β' a' w'->Ext N (ctx inv M σ β w) (ctx inv M σ' β' w')->za5 a' w'):wpOp P ops Q i za5 a w:=by
 obtain ⟨hd1,hd2⟩:=zd7 hop
 obtain ⟨g,op⟩:=g
 have go:Region.wanted o (yielded ops a.tmps)=true->aop P inv w0 M N op φ σ K->wpOp P ops Q i za5 a w:=by
  intro hw h
  unfold wpOp
  simp only[ho,hw,if_true]
  exact .inl (znI hE hM hs hop h hn)
 have skip:Region.wanted o (yielded ops a.tmps)=false->K (zcS φ op.dst .u) σ->wpOp P ops Q i za5 a w:=by
  intro hw h
  unfold wpOp
  simp only[ho,hw,Bool.false_eq_true,if_false]
  simp only at hd1
  rw[hd1]at h
  exact hn _ _ _ _ _ h (hs.skip hd2) (.refl _ _)
 cases hgd:o.guard with
 |none =>
  rw[hgd]at hg
  simp only[zfd,Option.some.injEq]at hg
  subst hg
  exact go (by simp[Region.wanted,hgd]) h
 |some jw =>
  obtain ⟨j,want⟩:=jw
  rw[hgd]at hg
  simp only[zfd]at hg
  split at hg
  ·rename_i s hj
   split at hg
   ·rename_i hlt
    simp only[Option.some.injEq]at hg
    subst hg
    have hy:=zjb (a:=a) hj (by rw[hs.size];exact hlt)
    have hsl:=hs.slots s
    rcases h with ⟨t,et,h1,h2⟩|⟨et,h⟩
    ·rw[et]at hsl
     simp only[rel]at hsl
     have hw:Region.wanted o (yielded ops a.tmps)=decide (t=want):=by
      simp only[Region.wanted,hgd,hy,hsl]
      cases t<;>cases want<;>rfl
     by_cases htw:t=want
     ·exact go (by rw[hw];simpa using htw) (h1 htw)
     ·exact skip (by rw[hw];simpa using htw) (h2 htw)
    ·rw[et]at hsl
     simp only[rel]at hsl
     refine skip ?_ h
     simp only[Region.wanted,hgd,hy,hsl]
     rfl
   ·cases hg
  ·cases hg
theorem St.gal (hs:St inv w0 M n φ σ β a w) {d l:Nat} (hd:d<n) (hg:zaF σ l=some .rsv) {cs:List AV} {xs:Array Value} {ty:TypeId} (hpos:0<cs.length) (hcb:zae cs=0) (hlen:cs.length=xs.size) (hrel:relCs (ctx inv M σ β w) cs xs.toList) :
  St inv w0 M n (zbE φ d (.ptr l cs.length 0)) (za8 σ l (.cells cs true)) (upd β l w.heap.size) (a.put (some d) (.pointer (some ⟨w.heap.size,0,none⟩))) (w.alloc (.cells xs ty)) /\
  Ext N (ctx inv M σ β w) (ctx inv M (za8 σ l (.cells cs true)) (upd β l w.heap.size) (w.alloc (.cells xs ty))):=by
 have hnew:(w.alloc (.cells xs ty)).heap[w.heap.size]?=some (.cells xs ty (0,0)):=heap_alloc_new w _
 have h:=hs.mem.put (l:=l) (b':=w.heap.size) (cs':=cs) (xs':=xs) (ty:=ty) (w':=w.alloc (.cells xs ty)) (N:=zaB N φ σ) (hs.mem.below.alloc hs.mem.below.size _) (by simp)
  (fun b hb _=>Below.heap_alloc _ _ _ hb) hnew (by omega) hs.mem.below.size (fun l' o' _ e hr=>by have:=(hs.mem.own l' o' e hr).2;omega) (.inl (Nat.le_refl _))
  (fun l' o' e _=>Nat.le_trans (zaG σ l' o' e).2 (zbG N φ σ).2.2) (by omega)
  (fun _ p' hp'=>by
   simp only[Option.some.injEq]at hp'
   subst hp'
   refine ⟨⟨0,0,0,false⟩,by unfold zan;rw[hg],Nat.zero_le _,fun e=>?_⟩
   simp only at e
   omega) (by rw[hlen,<-Array.length_toList,List.take_length];exact hrel)
 refine ⟨hs.put h.1 h.2 (zbG N φ σ).2.1 hd ?_,h.2.mono (zbG N φ σ).1⟩
 refine zdL (p:=⟨w.heap.size,cs.length,xs.size,true⟩) ?_ rfl
 unfold zan
 rw[zal,if_pos rfl]
 simp only[zba,zaY,hnew]
def Tr (g0 g:GOp):Prop:=g=g0\/(∃ gd d j l,g0=(gd,.call (some d) j l)/\g=(gd,.callp d j l))\/(∃ d z back,g0=(none,.alloc d z)/\g=(none,.gal d back z))\/(∃ gd d j l,g0=(gd,.call d j l)/\g=(gd,.calle d j l))\/(∃ gd d f l,g0=(gd,.calv d f l)/\g=(gd,.calve d f l))\/(∃ gd d u x sz,g0=(gd,.app d u x sz)/\g=(gd,.appe d u x sz))\/(∃ gd d u x sz,g0=(gd,.app d u x sz)/\g=(gd,.appA d u x sz []))
theorem zqU {o:Oper} {d:Nat} {z:List (Nat×AV)} (h:zbB P inv n o=some (.alloc d z)):∃ t,o.op=.alloc t/\zej P t=some z/\o.dst=some d/\d<n:=by
 have hd:=zd7 h
 unfold zbB at h
 split at h
 ·split at h
  ·split at h<;>simp at h
  ·cases h
 ·split at h
  ·rename_i op hop
   split at h
   ·simp only[Option.some.injEq]at h
    subst h
    have hds:o.dst=some d:=hd.1.symm
    refine (?_:∃ t,o.op=.alloc t/\zej P t=some z).elim fun t ht=>⟨t,ht.1,ht.2,hds,zrm hd.2 d hds⟩
    unfold zdd at hop
    split at hop
    ·rename_i t ho
     obtain ⟨z',h1,h2⟩:=Option.map_eq_some_iff.1 hop
     simp only[AOp.alloc.injEq]at h2
     exact ⟨t,ho,by rw[h1,h2.2]⟩
    all_goals (exfalso;revert hop;try unfold zru)
    all_goals (repeat' split)
    all_goals first|(intro hop;cases hop;done)|(intro hop;simp at hop;done)|(intro hop;obtain ⟨_,_,e⟩:=Option.map_eq_some_iff.1 hop;cases e)
   ·cases h
  ·split at h
   ·simp at h
   ·cases h
theorem ziF {o:Oper} {op:AOp} (h:zbB P inv n o=some op):plain op=op:=by
 cases op with
 |appA d s x sz pts =>
  exfalso
  unfold zbB at h
  split at h
  ·split at h
   ·split at h<;>simp at h
   ·cases h
  ·split at h
   ·rename_i op hop
    split at h
    ·simp only[Option.some.injEq]at h
     subst h
     unfold zdd at hop
     revert hop
     try unfold zru
     repeat' split
     all_goals first|(intro hop;cases hop;done)|(intro hop;simp at hop;done)|(intro hop;obtain ⟨_,_,e⟩:=Option.map_eq_some_iff.1 hop;cases e)
    ·cases h
   ·split at h
    ·simp at h
    ·cases h
 |storeA nn a x pts =>
  exfalso
  unfold zbB at h
  split at h
  ·split at h
   ·split at h<;>simp at h
   ·cases h
  ·split at h
   ·rename_i op hop
    split at h
    ·simp only[Option.some.injEq]at h
     subst h
     unfold zdd at hop
     revert hop
     try unfold zru
     repeat' split
     all_goals first|(intro hop;cases hop;done)|(intro hop;simp at hop;done)|(intro hop;obtain ⟨_,_,e⟩:=Option.map_eq_some_iff.1 hop;cases e)
    ·cases h
   ·split at h
    ·simp at h
    ·cases h
 |_=>rfl
theorem Tr.plain {g0 g:GOp} (h:Tr g0 g) (hp:Go.Eng.plain g0.2=g0.2):zch g=g:=by
 rcases h with rfl|⟨gd,d,j,l,rfl,rfl⟩|⟨d,z,back,rfl,rfl⟩|⟨gd,d,j,l,rfl,rfl⟩|⟨gd,d,f,l,rfl,rfl⟩|⟨gd,d,u,x,sz,rfl,rfl⟩|⟨gd,d,u,x,sz,rfl,rfl⟩
 ·obtain ⟨gd,o⟩:=g;simp only at hp;simp only[zch,hp]
 ·rfl
 ·rfl
 ·rfl
 ·rfl
 ·rfl
 ·rfl
theorem zo1 (hE:zca P inv) (hM:∀ b,M b->b<w0.heap.size) {ops:Array Oper} {Q:Exit->Act->World->Prop} {K:AF->AS->Prop} {i:Nat} {o:Oper} {g0 g:GOp} (ho:ops[i]?=some o)
  (hg:zfd n ops o.guard=some g0.1) (hop:zbB P inv n o=some g0.2) (htr:Tr g0 g) (h:zhe P inv w0 M N g φ σ K) (hs:St inv w0 M n φ σ β a w) {za5:Act->World->Prop}
  (hn:∀ φ' σ' β' a' w',K φ' σ'->St inv w0 M n φ' σ' β' a' w'->Ext N (ctx inv M σ β w) (ctx inv M σ' β' w')->za5 a' w'):wpOp P ops Q i za5 a w:=by
 rcases htr with rfl|⟨gd,d,j,l,rfl,rfl⟩|⟨d,z,back,rfl,rfl⟩|⟨gd,d,j,l,rfl,rfl⟩|⟨gd,d,f,l,rfl,rfl⟩|⟨gd,d,u,x,sz,rfl,rfl⟩|⟨gd,d,u,x,sz,rfl,rfl⟩
 ·exact zdP hE hM ho hg hop (zq5 h) hs hn
 ·refine zdP (K:=K) hE hM ho hg hop (zq5 ?_) hs hn
  have key:zbp P inv w0 M N (.callp d j l) φ σ K->zbp P inv w0 M N (.call (some d) j l) φ σ K:=by
   intro h
   simp only[zbp,aop]at h |-
   obtain ⟨r,h1,h2⟩:=h
   refine (h1 N φ σ (.refl σ)).mono fun r' σ'' ⟨e1,e2⟩=>?_
   subst e1 e2
   exact ⟨.refl _,h2⟩
  cases gd with
  |none=>exact key h
  |some sw =>
   obtain ⟨s,want⟩:=sw
   rcases h with ⟨t,et,h1,h2⟩|h
   ·exact .inl ⟨t,et,fun e=>key (h1 e),h2⟩
   ·exact .inr h
 ·obtain ⟨t,h1,h2,h3,h4⟩:=zqU hop
  have hgd:o.guard=none:=by
   cases e:o.guard with
   |none=>rfl
   |some jw =>
    rw[e]at hg
    simp only[zfd]at hg
    split at hg
    ·split at hg<;>simp at hg
    ·cases hg
  simp only[zhe,zbp,aop]at h
  split at h
  ·rename_i hsg
   obtain ⟨it,zv,hi,hz,hzr⟩:=zcy (c:=ctx inv M σ β w) h2
   have hlen:=zaM hzr
   have hgal:=hs.gal (N:=N) (ty:=t) h4 hsg h.1 (zcN h2) (by simpa using hlen) hzr
   have hx:(execOp a.eval o).run P w=.ok (.value (.pointer (some ⟨w.heap.size,0,none⟩))) (w.alloc (.cells zv.cells t)):=by
    simp only[execOp,h1,Sem.run_bind,zfa hi hz,Result.andThen_ok,Sem.run_pure]
   unfold wpOp
   simp only[ho,Region.wanted,hgd,if_true]
   refine .inl ?_
   unfold Oper.wp
   rw[hx]
   show za5 (a.put o.dst _) _
   rw[h3]
   exact hn _ _ _ _ _ h.2 hgal.1 hgal.2
  ·exact h.elim
 ·refine zdP (K:=K) hE hM ho hg hop ?_ hs hn
  cases gd with
  |none=>exact h
  |some sw =>
   obtain ⟨s,want⟩:=sw
   rcases h with ⟨t,et,h1,h2⟩|h
   ·exact .inl ⟨t,et,h1,h2⟩
   ·exact .inr h
 ·refine zdP (K:=K) hE hM ho hg hop ?_ hs hn
  cases gd with
  |none=>exact h
  |some sw =>
   obtain ⟨s,want⟩:=sw
   rcases h with ⟨t,et,h1,h2⟩|h
   ·exact .inl ⟨t,et,h1,h2⟩
   ·exact .inr h
 ·refine zdP (K:=K) hE hM ho hg hop ?_ hs hn
  cases gd with
  |none=>exact h
  |some sw =>
   obtain ⟨s,want⟩:=sw
   rcases h with ⟨t,et,h1,h2⟩|h
   ·exact .inl ⟨t,et,h1,h2⟩
   ·exact .inr h
 ·refine zdP (K:=K) hE hM ho hg hop ?_ hs hn
  have key:∀ {K:AF->AS->Prop},zbp P inv w0 M N (.appA d u x sz []) φ σ K->aop P inv w0 M N (.app d u x sz) φ σ K:=by
   intro K h
   simp only[zbp,aop]at h |-
   exact zct (fun m l h=>h.2) h
  cases gd with
  |none=>exact key h
  |some sw =>
   obtain ⟨s,want⟩:=sw
   rcases h with ⟨t,et,h1,h2⟩|h
   ·exact .inl ⟨t,et,fun e=>key (h1 e),h2⟩
   ·exact .inr h
theorem zcM {ops:Array Oper}:∀ {l:List Oper} {gs:List GOp},zbw P inv n ops l=some gs->gs.length=l.length/\∀ i o,l[i]?=some o->zfd n ops o.guard=some (gAt gs i).1/\zbB P inv n o=some (gAt gs i).2
 |[],gs,h=>by
  simp only[zbw,Option.some.injEq]at h
  subst h
  exact ⟨rfl,fun i o h=>by simp at h⟩
 |o::l,gs,h=>by
  simp only[zbw]at h
  split at h
  ·rename_i g op al hg hop hal
   simp only[Option.some.injEq]at h
   subst h
   obtain ⟨h1,h2⟩:=zcM hal
   refine ⟨by simp[h1],fun i o' ho=>?_⟩
   cases i with
   |zero=>simp only[List.getElem?_cons_zero,Option.some.injEq]at ho;subst ho;exact ⟨hg,hop⟩
   |succ i=>exact h2 i o' (by simpa using ho)
  ·cases h
theorem zg0 {gs:List GOp} {anc:List Nat}:∀ {l:List Nat},zkj gs anc l=true->l.Pairwise (fun j i=>zlo gs anc j i=true)
 |[],_=>.nil
 |j::r,h=>by
  simp only[zkj,Bool.and_eq_true,List.all_eq_true]at h
  exact .cons h.1 (zg0 h.2)
theorem zgY {prs:List (List Nat)}:∀ {l pre x:List Nat} {i:Nat} {y:List Nat},zh6 prs pre l=true->l=x++i::y->∀ p∈prs[i]?.getD [],p∈pre\/p∈x
 |l,pre,[],i,y,h,e,p,hp=>by
  subst e
  simp only[List.nil_append,zh6,Bool.and_eq_true,List.all_eq_true]at h
  exact .inl (zeO.1 (h.1 p hp))
 |l,pre,k::x,i,y,h,e,p,hp=>by
  subst e
  simp only[List.cons_append,zh6,Bool.and_eq_true]at h
  rcases zgY h.2 rfl p hp with h'|h'
  ·rcases List.mem_cons.1 h' with e|h''
   ·exact .inr (by simp[e])
   ·exact .inl h''
  ·exact .inr (by simp[h'])
theorem zmW {l:Array Bool} {i:Nat} (h:i<l.size):l.getD i true=l.getD i false:=by simp[h]
theorem zo5 (hE:zca P inv) (hM:∀ b,M b->b<w0.heap.size) {ops:Array Oper} {gs:List GOp} {prs:List (List Nat)} {anc ord:List Nat} {gs0:List GOp} (hc:zbw P inv n ops ops.toList=some gs0) (hlen1:gs.length=gs0.length) (htr:∀ i,i<gs.length->Tr (gAt gs0 i) (zch (gAt gs i))) (hprs:prs=ops.toList.map zfQ)
  (hok:zlQ gs prs anc ord gs.length=true) {Q:Exit->Act->World->Prop} {K:AF->AS->Prop} :
  ∀ (fuel:Nat) (listed:Array Bool) (φ:AF) (σ:AS) (β:Nat->Nat) (a:Act) (w:World),listed.size=ops.size ->
   (∀ k x,listed.getD k false=true->zgC anc k x=true->x<ops.size->listed.getD x false=true) ->
   (ord.filter fun i=>!listed.getD i false).length<=fuel->(∀ j∈ord.filter fun i=>!listed.getD i false,∀ d,(gAt gs j).2.dst=some d->(zbs φ d).bound<=N) ->
   zrF P inv w0 M N ((ord.filter fun i=>!listed.getD i false).map (gAt gs)) K φ σ->St inv w0 M n φ σ β a w ->
   (∀ φ' σ' β' a' w',K φ' σ'->St inv w0 M n φ' σ' β' a' w'->Ext N (ctx inv M σ β w) (ctx inv M σ' β' w')->Q .normal a' w')->wpAny P .any ops Q fuel listed a w:=by
 obtain ⟨hlen0,hget⟩:=zcM hc
 have hlen:gs.length=ops.size:=by rw[hlen1];simpa using hlen0
 have hget':∀ (i:Nat) (o:Oper),ops[i]?=some o->zfd n ops o.guard=some (gAt gs0 i).1/\zbB P inv n o=some (gAt gs0 i).2:=fun i o h=>hget i o (by rw[Array.getElem?_toList];exact h)
 unfold zlQ at hok
 simp only[Bool.and_eq_true]at hok
 obtain ⟨⟨⟨⟨k1,k2⟩,k3⟩,k4⟩,k5⟩:=hok
 have hpw:=zg0 k1
 have hin:∀ i∈ord,i<ops.size:=by
  intro i hi
  unfold znV at k5
  have:=List.all_eq_true.1 k5 i hi
  rw[Nat.blt_eq,hlen]at this
  exact this
 have hcov:∀ i,i<ops.size->i∈ord:=by
  intro i hi
  unfold zro at k3
  exact zeO.1 (List.all_eq_true.1 k3 i (by rw[List.mem_range,hlen];exact hi))
 have hprs':∀ (i:Nat) (o:Oper),ops[i]?=some o->prs[i]?.getD []=zfQ o:=by
  intro i o ho
  rw[hprs,List.getElem?_map,Array.getElem?_toList,ho]
  rfl
 have hpreds:∀ (o:Oper) (l:Array Bool),(∀ e∈o.after,Region.binds .any e=true->l.getD e.on false=true)↔∀ p∈zfQ o,l.getD p false=true:=by
  intro o l
  unfold zfQ
  constructor
  ·intro h p hp
   obtain ⟨e,he,rfl⟩:=List.mem_map.1 hp
   obtain ⟨h1,h2⟩:=List.mem_filter.1 he
   exact h e (by simpa using h1) h2
  ·intro h e he hb
   exact h e.on (List.mem_map.2 ⟨e,List.mem_filter.2 ⟨by simpa using he,hb⟩,rfl⟩)
 have hanc:∀ (i:Nat) (o:Oper) (x:Nat),ops[i]?=some o->x<ops.size->zgC anc i x=true->∃ p∈zfQ o,p=x\/zgC anc p x=true:=by
  intro i o x ho hx ha
  have hi:i<ops.size:=(Array.getElem?_eq_some_iff.1 ho).1
  unfold ancOk at k4
  have h1:=List.all_eq_true.1 (List.all_eq_true.1 k4 i (by rw[List.mem_range,hlen];exact hi)) x (by rw[List.mem_range,hlen];exact hx)
  rw[ha,hprs' i o ho]at h1
  simp only[Bool.not_true,Bool.false_or,List.any_eq_true,Bool.or_eq_true,Nat.beq_eq]at h1
  exact h1
 have hhead:∀ (listed:Array Bool) (i:Nat) (r:List Nat),listed.size=ops.size->(ord.filter fun i=>!listed.getD i false)=i::r->i∈Region.ready .any ops listed:=by
  intro listed i r hsz e
  obtain ⟨x,y,e1,e2,e3,_⟩:=List.filter_eq_cons_iff.1 e
  have hi:i<ops.size:=hin i (by rw[e1];simp)
  have e3':listed.getD i false=false:=by simpa using e3
  rw[mem_ready]
  refine ⟨by rw[zmW (by omega)];exact e3',ops[i],by simp[hi], ?_⟩
  rw[hpreds]
  intro p hp
  rw[<-hprs' i ops[i] (by simp[hi])]at hp
  rcases zgY k2 e1 p hp with h|h
  ·cases h
  ·have:=e2 p h
   simpa using this
 intro fuel
 induction fuel with
 |zero =>
  intro listed φ σ β a w hsz hcl hrem hb h hs hn
  have hnil:(ord.filter fun i=>!listed.getD i false)=[]:=List.eq_nil_of_length_eq_zero (by omega)
  rw[hnil]at h
  refine ⟨?_,hn _ _ _ _ _ h hs (.refl _ _)⟩
  refine List.eq_nil_iff_forall_not_mem.2 fun i hi=>?_
  obtain ⟨h0,o,ho,_⟩:=mem_ready.1 hi
  have hlt:i<ops.size:=(Array.getElem?_eq_some_iff.1 ho).1
  have:i∈ord.filter fun i=>!listed.getD i false:=List.mem_filter.2 ⟨hcov i hlt,by rw[<-zmW (by omega),h0];rfl⟩
  rw[hnil]at this
  cases this
 |succ fuel ih =>
  intro listed φ σ β a w hsz hcl hrem hb h hs hn
  refine ⟨fun hr=>?_,fun i hi=>?_⟩
  ·cases e:ord.filter fun i=>!listed.getD i false with
   |nil=>rw[e]at h;exact hn _ _ _ _ _ h hs (.refl _ _)
   |cons i r =>
    have:=hhead listed i r hsz e
    rw[hr]at this
    cases this
  ·obtain ⟨h0,o,ho,hpre⟩:=mem_ready.1 hi
   have hlt:i<ops.size:=(Array.getElem?_eq_some_iff.1 ho).1
   have hmem:i∈ord.filter fun i=>!listed.getD i false:=List.mem_filter.2 ⟨hcov i hlt,by rw[<-zmW (by omega),h0];rfl⟩
   obtain ⟨l1,l2,e⟩:=List.append_of_mem hmem
   have hpw2:(l1++i::l2).Pairwise (fun j i=>zlo gs anc j i=true):=by rw[<-e];exact hpw.filter _
   rw[List.pairwise_append]at hpw2
   obtain ⟨hp1,hp2,hp3⟩:=hpw2
   rw[List.pairwise_cons]at hp2
   have hpl:∀ p∈zfQ o,listed.getD p false=true:=(hpreds o listed).1 hpre
   have hanc':∀ x,x<ops.size->zgC anc i x=true->listed.getD x false=true:=by
    intro x hx ha
    obtain ⟨p,hp,h'|h'⟩:=hanc i o x ho hx ha
    ·rw[<-h'];exact hpl p hp
    ·exact hcl p x (hpl p hp) h' hx
   have hpk:∀ {j k:Nat},zlo gs anc j k=true->j≠k/\zhk (gAt gs j).2.dst (gAt gs k).2.dst=true/\(isLdS (gAt gs j).2=true->zdi (grd (gAt gs j)) (gAt gs k).2.dst=false)/\(zgC anc k j=true\/znf (gAt gs j) (gAt gs k)):=by
    intro j k hp
    unfold zlo at hp
    simp only[Bool.and_eq_true,Bool.or_eq_true,Bool.not_eq_true']at hp
    refine ⟨fun e=>by rw[e]at hp;simp at hp,hp.1.1.2,fun e=>by rcases hp.1.2 with h'|h'<;>first|(rw[e]at h';cases h';done)|exact h', ?_⟩
    rcases hp.2 with ((h'|h')|h')|h'
    ·exact .inr (.inr (.inr ⟨h'.1.1.1.1,h'.1.1.1.2,hp.1.1.2,h'.1.1.2,h'.1.2,h'.2⟩))
    ·exact .inl h'
    ·exact .inr (.inl ⟨h'.1,h'.2,hp.1.1.2⟩)
    ·exact .inr (.inr (.inl ⟨h'.1.1.1.1.1,h'.1.1.1.1.2,h'.1.1.1.2,fun e=>by rcases h'.1.1.2 with q|q<;>first|(rw[e]at q;cases q;done)|exact q,hp.1.1.2,h'.1.2,h'.2⟩))
   have hun:∀ j∈l1++i::l2,j<ops.size/\listed.getD j false=false:=by
    intro j hj
    rw[<-e]at hj
    obtain ⟨hj1,hj2⟩:=List.mem_filter.1 hj
    exact ⟨hin j hj1,by simpa using hj2⟩
   have hap:∀ j∈l1,znf (gAt gs j) (gAt gs i):=by
    intro j hj
    obtain ⟨_,_,_,h'|h'⟩:=hpk (hp3 j hj i (by simp))
    ·obtain ⟨h5,h6⟩:=hun j (by simp[hj])
     rw[hanc' j h5 h']at h6
     cases h6
    ·exact h'
   rw[e,List.map_append,List.map_cons]at h
   obtain ⟨N2,hN,hg⟩:=swapL h (fun j hj=>by obtain ⟨j',hj',rfl⟩:=List.mem_map.1 hj;exact hap j' hj')
    (List.pairwise_map.2 (hp1.imp fun hp=>⟨(hpk hp).2.1,(hpk hp).2.2.1⟩)) (fun j hj d hd=>by obtain ⟨j',hj',rfl⟩:=List.mem_map.1 hj;exact hb j' (by rw[e];simp[hj']) d hd)
   refine zo1 hE hM ho (hget' i o ho).1 (hget' i o ho).2 (htr i (by omega)) hg hs fun φ' σ' β' a' w' hk hst hext=>?_
   obtain ⟨⟨r,rfl,hk⟩,_⟩:=hk
   have hnew:(ord.filter fun k=>!(listed.setIfInBounds i true).getD k false)=l1++l2:=by
    have hfi:∀ l:List Nat,(∀ k∈l,k≠i)->l.filter (fun k=>decide (k≠i))=l:=fun l hl=>List.filter_eq_self.2 fun k hk=>by simpa using hl k hk
    have h1:(ord.filter fun k=>!(listed.setIfInBounds i true).getD k false)=(ord.filter fun k=>!listed.getD k false).filter (fun k=>decide (k≠i)):=by
     rw[List.filter_filter]
     refine List.filter_congr fun k hk=>?_
     by_cases hki:k=i
     ·subst hki
      have:k<(listed.setIfInBounds k true).size:=by simp;omega
      simp[show k<listed.size by omega]
     ·rw[getD_set_ne false (Ne.symm hki)]
      simp[hki]
    rw[h1,e,List.filter_append,List.filter_cons,hfi l1 (fun k hk=>(hpk (hp3 k hk i (by simp))).1),hfi l2 (fun k hk=>Ne.symm (hpk (hp2.1 k hk)).1)]
    simp
   refine ih (listed.setIfInBounds i true) _ σ' β' a' w' (by simp[hsz]) ?_ ?_ ?_ ?_ hst fun φ2 σ2 β2 a2 w2 q s2 e2=>hn _ _ _ _ _ q s2 ((hext.mono hN).trans e2)
   ·intro k x hk' ha hx
    by_cases hki:k=i
    ·subst hki
     exact getD_set_true (hanc' x hx ha)
    ·rw[getD_set_ne false (Ne.symm hki)]at hk'
     exact getD_set_true (hcl k x hk' ha hx)
   ·rw[hnew]
    rw[e]at hrem
    simp only[List.length_append,List.length_cons]at hrem |-
    omega
   ·rw[hnew]
    intro j hj d hd
    have hne:zhk (some d) (gAt gs i).2.dst=true\/zhk (gAt gs i).2.dst (some d)=true:=by
     rcases List.mem_append.1 hj with hj|hj
     ·have:=(hpk (hp3 j hj i (by simp))).2.1;rw[hd]at this;exact .inl this
     ·have:=(hpk (hp2.1 j hj)).2.1;rw[hd]at this;exact .inr this
    have hbj:=hb j (by rw[e];rcases List.mem_append.1 hj with hj|hj<;>simp[hj]) d hd
    cases hdi:(gAt gs i).2.dst with
    |none=>exact hbj
    |some di =>
     rw[hdi]at hne
     have hdd:d≠di:=by
      rcases hne with h'|h'
      ·exact zeY h'
      ·exact Ne.symm (zeY h')
     simp only[zcS]
     rw[zbV,if_neg hdd]
     exact hbj
   ·rw[hnew,List.map_append]
    exact hk
theorem inv_regd {c₀:Code} {k:Nat} {l:List GOp} (h:zap P inv n c₀=some (.regd k l)):∃ id ops,c₀=.region id ops true/\zgb P inv n ops=some (.regd k l):=by
 unfold zap at h
 split at h<;>first|(cases h;done)|exact ⟨_,_,rfl,h⟩|(obtain ⟨_,_,e⟩:=Option.map_eq_some_iff.1 h;cases e;done)|(split at h<;>simp at h)
theorem zhu (k:Nat):∀ (gs:List GOp) (c i:Nat),(zkf k c gs).length=gs.length/\(i<gs.length->Tr (gAt gs i) (gAt (zkf k c gs) i))
 |[],_,_=>⟨rfl,fun h=>absurd h (Nat.not_lt_zero _)⟩
 |(gd,o)::r,c,i=>by
  have ih:=fun c i=>zhu k r c i
  have hd:∃ c' g,zkf k c ((gd,o)::r)=g::zkf k c' r/\Tr (gd,o) g:=by
   cases gd with
   |none =>
    cases o with
    |alloc d z=>exact ⟨_,_,rfl,.inr (.inr (.inl ⟨d,z,_,rfl,rfl⟩))⟩
    |call d j l=>cases d with
     |some d=>exact ⟨_,_,rfl,.inr (.inl ⟨_,d,j,l,rfl,rfl⟩)⟩
     |none=>exact ⟨_,_,rfl,.inl rfl⟩
    |_=>exact ⟨_,_,rfl,.inl rfl⟩
   |some sw =>
    cases o with
    |call d j l=>cases d with
     |some d=>exact ⟨_,_,rfl,.inr (.inl ⟨_,d,j,l,rfl,rfl⟩)⟩
     |none=>exact ⟨_,_,rfl,.inl rfl⟩
    |_=>exact ⟨_,_,rfl,.inl rfl⟩
  obtain ⟨c',g,e,ht⟩:=hd
  rw[e]
  refine ⟨by simp[(ih c' 0).1],fun hi=>?_⟩
  cases i with
  |zero=>exact ht
  |succ i=>exact (ih c' i).2 (by simpa using hi)
theorem zka (N:Nat) {b:Nat} (hs:St inv w0 M n φ σ β a w) (_h1:N<=b) (h2:zaS φ<=b) (h3:zbe σ<=b):∀ k,St inv w0 M n φ (zcn b k σ) β a w/\Ext b (ctx inv M σ β w) (ctx inv M (zcn b k σ) β w):=by
 intro k
 have hget:∀ k l,zaF (zcn b k σ) l=zaF σ l\/(b<=l/\zaF (zcn b k σ) l=some .rsv):=by
  intro k
  induction k with
  |zero=>intro l;exact .inl rfl
  |succ k ih =>
   intro l
   simp only[zcn]
   rw[zal]
   split
   ·rename_i e;exact .inr ⟨by omega,rfl⟩
   ·exact ih l
 have hlow:∀ l,l<b->zaF (zcn b k σ) l=zaF σ l:=fun l hl=>by
  rcases hget k l with h|h
  ·exact h
  ·omega
 have hreal:∀ l o,zaF (zcn b k σ) l=some o->o≠.rsv->zaF σ l=some o:=by
  intro l o h hne
  rcases hget k l with h'|⟨_,h'⟩
  ·rw[<-h'];exact h
  ·rw[h']at h;simp only[Option.some.injEq]at h;exact absurd h.symm hne
 have hback:∀ l o,zaF σ l=some o->zaF (zcn b k σ) l=some o:=fun l o h=>by rw[hlow l (by have:=(zaG σ l o h).1;omega)];exact h
 have hav:∀ x,avoid M (zcn b k σ) β x↔avoid M σ β x:=by
  intro x
  constructor
  ·rintro (h|⟨l,o,e,hr,hb⟩)
   ·exact .inl h
   ·exact .inr ⟨l,o,hreal l o e (by rintro rfl;simp[AO.real]at hr),hr,hb⟩
  ·rintro (h|⟨l,o,e,hr,hb⟩)
   ·exact .inl h
   ·exact .inr ⟨l,o,hback l o e,hr,hb⟩
 have hext:Ext b (ctx inv M σ β w) (ctx inv M (zcn b k σ) β w):=by
  refine ⟨⟨rfl,Nat.le_refl _,fun _ _ _=>rfl,fun x _ h=>(hav x).1 h⟩,fun l hl p' hp'=>⟨p', ?_,Nat.le_refl _,fun _=>rfl⟩⟩
  show zan β w σ l=some p'
  have hp'':zan β w (zcn b k σ) l=some p':=hp'
  unfold zan at hp'' |-
  rw[hlow l hl]at hp''
  exact hp''
 refine ⟨⟨⟨fun i=>hext.rel (zaO _ (Nat.le_trans (zbQ φ i) h2)) (hs.slots i), ?_⟩,hs.size,hs.defers⟩,hext⟩
 have hm:=hs.mem
 refine ⟨hm.below,fun l l' o o' e e' hr hr'=>hm.inj l l' o o' (hreal _ _ e (by rintro rfl;simp[AO.real]at hr)) (hreal _ _ e' (by rintro rfl;simp[AO.real]at hr')) hr hr',fun l o e hr=>hm.own l o (hreal _ _ e (by rintro rfl;simp[AO.real]at hr)) hr,fun l cs e=>?_,
  fun l cs e=>hm.ghost l cs (hreal _ _ e (by simp)),fun l kvs e=>hm.maps l kvs (hreal _ _ e (by simp))⟩
 obtain ⟨xs,ty,q1,q2,q3⟩:=hm.cells l cs (hreal _ _ e (by simp))
 exact ⟨xs,ty,q1,q2,hext.relCs (zau cs (Nat.le_trans (zaG σ l _ (hreal _ _ e (by simp))).2 h3)) q3⟩
theorem AWp.regd (hE:zca P inv) (hM:∀ b,M b->b<w0.heap.size) {k:Nat} {l:List GOp} {Q:Exit->AF->AS->Prop} (h:zbu P inv w0 M (zaB N φ σ+k) l (Q .normal) φ (zcn (zaB N φ σ) k σ)):AWp P inv w0 M N n (.regd k l) Q φ σ:=by
 intro c₀ hc β a w hs
 obtain ⟨id,ops,rfl,hl⟩:=inv_regd hc
 have main:∀ (gs0 gs:List GOp),zbw P inv n ops ops.toList=some gs0->gs.length=gs0.length->(∀ i,i<gs.length->Tr (gAt gs0 i) (gAt gs i))->drawn (ops.toList.map zfQ) gs k=some (.regd k l) ->
   (Code.region id ops true).wp P (fun e a' w'=>∃ φ' σ' β',Q e φ' σ'/\St inv w0 M n φ' σ' β' a' w'/\Ext N (ctx inv M σ β w) (ctx inv M σ' β' w')) a w:=by
  intro gs0 gs hgs hl1 htr hdr
  have hplain:∀ i,i<gs.length->zch (gAt gs i)=gAt gs i:=fun i hi=>by
   obtain ⟨q1,q2⟩:=zcM hgs
   have hi':i<ops.toList.length:=by omega
   exact (htr i hi).plain (ziF (q2 i ops.toList[i] (by simp[hi'])).2)
  have hlen:gs.length=ops.size:=by rw[hl1];simpa using (zcM hgs).1
  have main2:∀ (gs':List GOp),gs'.length=gs.length->(∀ i,i<gs'.length->Tr (gAt gs0 i) (zch (gAt gs' i)))->zlQ gs' (ops.toList.map zfQ) (ancGo [] (ops.toList.map zfQ)) (zey gs (ops.toList.map zfQ) (List.range gs.length) gs.length 0) gs'.length=true ->
    l=(zey gs (ops.toList.map zfQ) (List.range gs.length) gs.length 0).map (gAt gs')->(Code.region id ops true).wp P (fun e a' w'=>∃ φ' σ' β',Q e φ' σ'/\St inv w0 M n φ' σ' β' a' w'/\Ext N (ctx inv M σ β w) (ctx inv M σ' β' w')) a w:=by
   intro gs' hlen' htr' hok el
   subst el
   obtain ⟨f1,f2,f3⟩:=zbG N φ σ
   have hdw:=fun N=>hs.mem.call (w':={ w with drawn:=w.drawn+1 }) ⟨rfl,rfl,rfl,Nat.le_refl _,fun _ _=>rfl⟩ N
   have hs1:St inv w0 M n φ σ β a { w with drawn:=w.drawn+1 }:=hs.keep (hdw (zaS φ)).1 (hdw (zaS φ)).2 (Nat.le_refl _)
   obtain ⟨hs',hr'⟩:=zka N hs1 f1 f2 f3 k
   have hext:=(hdw N).2.trans (hr'.mono f1)
   have hfalse:∀ i,(Array.replicate ops.size false).getD i false=false:=by
    intro i
    simp only[Array.getD_eq_getD_getElem?,Array.getElem?_replicate]
    split<;>rfl
   have hall:∀ l:List Nat,(l.filter fun i=>!(Array.replicate ops.size false).getD i false)=l:=fun l=>List.filter_eq_self.2 fun i _=>by rw[hfalse];rfl
   refine wp_region_any hE.1 ?_
   refine zo5 hE hM hgs (hlen'.trans hl1) htr' rfl hok (N:=zaB N φ σ+k) (K:=Q .normal) ops.size (Array.replicate ops.size false) φ _ β a _ (by simp) ?_ ?_ ?_ ?_ hs' ?_
   ·intro k x hk
    rw[hfalse]at hk
    cases hk
   ·rw[hall]
    have hnd:∀ (f:Nat) (bits:Nat),(zey gs (ops.toList.map zfQ) (List.range gs.length) f bits).length<=f:=by
     intro f
     induction f with
     |zero=>intro bits;simp[zey]
     |succ f ih =>
      intro bits
      simp only[zey]
      split
      ·simp only[List.length_cons];have:=ih (bits ||| 2 ^ ‹Nat›);omega
      ·split
       ·simp only[List.length_cons];have:=ih (bits ||| 2 ^ ‹Nat›);omega
       ·simp
    exact Nat.le_trans (hnd _ _) (by omega)
   ·intro j _ d _
    have:=zbQ φ d
    omega
   ·rw[hall]
    exact awpL_of h
   ·intro φ' σ' β' a' w' hk hst he
    exact ⟨φ',σ',β',hk,hst,hext.trans (he.mono (by omega))⟩
  have hget:∀ (f:Nat->GOp) (i:Nat),i<gs.length->gAt ((List.range gs.length).map f) i=f i:=by
   intro f i hi
   show ((List.map f (List.range gs.length))[i]?).getD _=_
   rw[List.getElem?_map,List.getElem?_range hi]
   rfl
  have hel:∀ anc ord,(zm0 gs anc ord).length=gs.length:=fun anc ord=>by simp[zm0]
  have hpl:∀ anc ord,(ziY (zm0 gs anc ord) anc ord).length=gs.length:=fun anc ord=>by simp[ziY,hel]
  have heff:∀ anc ord i,i<gs.length->Tr (gAt gs0 i) (zch (gAt (zm0 gs anc ord) i)):=by
   intro anc ord i hi
   have h1:=htr i hi
   have h2:=hplain i hi
   unfold zm0
   rw[hget _ i hi]
   unfold effOp
   split
   ·rename_i gd d j l _ e
    rw[e]at h1
    show Tr _ (gd,.calle d j l)
    rcases h1 with h1|⟨_,_,_,_,_,h1⟩|⟨_,_,_,_,h1⟩|⟨_,_,_,_,_,h1⟩|⟨_,_,_,_,_,h1⟩|⟨_,_,_,_,_,_,h1⟩|⟨_,_,_,_,_,_,h1⟩
    ·exact .inr (.inr (.inr (.inl ⟨gd,d,j,l,h1.symm,rfl⟩)))
    all_goals simp at h1
   ·rename_i gd d f l _ e
    rw[e]at h1
    show Tr _ (gd,.calve d f l)
    rcases h1 with h1|⟨_,_,_,_,_,h1⟩|⟨_,_,_,_,h1⟩|⟨_,_,_,_,_,h1⟩|⟨_,_,_,_,_,h1⟩|⟨_,_,_,_,_,_,h1⟩|⟨_,_,_,_,_,_,h1⟩
    ·exact .inr (.inr (.inr (.inr (.inl ⟨gd,d,f,l,h1.symm,rfl⟩))))
    all_goals simp at h1
   ·rename_i gd d u x sz _ e
    rw[e]at h1
    show Tr _ (gd,.appe d u x sz)
    rcases h1 with h1|⟨_,_,_,_,_,h1⟩|⟨_,_,_,_,h1⟩|⟨_,_,_,_,_,h1⟩|⟨_,_,_,_,_,h1⟩|⟨_,_,_,_,_,_,h1⟩|⟨_,_,_,_,_,_,h1⟩
    ·exact .inr (.inr (.inr (.inr (.inr (.inl ⟨gd,d,u,x,sz,h1.symm,rfl⟩)))))
    all_goals simp at h1
   ·rename_i gd d u x sz _ e
    rw[e]at h1
    show Tr _ (gd,.appA d (.t u) x sz [])
    rcases h1 with h1|⟨_,_,_,_,_,h1⟩|⟨_,_,_,_,h1⟩|⟨_,_,_,_,_,h1⟩|⟨_,_,_,_,_,h1⟩|⟨_,_,_,_,_,_,h1⟩|⟨_,_,_,_,_,_,h1⟩
    ·exact .inr (.inr (.inr (.inr (.inr (.inr ⟨gd,d,_,x,sz,h1.symm,rfl⟩)))))
    all_goals simp at h1
   ·rw[h2];exact h1
  unfold drawn at hdr
  simp only at hdr
  split at hdr
  ·rename_i hok
   simp only[Option.some.injEq,ACode.regd.injEq,true_and]at hdr
   refine main2 _ (hel _ _) (fun i hi=>?_) (by rw[hel];exact hok) hdr.symm
   rw[hel]at hi
   exact heff _ _ i hi
  ·split at hdr
   ·rename_i hok
    simp only[Option.some.injEq,ACode.regd.injEq,true_and]at hdr
    refine main2 _ (hpl _ _) (fun i hi=>?_) (by rw[hpl];exact hok) hdr.symm
    rw[hpl]at hi
    have he:∀ anc ord,zch (gAt (ziY (zm0 gs anc ord) anc ord) i)=zch (gAt (zm0 gs anc ord) i):=by
     intro anc ord
     have e1:gAt (ziY (zm0 gs anc ord) anc ord) i=addPt (zm0 gs anc ord) anc ord i:=by
      simp only[ziY,hel]
      exact hget _ i hi
     rw[e1]
     unfold addPt
     split
     ·rename_i e;rw[e];rfl
     ·rfl
    rw[he]
    exact heff _ _ i hi
   ·cases hdr
 unfold zgb at hl
 split at hl
 ·rename_i gs hgs
  split at hl
  ·rename_i c e
   simp only[Option.some.injEq]at hl
   subst hl
   obtain ⟨_,e'⟩:=zd6 e
   simp only[ACode.regd.injEq]at e'
   obtain ⟨rfl,_⟩:=e'
   exact main gs gs hgs rfl (fun _ _=>.inl rfl) e
  ·obtain ⟨_,e'⟩:=zd6 hl
   simp only[ACode.regd.injEq]at e'
   have hk:=e'.1
   exact main gs (zkf (zih gs) 0 gs) hgs (zhu _ gs 0 0).1 (fun i hi=>(zhu (zih gs) gs 0 i).2 (by rw[(zhu (zih gs) gs 0 0).1]at hi;exact hi)) (by rw[hk];rw[hk]at hl;exact hl)
 ·cases hl
end
def ziW:ACode->Nat->Option ACode
 |.seq a b,l=>match ziW a l with
  |some r=>some (.seq r b)
  |none=>ziW b l
 |.label l',l=>if l' == l then some .skip else none
 |_,_=>none
section
variable {P:Program} {inv:Nat->Option Nat} {w0:World} {M:Nat->Prop} {n N:Nat} {φ:AF} {σ:AS}
theorem zna (l:Nat):∀ {c:Code} {x:ACode},zap P inv n c=some x->(∃ r₀ r,findLabel c l=some r₀/\ziW x l=some r/\zap P inv n r₀=some r)\/(findLabel c l=none/\ziW x l=none):=by
 intro c
 induction c with
 |seq a b iha ihb =>
  intro x h
  simp only[zap]at h
  split at h
  ·rename_i x' y' hx hy
   simp only[Option.some.injEq]at h
   subst h
   rcases iha hx with ⟨r₀,r,h1,h2,h3⟩|⟨h1,h2⟩
   ·exact .inl ⟨.seq r₀ b,.seq r y',by simp[findLabel,h1],by simp[ziW,h2],by simp[zap,h3,hy]⟩
   ·rcases ihb hy with ⟨r₀,r,h3,h4,h5⟩|⟨h3,h4⟩
    ·exact .inl ⟨r₀,r,by simp[findLabel,h1,h3],by simp[ziW,h2,h4],h5⟩
    ·exact .inr ⟨by simp[findLabel,h1,h3],by simp[ziW,h2,h4]⟩
  ·cases h
 |label l' =>
  intro x h
  simp only[zap,Option.some.injEq]at h
  subst h
  simp only[findLabel,ziW]
  split
  ·exact .inl ⟨.skip,.skip,rfl,rfl,rfl⟩
  ·exact .inr ⟨rfl,rfl⟩
 |region id ops d =>
  intro x h
  refine .inr ⟨rfl, ?_⟩
  cases d with
  |false=>obtain ⟨_,_,e⟩:=Option.map_eq_some_iff.1 h;subst e;rfl
  |true=>obtain ⟨_,e⟩:=zaW h;subst e;rfl
 |cond c a b =>
  intro x h
  simp only[zap]at h
  split at h
  ·simp only[Option.some.injEq]at h;subst h;exact .inr ⟨rfl,rfl⟩
  ·cases h
 |block id c _=>intro x h;obtain ⟨_,_,e⟩:=Option.map_eq_some_iff.1 h;subst e;exact .inr ⟨rfl,rfl⟩
 |loop c _=>intro x h;obtain ⟨_,_,e⟩:=Option.map_eq_some_iff.1 h;subst e;exact .inr ⟨rfl,rfl⟩
 |scope c _=>intro x h;obtain ⟨_,_,e⟩:=Option.map_eq_some_iff.1 h;subst e;exact .inr ⟨rfl,rfl⟩
 |skip=>intro x h;simp only[zap,Option.some.injEq]at h;subst h;exact .inr ⟨rfl,rfl⟩
 |exit id=>intro x h;simp only[zap,Option.some.injEq]at h;subst h;exact .inr ⟨rfl,rfl⟩
 |ret=>intro x h;simp only[zap,Option.some.injEq]at h;subst h;exact .inr ⟨rfl,rfl⟩
 |goto l'=>intro x h;simp only[zap,Option.some.injEq]at h;subst h;exact .inr ⟨rfl,rfl⟩
 |_=>intro x h;simp[zap]at h
theorem zqR {c₀:Code} {x:ACode} (h:zap P inv n c₀=some (.scope x)):∃ x₀,c₀=.scope x₀/\zap P inv n x₀=some x:=by
 unfold zap at h
 split at h<;>first|(cases h;done)|(obtain ⟨_,e⟩:=zaW h;cases e;done)|(obtain ⟨l',h1,e⟩:=Option.map_eq_some_iff.1 h;cases e;exact ⟨_,rfl,h1⟩)|(obtain ⟨_,_,e⟩:=Option.map_eq_some_iff.1 h;cases e;done)|(split at h<;>simp at h)
theorem zqS {c₀:Code} {l:Nat} (h:zap P inv n c₀=some (.label l)):c₀=.label l:=by
 unfold zap at h
 split at h<;>first|(cases h;done)|(obtain ⟨_,e⟩:=zaW h;cases e;done)|(obtain ⟨_,_,e⟩:=Option.map_eq_some_iff.1 h;cases e;done)|(simp only[Option.some.injEq,ACode.label.injEq]at h;rw[h];done)|(split at h<;>simp at h)
theorem inv_goto {c₀:Code} {l:Nat} (h:zap P inv n c₀=some (.goto l)):c₀=.goto l:=by
 unfold zap at h
 split at h<;>first|(cases h;done)|(obtain ⟨_,e⟩:=zaW h;cases e;done)|(obtain ⟨_,_,e⟩:=Option.map_eq_some_iff.1 h;cases e;done)|(simp only[Option.some.injEq,ACode.goto.injEq]at h;rw[h];done)|(split at h<;>simp at h)
theorem AWp.label {l:Nat} {Q:Exit->AF->AS->Prop} (h:Q .normal φ σ):AWp P inv w0 M N n (.label l) Q φ σ:=by
 intro c₀ hc β a w hs
 rw[zqS hc]
 exact wp_label ⟨φ,σ,β,h,hs,.refl _ _⟩
theorem AWp.goto {l:Nat} {Q:Exit->AF->AS->Prop} (h:Q (.goto l) φ σ):AWp P inv w0 M N n (.goto l) Q φ σ:=by
 intro c₀ hc β a w hs
 rw[inv_goto hc]
 exact wp_goto ⟨φ,σ,β,h,hs,.refl _ _⟩
def zg8 (l:Nat) (J:AF->AS->Prop) (Q:Exit->AF->AS->Prop):Exit->AF->AS->Prop
 |.goto l',φ,σ=>l'=l/\J φ σ
 |e,φ,σ=>Q e φ σ
theorem AWp.scope {x r:ACode} {Q:Exit->AF->AS->Prop} (l:Nat) (hf:ziW x l=some r) (I:Nat->AF->AS->Prop)
  (first:AWp P inv w0 M N n x (zg8 l (fun φ' σ'=>∃ m φ2 σ2,I m φ2 σ2/\zhf φ2 φ'/\zfA σ2 σ') Q) φ σ)
  (pass:∀ m φ σ,I m φ σ->AWp P inv w0 M N n r (zg8 l (fun φ' σ'=>∃ m' φ2 σ2,m'<m/\I m' φ2 σ2/\zhf φ2 φ'/\zfA σ2 σ') Q) φ σ):AWp P inv w0 M N n (.scope x) Q φ σ:=by
 intro c₀ hc β a w hs
 obtain ⟨x₀,rfl,hx⟩:=zqR hc
 have hfl:∃ r₀,findLabel x₀ l=some r₀/\zap P inv n r₀=some r:=by
  rcases zna l hx with ⟨r₀,r',h1,h2,h3⟩|⟨_,h2⟩
  ·rw[hf]at h2;simp only[Option.some.injEq]at h2;subst h2;exact ⟨r₀,h1,h3⟩
  ·rw[hf]at h2;cases h2
 obtain ⟨r₀,hf0,hr0⟩:=hfl
 let J:Nat->Act->World->Prop:=fun m a' w'=>∃ φ' σ' β',I m φ' σ'/\St inv w0 M n φ' σ' β' a' w'/\Ext N (ctx inv M σ β w) (ctx inv M σ' β' w')
 refine wp_scope_jumps (l:=l) (rest:=r₀) (fun a w=>∃ m,J m a w) (fun a w=>leastOf fun m=>J m a w) hf0 ?_ ?_
 ·refine Code.wp_mono ?_ (first x₀ hx β a w hs)
  rintro e a' w' ⟨φ',σ',β',q,hst,hext⟩
  cases e with
  |goto l' =>
   obtain ⟨rfl,m,φ2,σ2,hI,h1,h2⟩:=q
   obtain ⟨hs2,he2⟩:=hst.sub h1 h2 N
   exact ⟨rfl,m,φ2,σ2,β',hI,hs2,hext.trans he2⟩
  |normal=>exact ⟨φ',σ',β',q,hst,hext⟩
  |exit id=>exact ⟨φ',σ',β',q,hst,hext⟩
  |ret=>exact ⟨φ',σ',β',q,hst,hext⟩
  |panic ch=>exact ⟨φ',σ',β',q,hst,hext⟩
  |outgrown=>exact ⟨φ',σ',β',q,hst,hext⟩
 ·intro a1 w1 hJ
  obtain ⟨φ1,σ1,β1,hI1,hs1,he1⟩:=(leastOf_spec hJ).1
  refine Code.wp_mono ?_ (pass _ φ1 σ1 hI1 r₀ hr0 β1 a1 w1 hs1)
  rintro e a' w' ⟨φ',σ',β',q,hst,hext⟩
  cases e with
  |goto l' =>
   obtain ⟨rfl,m',φ2,σ2,hlt,hI,h1,h2⟩:=q
   obtain ⟨hs2,he2⟩:=hst.sub h1 h2 N
   have hJ':J m' a' w':=⟨φ2,σ2,β',hI,hs2,he1.trans (hext.trans he2)⟩
   exact ⟨rfl,⟨m',hJ'⟩,Nat.lt_of_le_of_lt ((leastOf_spec ⟨m',hJ'⟩).2 m' hJ') hlt⟩
  |normal=>exact ⟨φ',σ',β',q,hst,he1.trans hext⟩
  |exit id=>exact ⟨φ',σ',β',q,hst,he1.trans hext⟩
  |ret=>exact ⟨φ',σ',β',q,hst,he1.trans hext⟩
  |panic ch=>exact ⟨φ',σ',β',q,hst,he1.trans hext⟩
  |outgrown=>exact ⟨φ',σ',β',q,hst,he1.trans hext⟩
end
inductive Sh where
 |i (k:IntKind)
 |b
 |s (sz:Nat) (e:Sh)
 |st (fs:List Sh)
 |ar (n:Nat) (e:Sh)
 deriving Inhabited
inductive D where
 |n (n:Int)
 |t (t:Bool)
 |l (l:List D)
 deriving Inhabited
mutual
def Sh.size:Sh->Nat
 |.i _=>1|.b=>1|.s _ _=>1
 |.st fs=>zda fs
 |.ar n e=>n*e.size
def zda:List Sh->Nat
 |[]=>0
 |x::r=>x.size+zda r
end
mutual
def Sh.av:Sh->D->List AV
 |.i k,.n n=>[.i k n]
 |.b,.t t=>[.b t]
 |.s sz e,.l l=>[.sl sz (l.map (Sh.av e))]
 |.st fs,.l l=>zc5 fs l
 |.ar _ e,.l l=>(l.map (Sh.av e)).flatten
 |_,_=>[]
def zc5:List Sh->List D->List AV
 |x::xs,d::ds=>Sh.av x d++zc5 xs ds
 |_,_=>[]
end
mutual
def Sh.ok:Sh->D->Prop
 |.i k,.n n=>(Lit.int k n).wf=true
 |.b,.t _=>True
 |.s _ e,.l l=>l.length<=maxLen/\∀ d∈l,Sh.ok e d
 |.st fs,.l l=>zdS fs l
 |.ar n e,.l l=>l.length=n/\∀ d∈l,Sh.ok e d
 |_,_=>False
def zdS:List Sh->List D->Prop
 |[],[]=>True
 |x::xs,d::ds=>Sh.ok x d/\zdS xs ds
 |_,_=>False
end
section
variable (P:Program)
mutual
def zpF:Nat->TypeId->Option Sh
 |0,_=>none
 |n+1,t =>
  match P.underlying t with
  |some (.int k)=>some (.i k)
  |some .bool=>some .b
  |some (.slice e)=>match zpF n e with
   |some s=>if P.cellsOf e=s.size/\0<s.size then some (.s s.size s) else none
   |none=>none
  |some (.struct fs)=>match shFs n 0 fs.toList with
   |some l=>if P.cellsOf t=zda l then some (.st l) else none
   |none=>none
  |some (.array m e)=>match zpF n e with
   |some s=>if P.cellsOf e=s.size/\P.cellsOf t=m*s.size then some (.ar m s) else none
   |none=>none
  |_=>none
def shFs:Nat->Nat->List Field->Option (List Sh)
 |0,_,_=>none
 |_+1,_,[]=>some []
 |n+1,off,f::fs=>match zpF n f.type,shFs n (off+P.cellsOf f.type) fs with
  |some s,some l=>if f.offset=off/\P.cellsOf f.type=s.size then some (s::l) else none
  |_,_=>none
end
end
mutual
theorem ziL:∀ (S:Sh) (d:D),S.ok d->(S.av d).length=S.size
 |.i k,d,h=>by cases d<;>simp only[Sh.ok]at h<;>simp[Sh.av,Sh.size]
 |.b,d,h=>by cases d<;>simp only[Sh.ok]at h<;>simp[Sh.av,Sh.size]
 |.s sz e,d,h=>by cases d<;>simp only[Sh.ok]at h<;>simp[Sh.av,Sh.size]
 |.st fs,d,h=>by
  cases d<;>simp only[Sh.ok]at h
  rename_i l
  simp only[Sh.av,Sh.size]
  exact zjI fs l h
 |.ar n e,d,h=>by
  cases d<;>simp only[Sh.ok]at h
  rename_i l
  simp only[Sh.av,Sh.size]
  obtain ⟨h1,h2⟩:=h
  subst h1
  induction l with
  |nil=>simp
  |cons x l ih =>
   simp only[List.map_cons,List.flatten_cons,List.length_append,List.length_cons]
   rw[ziL e x (h2 x (by simp)),ih fun d hd=>h2 d (by simp[hd]),Nat.add_mul]
   omega
theorem zjI:∀ (fs:List Sh) (l:List D),zdS fs l->(zc5 fs l).length=zda fs
 |[],l,h=>by cases l<;>simp only[zdS]at h<;>simp[zc5,zda]
 |s::ss,l,h=>by
  cases l<;>simp only[zdS]at h
  simp only[zc5,zda,List.length_append]
  rw[ziL s _ h.1,zjI ss _ h.2]
end
section
variable {H:Type} {enc:TypeId×Value->H} {P:Program} {w:World} {base:Nat} {spare:Nat->Bool} {held:Bool} {inv:Nat->Option Nat}
abbrev c0 (inv:Nat->Option Nat) (w:World):Ctx:=⟨inv,w,fun _=>False,fun _=>none⟩
theorem zmD {α β:Type} {f:α->Option β}:∀ {l:List α} {r:List β},l.mapM f=some r->r.length=l.length/\∀ (i:Nat) (x:α),l[i]?=some x->∃ y,r[i]?=some y/\f x=some y
 |[],r,h=>by simp at h;subst h;exact ⟨rfl,by simp⟩
 |a::l,r,h=>by
  simp only[List.mapM_cons,Option.pure_def,Option.bind_eq_bind,Option.bind_eq_some_iff,Option.some.injEq]at h
  obtain ⟨y,h1,ys,h2,rfl⟩:=h
  obtain ⟨h3,h4⟩:=zmD h2
  refine ⟨by simp[h3],fun i x hx=>?_⟩
  cases i with
  |zero=>simp at hx;subst hx;exact ⟨y,by simp,h1⟩
  |succ i=>simpa using h4 i x (by simpa using hx)
theorem zrE:∀ (S:Sh) (d:D),zag (S.av d)=true
 |S,d=>by
  have key:∀ (S:Sh),∀ d,zag (S.av d)=true:=by
   intro S
   refine Sh.rec (motive_1:=fun S=>∀ d,zag (S.av d)=true) (motive_2:=fun fs=>∀ l,zag (zc5 fs l)=true) ?_ ?_ ?_ ?_ ?_ ?_ ?_ S
   ·intro k d;cases d<;>simp[Sh.av,zag,AV.bare]
   ·intro d;cases d<;>simp[Sh.av,zag,AV.bare]
   ·intro sz e ih d;cases d<;>simp[Sh.av,zag,AV.bare]
   ·intro fs ih d;cases d<;>simp[Sh.av,zag];exact ih _
   ·intro n e ih d
    cases d<;>simp[Sh.av,zag]
    rename_i l
    induction l with
    |nil=>simp[zag]
    |cons x l ihl=>simp only[List.map_cons,List.flatten_cons,zdv,ih x,ihl,Bool.and_self]
   ·intro l;cases l<;>simp[zc5,zag]
   ·intro s ss ih ihl l
    cases l<;>simp[zc5,zag]
    rw[zdv,ih,ihl];rfl
  exact key S d
theorem zpZ {a:Addr} {sz len:Nat} {S:Sh} (hf:∀ i,i<len->∃ cs d,w.cells? base (a.add (i*sz)) sz=some cs/\S.ok d/\relCs (c0 inv w) (S.av d) cs) (hsz:S.size=sz) :
  ∃ ds:List D,ds.length=len/\(∀ d∈ds,S.ok d)/\∀ k,zaE (c0 inv w) sz (a.add (k*sz)) 0 ((ds.drop k).map S.av):=by
 have h1:∃ ds:List D,ds.length=len/\∀ i,i<len->∃ cs d,ds[i]?=some d/\w.cells? base (a.add (i*sz)) sz=some cs/\S.ok d/\relCs (c0 inv w) (S.av d) cs:=by
  induction len with
  |zero=>exact ⟨[],rfl,fun i hi=>absurd hi (Nat.not_lt_zero i)⟩
  |succ n ih =>
   obtain ⟨ds,hl,hd⟩:=ih fun i hi=>hf i (by omega)
   obtain ⟨cs,d,k1,k2,k3⟩:=hf n (by omega)
   refine ⟨ds++[d],by simp[hl],fun i hi=>?_⟩
   by_cases hin:i<n
   ·obtain ⟨cs',d',q0,q⟩:=hd i hin
    exact ⟨cs',d',by rw[List.getElem?_append_left (by omega)];exact q0,q⟩
   ·have:i=n:=by omega
    subst this
    exact ⟨cs,d,by rw[List.getElem?_append_right (by omega)];simp[hl],k1,k2,k3⟩
 obtain ⟨ds,hl,hd⟩:=h1
 refine ⟨ds,hl,fun d hm=>?_,fun k=>?_⟩
 ·obtain ⟨i,hi,e⟩:=List.mem_iff_getElem.1 hm
  obtain ⟨cs,d',q0,_,q2,_⟩:=hd i (by omega)
  rw[List.getElem?_eq_getElem hi,e]at q0
  simp only[Option.some.injEq]at q0
  subst q0
  exact q2
 ·have key:∀ (m k:Nat),ds.length-k=m->zaE (c0 inv w) sz a (k*sz) ((ds.drop k).map S.av):=by
   intro m
   induction m with
   |zero =>
    intro k hk
    rw[List.drop_eq_nil_of_le (by omega)]
    simp[zaE]
   |succ m ih =>
    intro k hk
    have hlt:k<ds.length:=by omega
    obtain ⟨cs,d',q0,q1,q2,q3⟩:=hd k (by omega)
    rw[List.drop_eq_getElem_cons hlt]
    rw[List.getElem?_eq_getElem hlt]at q0
    simp only[Option.some.injEq]at q0
    simp only[List.map_cons,zaE]
    rw[q0]
    have hlen:=ziL S d' q2
    obtain ⟨c1,c2,c3⟩:=World.cells?_some q1
    refine ⟨hlen.trans hsz, ?_, ?_⟩
    ·refine zfO (zrE S d') (zdM (S:=fun _=>none) _ _ (zrE S d') q3) fun j u hu=>?_
     have hj:j<cs.length:=(List.getElem?_eq_some_iff.1 hu).1
     have:=c3 j (by omega)
     rw[ziX]at this
     exact this.trans hu
    ·rw[show k*sz+sz=(k+1)*sz by rw[Nat.add_mul];omega]
     exact ih (k+1) (by omega)
  have:=key _ k rfl
  have h0:=zd1 (c:=c0 inv w) (sz:=sz) (ad:=a) (k:=0) (k*sz) (es:=(ds.drop k).map S.av) (by simpa using this)
  exact h0
theorem zjj {c:Ctx} {S:Sh}:∀ {ds:List D} {css:List (List Value)},ds.length=css.length->(∀ (i:Nat) d cs,ds[i]?=some d->css[i]?=some cs->relCs c (S.av d) cs)->relCs c (ds.map S.av).flatten css.flatten
 |[],[],_,_=>zbk
 |[],_::_,h,_=>by simp at h
 |_::_,[],h,_=>by simp at h
 |d::ds,cs::css,h,hr=>by
  simp only[List.map_cons,List.flatten_cons]
  exact zbx (hr 0 d cs rfl rfl) (zjj (by simpa using h) fun i d' cs' h1 h2=>hr (i+1) d' cs' h1 h2)
theorem chop {α:Type} (sz:Nat):∀ (n:Nat) (l:List α),l.length=n*sz->((List.range n).map fun i=>(l.drop (i*sz)).take sz).flatten=l
 |0,l,h=>by simp at h;simp[h]
 |n+1,l,h=>by
  have ih:=chop sz n (l.drop sz) (by rw[List.length_drop,h,Nat.add_mul];omega)
  rw[List.range_succ_eq_map,List.map_cons,List.flatten_cons,List.map_map]
  have e:((List.range n).map ((fun i=>(l.drop (i*sz)).take sz)∘Nat.succ)).flatten=l.drop sz:=by
   rw[<-ih]
   congr 1
   refine List.map_congr_left fun i _=>?_
   simp only[Function.comp,List.drop_drop]
   rw[show sz+i*sz=i.succ*sz by rw[Nat.succ_mul];omega]
  rw[e]
  simp
theorem zoL:∀ (n:Nat),(∀ (t:TypeId) (S:Sh),zpF P n t=some S->∀ (fuel:Nat) (cs:List Value) (x:DataW H×List MemPlace),DataW.trod enc P w base spare held fuel t cs=some x ->
  ∃ d,S.ok d/\relCs (c0 inv w) (S.av d) cs) /\
  (∀ (off:Nat) (fs:List Field) (l:List Sh),shFs P n off fs=some l->∀ (fuel:Nat) (cs:List Value) (xs:List (DataW H×List MemPlace)),cs.length=off+zda l ->
   (fs.mapM fun f=>DataW.trod enc P w base spare held fuel f.type ((cs.drop f.offset).take (P.cellsOf f.type)))=some xs->∃ ds,zdS l ds/\relCs (c0 inv w) (zc5 l ds) (cs.drop off)):=by
 intro n
 induction n with
 |zero=>exact ⟨fun t S hS=>by simp[zpF]at hS,fun off fs l h=>by simp[shFs]at h⟩
 |succ n ih =>
 refine ⟨fun t S hS fuel cs x hx=>?_,fun off fs l hl fuel cs xs hlen hx=>?_⟩
 ·cases fuel with
  |zero=>simp[DataW.trod]at hx
  |succ fuel =>
  unfold zpF at hS
  unfold DataW.trod at hx
  split at hS
  ·rename_i k e
   simp only[Option.some.injEq]at hS
   subst hS
   rw[e]at hx
   rcases cs with _|⟨v,_|⟨v',r⟩⟩
   ·simp at hx
   ·cases v<;>simp at hx
    rename_i k' q
    obtain ⟨⟨rfl,hw⟩,_⟩:=hx
    exact ⟨.n q,hw,zcC rfl (by simp only[rel]) zbk⟩
   ·simp at hx
  ·rename_i e
   simp only[Option.some.injEq]at hS
   subst hS
   rw[e]at hx
   rcases cs with _|⟨v,_|⟨v',r⟩⟩
   ·simp at hx
   ·cases v<;>simp at hx
    rename_i q
    exact ⟨.t q,trivial,zcC rfl (by simp only[rel]) zbk⟩
   ·simp at hx
  ·rename_i e0 e
   rw[e]at hx
   split at hS
   ·rename_i s hs
    split at hS
    ·rename_i hc
     obtain ⟨hc1,hc2⟩:=hc
     simp only[Option.some.injEq]at hS
     subst hS
     rcases cs with _|⟨v,_|⟨v',r⟩⟩
     ·simp at hx
     ·cases v<;>simp at hx
      rename_i ad len cap
      cases ad with
      |none =>
       cases len<;>cases cap<;>simp at hx
       exact ⟨.l [],⟨by simp[maxLen],by simp⟩,zcC rfl (by simp only[rel];exact ⟨none,0,rfl,Nat.le_refl _,fun h=>absurd rfl h⟩) zbk⟩
      |some a =>
       simp at hx
       obtain ⟨⟨b1,b2,b3⟩,hx⟩:=hx
       obtain ⟨el,q1,_⟩:=Option.bind_eq_some_iff.1 hx
       obtain ⟨h3,h4⟩:=zmD q1
       have hrows:∀ i,i<len->∃ cs d,w.cells? base (a.add (i*s.size)) s.size=some cs/\s.ok d/\relCs (c0 inv w) (s.av d) cs:=by
        intro i hi
        obtain ⟨y,_,hy⟩:=h4 i i (by simp[hi])
        rw[hc1]at hy
        obtain ⟨cs,k1,k2⟩:=Option.bind_eq_some_iff.1 hy
        obtain ⟨d,k3,k4⟩:=ih.1 e0 s hs fuel cs y k2
        exact ⟨cs,d,k1,k3,k4⟩
       obtain ⟨ds,r1,r2,r3⟩:=zpZ hrows rfl
       refine ⟨.l ds,⟨by omega,r2⟩,zcC rfl ?_ zbk⟩
       simp only[rel]
       refine ⟨some a,cap,by simp[r1],by simp[r1];omega,fun hne=>⟨a,rfl,fun h=>h, ?_,by have:=r3 0;simp only[Nat.zero_mul,List.drop_zero]at this;rwa [show a.add 0=a by simp[Addr.add]]at this⟩⟩
       have hpos:0<len:=by
        rcases Nat.eq_zero_or_pos len with h0|h0
        ·exact absurd (by simp[List.eq_nil_of_length_eq_zero (r1.trans h0)]) hne
        ·exact h0
       obtain ⟨cs,d,k1,_⟩:=hrows 0 hpos
       have:=World.cells?_block k1 hc2
       simpa [zeA] using this
     ·simp at hx
    ·cases hS
   ·cases hS
  ·rename_i fs e
   rw[e]at hx
   split at hS
   ·rename_i l hl
    split at hS
    ·rename_i hc
     simp only[Option.some.injEq]at hS
     subst hS
     simp only at hx
     split at hx
     ·rename_i hlen
      obtain ⟨xs,hxs,_⟩:=Option.map_eq_some_iff.1 hx
      obtain ⟨ds,k1,k2⟩:=ih.2 0 fs.toList l hl fuel cs xs (by rw[hlen,hc];omega) hxs
      exact ⟨.l ds,k1,by simp only[Sh.av];simpa using k2⟩
     ·cases hx
    ·cases hS
   ·cases hS
  ·rename_i m e0 e
   rw[e]at hx
   split at hS
   ·rename_i s hs
    split at hS
    ·rename_i hc
     obtain ⟨hc1,hc2⟩:=hc
     simp only[Option.some.injEq]at hS
     subst hS
     simp only at hx
     split at hx
     ·rename_i hlen
      obtain ⟨xs,hxs,_⟩:=Option.map_eq_some_iff.1 hx
      obtain ⟨h3,h4⟩:=zmD hxs
      have hel:∀ i,i<m->∃ d,s.ok d/\relCs (c0 inv w) (s.av d) ((cs.drop (i*s.size)).take s.size):=by
       intro i hi
       obtain ⟨y,_,hy⟩:=h4 i i (by simp[hi])
       rw[hc1]at hy
       exact ih.1 e0 s hs fuel _ y hy
      have hds:∃ ds:List D,ds.length=m/\∀ i,i<m->∃ d,ds[i]?=some d/\s.ok d/\relCs (c0 inv w) (s.av d) ((cs.drop (i*s.size)).take s.size):=by
       clear hc2 hx hxs h3 h4 hlen hc1 e
       induction m with
       |zero=>exact ⟨[],rfl,fun i hi=>absurd hi (Nat.not_lt_zero i)⟩
       |succ n ihm =>
        obtain ⟨ds,hl,hd⟩:=ihm fun i hi=>hel i (by omega)
        obtain ⟨d,k2,k3⟩:=hel n (by omega)
        refine ⟨ds++[d],by simp[hl],fun i hi=>?_⟩
        by_cases hin:i<n
        ·obtain ⟨d',q0,q⟩:=hd i hin
         exact ⟨d',by rw[List.getElem?_append_left (by omega)];exact q0,q⟩
        ·have:i=n:=by omega
         subst this
         exact ⟨d,by rw[List.getElem?_append_right (by omega)];simp[hl],k2,k3⟩
      obtain ⟨ds,r1,r2⟩:=hds
      refine ⟨.l ds,⟨r1,fun d hm=>?_⟩, ?_⟩
      ·obtain ⟨i,hi,e⟩:=List.mem_iff_getElem.1 hm
       obtain ⟨d',q0,q1,_⟩:=r2 i (by omega)
       rw[List.getElem?_eq_getElem hi,e]at q0
       simp only[Option.some.injEq]at q0
       subst q0
       exact q1
      ·have hf:=zjj (c:=c0 inv w) (S:=s) (ds:=ds) (css:=(List.range m).map fun i=>(cs.drop (i*s.size)).take s.size) (by simp[r1]) fun i d cs' h1 h2=>by
        have hi:i<m:=by have:=(List.getElem?_eq_some_iff.1 h1).1;omega
        obtain ⟨d',q0,_,q2⟩:=r2 i hi
        rw[h1]at q0
        simp only[Option.some.injEq]at q0
        subst q0
        simp[hi]at h2
        subst h2
        exact q2
       rw[chop s.size m cs (by rw[hlen,hc2])]at hf
       exact hf
     ·cases hx
    ·cases hS
   ·cases hS
  ·cases hS
 ·cases fs with
  |nil =>
   simp only[shFs,Option.some.injEq]at hl
   subst hl
   exact ⟨[],trivial,by rw[List.drop_eq_nil_of_le (by simp[zda]at hlen;omega)];exact zbk⟩
  |cons f fs =>
   simp only[shFs]at hl
   split at hl
   ·rename_i s l' hs hl'
    split at hl
    ·rename_i hc
     obtain ⟨hc1,hc2⟩:=hc
     simp only[Option.some.injEq]at hl
     subst hl
     simp only[List.mapM_cons,Option.pure_def,Option.bind_eq_bind,Option.bind_eq_some_iff,Option.some.injEq]at hx
     obtain ⟨y,h1,ys,h2,_⟩:=hx
     simp only[zda]at hlen
     obtain ⟨d,k1,k2⟩:=ih.1 f.type s hs fuel _ y h1
     obtain ⟨ds,k3,k4⟩:=ih.2 (off+P.cellsOf f.type) fs l' hl' fuel cs ys (by rw[hc2];omega) h2
     refine ⟨d::ds,⟨k1,k3⟩, ?_⟩
     have:=zbx k2 k4
     simp only[zc5]
     rw[hc1,<-List.drop_drop,List.take_append_drop]at this
     exact this
    ·cases hl
   ·cases hl
end
open Go.RowKit Go.ChangeShapes Go.WideShapes
def Sh.arg:Sh->D->AV
 |.i k,.n n=>.i k n
 |.b,.t t=>.b t
 |.s sz e,.l l=>.sl sz (l.map (Sh.av e))
 |.st fs,.l l=>.agg (zc5 fs l)
 |.ar _ e,.l l=>.agg (l.map (Sh.av e)).flatten
 |_,_=>.top
def znc:List Sh->List D->List AV
 |x::xs,d::ds=>Sh.arg x d::znc xs ds
 |_,_=>[]
section
variable {H:Type} {enc:TypeId×Value->H} {P:Program} {w W W':World} {inv:Nat->Option Nat}
theorem zgv {c:Ctx} {x:AV} {y:Value} (h:relCs c [x] [y]):rel c x y:=by
 simp only[relCs]at h
 obtain ⟨u,us,e,_,h,e'⟩:=h
 simp only[List.cons.injEq]at e
 rw[e.1];exact h
theorem open_arg {n:Nat} {t:TypeId} {S:Sh} (hS:zpF P n t=some S) {r:Reach} {b0 base:Nat} {sp:Nat->Bool} {held:Bool} {v:Value} {d:DataW H} {ps:List MemPlace} (hval:Value.okWide P w r b0 t v) (hd:DataW.Trod enc P w base sp held t v d ps) :
  ∃ d',S.ok d'/\rel (c0 inv w) (S.arg d') v:=by
 obtain ⟨fuel,hf⟩:=hd
 obtain ⟨d',h1,h2⟩:=(zoL (inv:=inv) n).1 t S hS fuel _ _ hf
 refine ⟨d',h1, ?_⟩
 cases n with
 |zero=>simp[zpF]at hS
 |succ n =>
 unfold zpF at hS
 split at hS
 ·rename_i k e
  simp only[Option.some.injEq]at hS
  subst hS
  obtain ⟨q,rfl⟩:=okWide_int e hval
  cases d'<;>simp only[Sh.ok]at h1
  exact zgv h2
 ·rename_i e
  simp only[Option.some.injEq]at hS
  subst hS
  obtain ⟨q,rfl⟩:=okWide_bool e hval
  cases d'<;>simp only[Sh.ok]at h1
  exact zgv h2
 ·rename_i e0 e
  split at hS
  ·split at hS
   ·simp only[Option.some.injEq]at hS
    subst hS
    obtain ⟨a,len,cap,rfl⟩:=okWide_slice e hval
    cases d'<;>simp only[Sh.ok]at h1
    exact zgv h2
   ·cases hS
  ·cases hS
 ·rename_i fs e
  split at hS
  ·split at hS
   ·simp only[Option.some.injEq]at hS
    subst hS
    obtain ⟨cs,rfl,_⟩:=okWide_struct e hval
    cases d'<;>simp only[Sh.ok]at h1
    simp only[Sh.arg,rel]
    exact ⟨cs,rfl,h2⟩
   ·cases hS
  ·cases hS
 ·rename_i m e0 e
  split at hS
  ·split at hS
   ·simp only[Option.some.injEq]at hS
    subst hS
    have hv:=hval
    unfold Value.okWide at hv
    rw[e]at hv
    obtain ⟨cs,rfl,_⟩:=hv
    cases d'<;>simp only[Sh.ok]at h1
    simp only[Sh.arg,rel]
    exact ⟨cs,rfl,h2⟩
   ·cases hS
  ·cases hS
 ·cases hS
theorem zlp {n:Nat} {r:Reach} {b0 base:Nat} {sp:Nat->Bool} {held:Bool}:∀ {ts:List TypeId} {Ss:List Sh} {vs:List Value} {ds:List (DataW H)} {ps:List MemPlace},ts.map (zpF P n)=Ss.map some ->
  (∀ (j:Nat) t v,ts[j]?=some t->vs[j]?=some v->Value.okWide P w r b0 t v)->DataW.TrodAll enc P w base sp held ts vs ds ps->∃ ds',zdS Ss ds'/\zbZ (c0 inv w) (znc Ss ds') vs/\ds.length=Ss.length
 |[],[],vs,ds,ps,_,_,h=>by
  cases vs<;>cases ds<;>simp only[DataW.TrodAll]at h
  exact ⟨[],trivial,znB,rfl⟩
 |t::ts,S::Ss,vs,ds,ps,hS,hval,h=>by
  cases vs with
  |nil=>simp only[DataW.TrodAll]at h
  |cons v vs =>
  cases ds with
  |nil=>simp only[DataW.TrodAll]at h
  |cons d ds =>
  simp only[DataW.TrodAll]at h
  obtain ⟨p,q,h1,h2,_⟩:=h
  simp only[List.map_cons,List.cons.injEq]at hS
  obtain ⟨d',k1,k2⟩:=open_arg (inv:=inv) hS.1 (hval 0 t v rfl rfl) h1
  obtain ⟨ds',k3,k4,k5⟩:=zlp hS.2 (fun j t v h1 h2=>hval (j+1) t v h1 h2) h2
  exact ⟨d'::ds',⟨k1,k3⟩,zfP k2 k4,by simp[k5]⟩
 |[],_::_,_,_,_,h,_,_=>by simp at h
 |_::_,[],_,_,_,h,_,_=>by simp at h
theorem zjL (hl:laidOutB P=true) (hb:Below W.heap.size W W'):∀ {ts:List TypeId} {vs:List Value} {ds:List (DataW H)} {ps:List MemPlace},(∀ t∈ts,P.readableRec t=true/\t<P.types.size) ->
  DataW.TrodAll enc P W 0 (fun _=>true) true ts vs ds ps->(∀ x∈ps,x.block<W.heap.size)->DataW.TrodAll enc P W' 0 (fun b=>decide (b<W.heap.size)) true ts vs ds ps
 |[],vs,ds,ps,_,h,_=>by cases vs<;>cases ds<;>simp only[DataW.TrodAll]at h |-;exact h
 |t::ts,vs,ds,ps,ht,h,hlt=>by
  cases vs with
  |nil=>simp only[DataW.TrodAll]at h
  |cons v vs =>
  cases ds with
  |nil=>simp only[DataW.TrodAll]at h
  |cons d ds =>
  simp only[DataW.TrodAll]at h |-
  obtain ⟨p,q,h1,h2,rfl⟩:=h
  exact ⟨p,q,Below.trod hl (ht t (by simp)).1 (ht t (by simp)).2 h1 hb (fun x hx=>hlt x (by simp[hx])),zjL hl hb (fun t h=>ht t (by simp[h])) h2 (fun x hx=>hlt x (by simp[hx])),rfl⟩
theorem law_of_pc {fn:Func} {s:ChangeSpec} {apart zaB:Bool} {g j n:Nat} {tb:TypeId} {Ss:List Sh} (hg:inv g=some j) (hl:laidOutB P=true) (hts:fn.params.toList.map (zpF P n)=Ss.map some)
  (hread:fn.params.toList.all (fun t=>P.readableRec t&&decide (t<P.types.size))=true) (hres:fn.resultTypes=#[tb]) (hb:P.underlying tb=some .bool) (hvars:s.vars=[])
  (hs:∀ l:List (DataW H),l.length=Ss.length->s.fn H l={ results:=[.lit (.bool true)],args:=l })
  (pc:∀ ds,zdS Ss ds->PC P inv j (znc Ss ds) (fun r=>r=.b true)) :
  ∀ (W:World) (base:Nat) (args:Array Value) (ds gs:List (DataW H)) (before:List MemPlace),
   (∀ (j:Nat) t v,fn.params[j]?=some t->args[j]?=some v->Value.okWide P W .any base t v)->DataW.Whole enc P fn.params.toList s.vars apart W args.toList ds gs before ->
   Calls P g args W fun e W'=>∃ v,e=.returned v/\s.post enc P fn apart zaB false false W args v W':=by
 intro W base args ds gs before hval hW
 have hW':=hW
 obtain ⟨p,q,hA,hV,rfl,hfz,hnd⟩:=hW
 rw[hvars]at hV
 obtain ⟨rfl,rfl⟩:=trodVars_none hV
 obtain ⟨ds',k1,k2,k3⟩:=zlp (inv:=inv) hts (fun j t v h1 h2=>hval j t v (by simpa using h1) (by simpa using h2)) hA
 refine (pc ds' k1 g hg (fun _=>False) W args (fun _ h=>h.elim) k2).mono ?_
 rintro e W' ⟨v,r,rfl,rfl,hbel,_,hrel⟩
 simp only[rel]at hrel
 subst hrel
 have hfn:=hs (ds++[]) (by simpa using k3)
 refine ⟨_,rfl,ds,[],p++[],[],p,[],hW', ?_, ?_, ?_,hbel.frame _,fun h=>by cases h⟩
 ·rw[hfn,hres]
  exact trodAll_mk1 (shut_bool hb true)
 ·rw[hfn]
  have:=zjL hl hbel (fun t ht=>by
   have:=List.all_eq_true.1 hread t ht
   simp only[Bool.and_eq_true,decide_eq_true_eq]at this
   exact this) hA (fun x hx=>hW'.lt x (by simp[hx]))
  simpa using this
 ·rw[hfn,hvars]
  simp[DataW.TrodVars]
end
end Go.Eng
