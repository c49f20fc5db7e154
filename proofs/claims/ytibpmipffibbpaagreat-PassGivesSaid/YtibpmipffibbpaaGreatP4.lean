/-
  A part of the engine that walks the functions' codes, and of the functions' contracts. Conditions: those that each theorem names.
-/
import Derived.Test.YtibpmipffibbpaaGreatP3
import Derived.Below
import Derived.Calls
import Derived.ChangeKeysEq
import Derived.DataReads
import Derived.Deep.LoopGhost
import Derived.Laws.AppendOwn
import Derived.Laws.Cells
import Derived.Laws.CopyRow
import Derived.Laws.Entries
import Derived.Laws.MakeOwn
import Derived.Laws.Rows
import Derived.Laws.StructEq
import Derived.Laws.Tables
import Derived.Lib.AppendZerosOnto
import Derived.MapKept
import Derived.Orders
import Derived.ProofKit
import Derived.ScopeJumps
import Derived.Tactics2
import Derived.WalkSpells
set_option linter.unusedSimpArgs false
set_option linter.unusedVariables false
set_option linter.unusedSectionVars false
namespace Go.Eng
open Go.RowKit
theorem zjr {a b:Nat} (hne:a≠b) (x y:AO):∀ σ:AS,zaU (zaU σ a x) b y=zaU (zaU σ b y) a x
 |[]=>by
  simp only[zaU]
  rcases Nat.lt_or_gt_of_ne hne with h|h
  ·rw[if_neg (Ne.symm hne),if_neg (by omega),if_neg hne,if_pos h]
  ·rw[if_neg (Ne.symm hne),if_pos h,if_neg hne,if_neg (by omega)]
 |(j,z)::r=>by
  have ih:=zjr hne x y r
  simp only[zaU]
  rcases Nat.lt_trichotomy a j with ha|ha|ha<;>rcases Nat.lt_trichotomy b j with hb|hb|hb
  all_goals (try subst ha)<;>(try subst hb)
  all_goals first|(exact absurd rfl hne)|skip
  all_goals (repeat' split)<;>simp only[zaU]<;>(repeat' split)<;>first|rfl|omega|(exfalso;contradiction)|(exact absurd trivial (by assumption))|(simp only[ih];done)|skip
theorem zht (d:Nat) (x:AV):∀ φ:AF,zaI φ≤mx (za7 φ d).bound (zaI (zbe φ d x))
 |[]=>by simp[zaI]
 |(j,y)::r=>by
  simp only[za7,zbe]
  by_cases h:d=j
  ·rw[if_pos h,if_pos h]
   simp only[zaI]
   exact zoe (zaR _ _) (Nat.le_trans (zau x.bound (zaI r)) (zau _ _))
  ·rw[if_neg h,if_neg h]
   split
   ·simp only[zaI]
    exact Nat.le_trans (zau x.bound _) (zau _ _)
   ·simp only[zaI]
    have ih:=zht d x r
    refine zoe (Nat.le_trans (zaR _ _) (zau _ _)) (Nat.le_trans ih (zoe (zaR _ _) (Nat.le_trans (zau _ _) (zau _ _))))
section
variable {P:Program} {inv:Nat→Option Nat} {w0:World} {M:Nat→Prop} {n N:Nat} {φ φ1:AF} {σ:AS}
theorem zhm {g:GOp} {K1 K2:AF→AS→Prop} (hk:∀ φ σ,K1 φ σ→K2 φ σ) (h:zf7 P inv w0 M N g φ σ K1):zf7 P inv w0 M N g φ σ K2:=by
 obtain ⟨gd,o⟩:=g
 cases gd with
 |none=>exact zhG hk h
 |some sw =>
  rcases h with ⟨t,e,h1,h2⟩|⟨e,h⟩
  ·exact .inl ⟨t,e,fun k=>zhG hk (h1 k),fun k=>hk _ _ (h2 k)⟩
  ·exact .inr ⟨e,hk _ _ h⟩
theorem gopD_val {g:GOp} {K:AF→AS→Prop} (hv:zmV g.2=true) (h:zf7 P inv w0 M N g φ σ K) :
  ∃ d x,g.2.dst=some d∧K (zbe φ d x) σ∧∀ (φ':AF) (σ':AS) (K':AF→AS→Prop),(∀ t∈grd g,za7 φ' t=za7 φ t)→SLx (isLdO g.2) σ σ'→K' (zbe φ' d x) σ'→zf7 P inv w0 M N g φ' σ' K':=by
 obtain ⟨gd,o⟩:=g
 have key:za6 P inv w0 M N o φ σ K→∃ d x,o.dst=some d∧K (zbe φ d x) σ∧∀ (φ':AF) (σ':AS) (K':AF→AS→Prop),(∀ t∈o.rd,za7 φ' t=za7 φ t)→SLx (isLdO o) σ σ'→K' (zbe φ' d x) σ'→za6 P inv w0 M N o φ' σ' K':=by
  clear h
  intro h
  cases o with
  |set d e =>
   simp only[za6,aop]at h
   obtain ⟨x,k1,k2⟩:=zjc e _ h
   refine ⟨d,x,rfl,k1,fun φ' σ' K' hr hs hk=>?_⟩
   simp only[za6,aop]
   rw[zpg hr]
   exact k2 σ' hs _ hk
  |callp d j args =>
   simp only[za6,aop]at h
   obtain ⟨x,k1,k2⟩:=h
   refine ⟨d,x,rfl,k2,fun φ' σ' K' hr hs hk=>?_⟩
   simp only[za6,aop]
   simp only[AOp.rd]at hr
   rw[zc8 hr]
   refine ⟨x,fun N' φ2 σ2 h2=>k1 N' φ2 σ2 fun l o e hne=>?_,hk⟩
   exact h2 l o ((hs.2 rfl) l o e hne) hne
  |_=>simp[zmV]at hv
 have hdst:∃ d,o.dst=some d:=by cases o<;>simp only[zmV,Bool.false_eq_true]at hv<;>exact ⟨_,rfl⟩
 cases gd with
 |none=>exact key h
 |some sw =>
  obtain ⟨s,want⟩:=sw
  obtain ⟨d,hd⟩:=hdst
  rcases h with ⟨t,et,h1,h2⟩|⟨et,h⟩
  ·by_cases htw:t=want
   ·obtain ⟨d',x,k0,k1,k2⟩:=key (h1 htw)
    refine ⟨d',x,k0,k1,fun φ' σ' K' hr hs hk=>.inl ⟨t, ?_,fun _=>k2 φ' σ' K' (fun t ht=>hr t ?_) hs hk,fun e=>absurd htw e⟩⟩
    ·rw[hr s (by simp[grd])];exact et
    ·simp only[grd,List.mem_cons];exact .inr ht
   ·have h3:=h2 htw
    rw[hd]at h3
    refine ⟨d,.u,hd,h3,fun φ' σ' K' hr hs hk=>.inl ⟨t, ?_,fun e=>absurd e htw,fun _=>by rw[hd];exact hk⟩⟩
    rw[hr s (by simp[grd])];exact et
  ·rw[hd]at h
   refine ⟨d,.u,hd,h,fun φ' σ' K' hr hs hk=>.inr ⟨?_,by rw[hd];exact hk⟩⟩
   rw[hr s (by simp[grd])];exact et
theorem zoK {g:GOp} {K:AF→AS→Prop} (hp:plain g.2=g.2) (he:zjZ g.2=false) (h:zf7 P inv w0 M N g φ1 σ K) (hr:∀ t∈grd g,za7 φ t=za7 φ1 t) (hb:zaI φ≤mx N (zaI φ1)) :
  ∃ N2,N≤N2∧zf7 P inv w0 M N2 g φ σ (Sw g.2 φ φ1 σ K):=by
 obtain ⟨gd,o⟩:=g
 cases gd with
 |none=>exact zpi hp he h hr hb
 |some sw =>
  obtain ⟨s,want⟩:=sw
  have hrs:za7 φ s=za7 φ1 s:=hr s (by simp[grd])
  have hro:∀ t∈o.rd,za7 φ t=za7 φ1 t:=fun t ht=>hr t (by simp only[grd,List.mem_cons];exact .inr ht)
  rcases h with ⟨t,et,h1,h2⟩|⟨et,h⟩
  ·by_cases htw:t=want
   ·obtain ⟨N2,hN,h3⟩:=zpi hp he (h1 htw) hro hb
    exact ⟨N2,hN,.inl ⟨t,hrs.trans et,fun _=>h3,fun e=>absurd htw e⟩⟩
   ·exact ⟨N,Nat.le_refl _,.inl ⟨t,hrs.trans et,fun e=>absurd e htw,fun _=>⟨.inr (.refl _ σ),.u,rfl,h2 htw⟩⟩⟩
  ·exact ⟨N,Nat.le_refl _,.inr ⟨hrs.trans et,.inr (.refl _ σ),.u,rfl,h⟩⟩
def Fav (σ σ':AS) (v:AV):Prop:=(∀ m y,zcY σ m v=some y→zcY σ' m v=some y)∧∀ l ver off,v=.ptr l ver off→zbC σ l ver→zbC σ' l ver
theorem Fav.refl (σ:AS) (v:AV):Fav σ σ v:=⟨fun _ _ h=>h,fun _ _ _ _ h=>h⟩
theorem Fav.of_sle {σ σ':AS} (h:SLe σ σ') (v:AV):Fav σ σ' v:=⟨fun _ _ e=>zio h e,fun _ _ _ _ e=>zjX h e⟩
def Far (pts:List Opd) (φ:AF) (σ σ':AS):Prop:=∀ p∈pts,Fav σ σ' (ev φ p)
theorem zpj {l:Nat} {o:AO} {v y:AV} {m:Option Nat} (h:zgd l v=true) (hl:zcY σ m v=some y):zcY (zaU σ l o) m v=some y:=by
 cases v<;>simp only[zcY]at hl ⊢<;>try exact hl
 have h':∀ {a:Nat},a.beq l=false→a≠l:=fun e e'=>by subst e';simp at e
 simp only[zgd,Bool.not_eq_true']at h
 rw[zag,if_neg (h' h)]
 exact hl
theorem zoU {l:Nat} {o:AO} {v:AV} (h:zgd l v=true):Fav σ (zaU σ l o) v:=by
 refine ⟨fun m y hl=>zpj h hl,fun l' ver off e hl=>?_⟩
 subst e
 simp only[zgd,Bool.not_eq_true']at h
 unfold zbC at hl ⊢
 rw[zag,if_neg (fun e=>by subst e;simp at h)]
 exact hl
theorem far_app {N:Nat} {φ0:AF} {d sz m:Nat} {dest:AV} {new:List AV} {pts:List Opd} {K:AF→AS→Prop} (hf:zpf φ dest pts=true) (h:zno φ0 σ (zay N φ0 σ) d sz dest m new K):zno φ0 σ (zay N φ0 σ) d sz dest m new (fun φ' σ'=>K φ' σ'∧Far pts φ σ σ'):=by
 unfold zno at h ⊢
 split at h
 ·exact ⟨h.1,h.2,fun p _=>.of_sle (zkx N φ0 σ _) _⟩
 ·refine ⟨h.1,h.2.1,h.2.2.1,h.2.2.2.1, ?_⟩
  have h2:=h.2.2.2.2
  split at h2
  ·exact ⟨h2.1,h2.2,fun p hp=>zoU (List.all_eq_true.1 hf p hp)⟩
  ·exact h2.elim
 ·exact h.elim
theorem zoL {i:GOp} {K:AF→AS→Prop} (h:zf7 P inv w0 M N i φ σ K) :
  ∃ N2,N≤N2∧zf7 P inv w0 M N2 (zbJ i) φ σ (fun φ' σ'=>(∃ r,φ'=zcd φ i.2.dst r∧K φ' σ')∧Far (zhP i.2) φ σ σ'):=by
 obtain ⟨gd,o⟩:=i
 cases heff:zjZ o with
 |true =>
  refine ⟨N,Nat.le_refl _, ?_⟩
  have he:zbJ (gd,o)=(gd,o):=by cases o<;>first|rfl|cases heff
  rw[he]
  have key:za6 P inv w0 M N o φ σ K→za6 P inv w0 M N o φ σ (fun φ' σ'=>(∃ r,φ'=zcd φ o.dst r∧K φ' σ')∧Far (zhP o) φ σ σ'):=by
   intro h
   cases o<;>first|(cases heff;done)|skip
   ·simp only[za6,aop]at h ⊢
    exact h.mono fun r σ' h'=>⟨⟨r,rfl,h'⟩,fun p hp=>by cases hp⟩
   ·simp only[za6,aop]at h ⊢
    split at h
    ·exact h.mono fun r σ' h'=>⟨⟨r,rfl,h'⟩,fun p hp=>by cases hp⟩
    ·exact h.elim
   ·simp only[za6,aop]at h ⊢
    exact zbT (fun m l h=>zci (fun r σ' h'=>⟨⟨r,rfl,h'⟩,fun p hp=>by cases hp⟩) h) h
  have hpt:zhP o=[]:=by cases o<;>first|rfl|cases heff
  cases gd with
  |none=>exact key h
  |some sw =>
   obtain ⟨s,want⟩:=sw
   rcases h with ⟨t,et,h1,h2⟩|⟨et,h⟩
   ·exact .inl ⟨t,et,fun e=>key (h1 e),fun e=>⟨⟨.u,rfl,h2 e⟩,fun p hp=>by simp only[hpt]at hp;cases hp⟩⟩
   ·exact .inr ⟨et,⟨.u,rfl,h⟩,fun p hp=>by simp only[hpt]at hp;cases hp⟩
 |false =>
 by_cases hp:plain o=o
 ·obtain ⟨N2,hN,h2⟩:=zoK (g:=(gd,o)) (φ:=φ) hp heff h (fun _ _=>rfl) (zau _ _)
  refine ⟨N2,hN, ?_⟩
  have he:zbJ (gd,o)=(gd,o):=by unfold zbJ;simp only[hp]
  rw[he]
  refine zhm (fun φ' σ' hk=>?_) h2
  obtain ⟨_,r,rfl,hk⟩:=hk
  refine ⟨⟨r,rfl,hk⟩, ?_⟩
  cases o<;>first|(intro p hp';cases hp';done)|(simp[plain]at hp;done)|(simp[plain]at hp;subst hp;intro p hp';cases hp';done)
 ·cases o<;>first|(exact absurd rfl hp)|skip
  case appA dd s x sz pts =>
   refine ⟨N,Nat.le_refl _, ?_⟩
   have key:za6 P inv w0 M N (.appA dd s x sz pts) φ σ K→za6 P inv w0 M N (.appA dd s x sz []) φ σ (fun φ' σ'=>(∃ r,φ'=zcd φ (AOp.appA dd s x sz pts).dst r∧K φ' σ')∧Far pts φ σ σ'):=by
    intro h
    simp only[za6,aop]at h ⊢
    exact zbT (fun m l hk=>⟨by cases ev φ s<;>rfl,zci (fun r σ' h'=>⟨⟨r,rfl,h'.1⟩,h'.2⟩) (far_app hk.1 hk.2)⟩) h
   cases gd with
   |none=>exact key h
   |some sw =>
    obtain ⟨s,want⟩:=sw
    rcases h with ⟨t,et,h1,h2⟩|⟨et,h⟩
    ·exact .inl ⟨t,et,fun e=>key (h1 e),fun e=>⟨⟨.u,rfl,h2 e⟩,fun _ _=>.refl _ _⟩⟩
    ·exact .inr ⟨et,⟨.u,rfl,h⟩,fun _ _=>.refl _ _⟩
  rename_i nn a x pts
  refine ⟨N,Nat.le_refl _, ?_⟩
  have key:za6 P inv w0 M N (.storeA nn a x pts) φ σ K→za6 P inv w0 M N (.store nn a x) φ σ (fun φ' σ'=>(∃ r,φ'=zcd φ (AOp.storeA nn a x pts).dst r∧K φ' σ')∧Far pts φ σ σ'):=by
   intro h
   simp only[za6,aop]at h ⊢
   split at h
   ·rename_i l ver off e
    have hf:=h.1
    have h:=h.2
    split at h
    ·exact ⟨h.1,h.2.1,h.2.2.1,h.2.2.2.1,⟨.u,rfl,h.2.2.2.2⟩,fun p hp=>zoU (List.all_eq_true.1 hf p hp)⟩
    ·exact h.elim
   ·exact h.elim
  cases gd with
  |none=>exact key h
  |some sw =>
   obtain ⟨s,want⟩:=sw
   rcases h with ⟨t,et,h1,h2⟩|⟨et,h⟩
   ·exact .inl ⟨t,et,fun e=>key (h1 e),fun e=>⟨⟨.u,rfl,h2 e⟩,fun _ _=>.refl _ _⟩⟩
   ·exact .inr ⟨et,⟨.u,rfl,h⟩,fun _ _=>.refl _ _⟩
theorem gopD_ld {g:GOp} {d:Nat} {m:Option Nat} {p:Opd} {K:AF→AS→Prop} (hg:g.2=.set d (.load m p)) (h:zf7 P inv w0 M N g φ σ K) :
  ∃ x,K (zbe φ d x) σ∧∀ (φ':AF) (σ':AS) (K':AF→AS→Prop),(∀ t∈grd g,za7 φ' t=za7 φ t)→(∀ v,zcY σ m (ev φ p)=some v→zcY σ' m (ev φ p)=some v)→K' (zbe φ' d x) σ'→zf7 P inv w0 M N g φ' σ' K':=by
 obtain ⟨gd,o⟩:=g
 simp only at hg
 subst hg
 have key:za6 P inv w0 M N (.set d (.load m p)) φ σ K→∃ x,K (zbe φ d x) σ∧∀ (φ':AF) (σ':AS) (K':AF→AS→Prop),(∀ t∈p.rd,za7 φ' t=za7 φ t)→(∀ v,zcY σ m (ev φ p)=some v→zcY σ' m (ev φ p)=some v)→K' (zbe φ' d x) σ'→za6 P inv w0 M N (.set d (.load m p)) φ' σ' K':=by
  clear h
  intro h
  simp only[za6,aop,zdw]at h
  obtain ⟨v,e,hk⟩:=zaT h
  refine ⟨v,hk,fun φ' σ' K' hr hs hk'=>?_⟩
  simp only[za6,aop,zdw]
  rw[zaY hr,hs v e]
  exact hk'
 cases gd with
 |none=>exact key h
 |some sw =>
  obtain ⟨s,want⟩:=sw
  rcases h with ⟨t,et,h1,h2⟩|⟨et,h⟩
  ·by_cases htw:t=want
   ·obtain ⟨x,k1,k2⟩:=key (h1 htw)
    refine ⟨x,k1,fun φ' σ' K' hr hs hk=>.inl ⟨t, ?_,fun _=>k2 φ' σ' K' (fun t ht=>hr t ?_) hs hk,fun e=>absurd htw e⟩⟩
    ·rw[hr s (by simp[grd])];exact et
    ·simp only[grd,List.mem_cons];exact .inr ht
   ·refine ⟨.u,h2 htw,fun φ' σ' K' hr hs hk=>.inl ⟨t, ?_,fun e=>absurd e htw,fun _=>hk⟩⟩
    rw[hr s (by simp[grd])];exact et
  ·refine ⟨.u,h,fun φ' σ' K' hr hs hk=>.inr ⟨?_,hk⟩⟩
   rw[hr s (by simp[grd])];exact et
theorem gopD_fad {g:GOp} {d:Nat} {m:Nat} {p:Opd} {K:AF→AS→Prop} (hg:g.2=.set d (.fadr p m)) (h:zf7 P inv w0 M N g φ σ K) :
  ∃ x,K (zbe φ d x) σ∧∀ (φ':AF) (σ':AS) (K':AF→AS→Prop),(∀ t∈grd g,za7 φ' t=za7 φ t)→Fav σ σ' (ev φ p)→K' (zbe φ' d x) σ'→zf7 P inv w0 M N g φ' σ' K':=by
 obtain ⟨gd,o⟩:=g
 simp only at hg
 subst hg
 have key:za6 P inv w0 M N (.set d (.fadr p m)) φ σ K→∃ x,K (zbe φ d x) σ∧∀ (φ':AF) (σ':AS) (K':AF→AS→Prop),(∀ t∈p.rd,za7 φ' t=za7 φ t)→Fav σ σ' (ev φ p)→K' (zbe φ' d x) σ'→za6 P inv w0 M N (.set d (.fadr p m)) φ' σ' K':=by
  clear h
  intro h
  simp only[za6,aop,zdw]at h
  split at h
  ·rename_i l ver off e
   refine ⟨_,h.2,fun φ' σ' K' hr hs hk'=>?_⟩
   simp only[za6,aop,zdw]
   rw[zaY hr,e]
   exact ⟨hs.2 l ver off e h.1,hk'⟩
  ·rename_i e
   refine ⟨_,h,fun φ' σ' K' hr hs hk'=>?_⟩
   simp only[za6,aop,zdw]
   rw[zaY hr,e]
   exact hk'
  ·exact h.elim
 cases gd with
 |none=>exact key h
 |some sw =>
  obtain ⟨s,want⟩:=sw
  rcases h with ⟨t,et,h1,h2⟩|⟨et,h⟩
  ·by_cases htw:t=want
   ·obtain ⟨x,k1,k2⟩:=key (h1 htw)
    refine ⟨x,k1,fun φ' σ' K' hr hs hk=>.inl ⟨t, ?_,fun _=>k2 φ' σ' K' (fun t ht=>hr t ?_) hs hk,fun e=>absurd htw e⟩⟩
    ·rw[hr s (by simp[grd])];exact et
    ·simp only[grd,List.mem_cons];exact .inr ht
   ·refine ⟨.u,h2 htw,fun φ' σ' K' hr hs hk=>.inl ⟨t, ?_,fun e=>absurd e htw,fun _=>hk⟩⟩
    rw[hr s (by simp[grd])];exact et
  ·refine ⟨.u,h,fun φ' σ' K' hr hs hk=>.inr ⟨?_,hk⟩⟩
   rw[hr s (by simp[grd])];exact et
theorem gopD_mov {g:GOp} {d:Nat} {p:Opd} {K:AF→AS→Prop} (hg:g.2=.set d (.mov p)) (h:zf7 P inv w0 M N g φ σ K) :
  ∃ x,K (zbe φ d x) σ∧∀ (φ':AF) (σ':AS) (K':AF→AS→Prop),(∀ t∈grd g,za7 φ' t=za7 φ t)→K' (zbe φ' d x) σ'→zf7 P inv w0 M N g φ' σ' K':=by
 obtain ⟨gd,o⟩:=g
 simp only at hg
 subst hg
 have key:za6 P inv w0 M N (.set d (.mov p)) φ σ K→∃ x,K (zbe φ d x) σ∧∀ (φ':AF) (σ':AS) (K':AF→AS→Prop),(∀ t∈p.rd,za7 φ' t=za7 φ t)→K' (zbe φ' d x) σ'→za6 P inv w0 M N (.set d (.mov p)) φ' σ' K':=by
  clear h
  intro h
  simp only[za6,aop,zdw]at h
  refine ⟨_,h,fun φ' σ' K' hr hk'=>?_⟩
  simp only[za6,aop,zdw]
  rw[zaY hr]
  exact hk'
 cases gd with
 |none=>exact key h
 |some sw =>
  obtain ⟨s,want⟩:=sw
  rcases h with ⟨t,et,h1,h2⟩|⟨et,h⟩
  ·by_cases htw:t=want
   ·obtain ⟨x,k1,k2⟩:=key (h1 htw)
    refine ⟨x,k1,fun φ' σ' K' hr hk=>.inl ⟨t, ?_,fun _=>k2 φ' σ' K' (fun t ht=>hr t ?_) hk,fun e=>absurd htw e⟩⟩
    ·rw[hr s (by simp[grd])];exact et
    ·simp only[grd,List.mem_cons];exact .inr ht
   ·refine ⟨.u,h2 htw,fun φ' σ' K' hr hk=>.inl ⟨t, ?_,fun e=>absurd e htw,fun _=>hk⟩⟩
    rw[hr s (by simp[grd])];exact et
  ·refine ⟨.u,h,fun φ' σ' K' hr hk=>.inr ⟨?_,hk⟩⟩
   rw[hr s (by simp[grd])];exact et
def zlE (j i:GOp):Prop:=(zmW j=true∧zmW i=true∧zgc j.2.dst i.2.dst=true)∨(zmV j.2=true∧zjZ i.2=false∧(zdN i.2&&isLdO j.2)=false∧(zlc i.2=true→isFree j.2=true)∧zgc j.2.dst i.2.dst=true∧zcF (grd i) j.2.dst=false∧zcF (grd j) i.2.dst=false) ∨
 ldPt j.2 (zhP i.2)=true∧zjZ i.2=false∧zgc j.2.dst i.2.dst=true∧zcF (grd i) j.2.dst=false∧zcF (grd j) i.2.dst=false∧zcF (grd j) j.2.dst=false
theorem zol {o:AOp} {pts:List Opd} (h:ldPt o pts=true):(∃ d m s,o=.set d (.load m (.t s))∧(.t s:Opd)∈pts)∨∃ d m s,o=.set d (.fadr (.t s) m)∧(.t s:Opd)∈pts:=by
 unfold ldPt at h
 split at h
 ·obtain ⟨q,hq,h⟩:=List.any_eq_true.1 h
  split at h
  ·simp only[Nat.beq_eq]at h;subst h;exact .inl ⟨_,_,_,rfl,hq⟩
  ·cases h
 ·obtain ⟨q,hq,h⟩:=List.any_eq_true.1 h
  split at h
  ·simp only[Nat.beq_eq]at h;subst h;exact .inr ⟨_,_,_,rfl,hq⟩
  ·cases h
 ·cases h
theorem zkY (o:AOp):plain (plain o)=plain o:=by cases o<;>rfl
theorem zi2 (o:AOp):zdN (plain o)=zdN o:=by cases o<;>rfl
theorem zlb (o:AOp):zlc (plain o)=zlc o:=by cases o<;>rfl
theorem zoY (o:AOp):(plain o).dst=o.dst:=by cases o<;>rfl
theorem rd_plain (o:AOp):(plain o).rd=o.rd:=by cases o<;>rfl
theorem zoI (g:GOp):grd (zbJ g)=grd g:=by obtain ⟨gd,o⟩:=g;cases gd<;>simp only[grd,zbJ,rd_plain]
theorem zd7 {a b:Nat} (h:zgc (some a) (some b)=true):a≠b:=by
 intro e
 subst e
 simp[zgc]at h
theorem putO_get {d:Option Nat} {l:List Nat} (h:zcF l d=false) (φ:AF) (r:AV):∀ t∈l,za7 (zcd φ d r) t=za7 φ t:=by
 intro t ht
 cases d with
 |none=>rfl
 |some d =>
  simp only[zcd]
  rw[zbt,if_neg (zdp h t ht)]
theorem znY {d:Nat} {d':Option Nat} (h:zgc (some d) d'=true) (φ:AF) (x r:AV):zcd (zbe φ d x) d' r=zbe (zcd φ d' r) d x:=by
 cases d' with
 |none=>rfl
 |some d'=>simp only[zcd];exact zho (zd7 h) x r φ
def FarL (l:List GOp) (pts:List Opd) (φ:AF) (σ σ':AS):Prop:=∀ p∈pts,(∀ k∈l,zcF p.rd k.2.dst=false)→Fav σ σ' (ev φ p)
theorem swapL {i:GOp} {l2:List GOp} {K:AF→AS→Prop}:∀ {l1:List GOp} {φ:AF} {σ:AS},zpe P inv w0 M N (l1++i::l2) K φ σ→(∀ j∈l1,zlE j i)→l1.Pairwise (fun j k=>zgc j.2.dst k.2.dst=true∧(isLdS j.2=true→zcF (grd j) k.2.dst=false)) →
  (∀ j∈l1,∀ d,j.2.dst=some d→(za7 φ d).bound≤N)→∃ N2,N≤N2∧zf7 P inv w0 M N2 (zbJ i) φ σ (fun φ' σ'=>(∃ r,φ'=zcd φ i.2.dst r∧zpe P inv w0 M N (l1++l2) K φ' σ')∧FarL l1 (zhP i.2) φ σ σ')
 |[],φ,σ,h,_,_,_=>by
  obtain ⟨N2,hN,h2⟩:=zoL (φ:=φ) h
  exact ⟨N2,hN,zhm (fun φ' σ' hk=>⟨hk.1,fun p hp _=>hk.2 p hp⟩) h2⟩
 |j::l1,φ,σ,h,ha,hp,hb=>by
  rw[List.pairwise_cons]at hp
  have tail:zjZ i.2=false→∀ d x,j.2.dst=some d→zgc j.2.dst i.2.dst=true→zcF (grd i) j.2.dst=false→zcF (grd j) i.2.dst=false→zpe P inv w0 M N (l1++i::l2) K (zbe φ d x) σ →
    (∀ (φ':AF) (σ':AS) (K':AF→AS→Prop),(∀ t∈grd j,za7 φ' t=za7 φ t)→(zlc i.2=true∨SLx (!zdN i.2) σ σ')→FarL l1 (zhP i.2) (zbe φ d x) σ σ'→K' (zbe φ' d x) σ'→zf7 P inv w0 M N j φ' σ' K') →
    ∃ N2,N≤N2∧zf7 P inv w0 M N2 (zbJ i) φ σ (fun φ' σ'=>(∃ r,φ'=zcd φ i.2.dst r∧zpe P inv w0 M N (j::l1++l2) K φ' σ')∧FarL (j::l1) (zhP i.2) φ σ σ'):=by
   intro heff d x hd a3 a4 a5 hk hback
   rw[hd]at a3 a4
   obtain ⟨N2,hN,h2⟩:=swapL (φ:=zbe φ d x) hk (fun j hj=>ha j (by simp[hj])) hp.2 (fun j' hj d' hd'=>by
    rw[zbt,if_neg]
    ·exact hb j' (by simp[hj]) d' hd'
    ·have:=(hp.1 j' hj).1
     rw[hd,hd']at this
     exact Ne.symm (zd7 this))
   have hbd:zaI φ≤mx N2 (zaI (zbe φ d x)):=by
    refine Nat.le_trans (zht d x φ) (zoe ?_ (zau _ _))
    exact Nat.le_trans (hb j (by simp) d hd) (Nat.le_trans hN (zaR _ _))
   obtain ⟨N3,hN3,h3⟩:=zoK (g:=zbJ i) (φ:=φ) (zkY _) (by rw[←heff];unfold zbJ;cases i.2<;>rfl) h2 (fun t ht=>by rw[zoI]at ht;rw[zbt,if_neg (zdp a4 t ht)]) hbd
   refine ⟨N3,Nat.le_trans hN hN3,zhm (fun φ' σ' hk=>?_) h3⟩
   obtain ⟨hle,r,rfl,⟨r',_,hk⟩,hfar⟩:=hk
   simp only[zbJ,zi2,zlb,zoY]at hle hk ⊢
   refine ⟨⟨r,rfl, ?_⟩,fun p hp' hk'=>?_⟩
   ·show zf7 P inv w0 M N j _ σ' (zpe P inv w0 M N (l1++l2) K)
    refine hback _ _ _ (putO_get a5 φ r) hle hfar ?_
    rw[←znY a3]
    exact hk
   ·have hev:ev (zbe φ d x) p=ev φ p:=zaY fun t ht=>by
     have:=hk' j (by simp)
     rw[hd]at this
     rw[zbt,if_neg (zdp this t ht)]
    have:=hfar p hp' (fun k hk2=>hk' k (by simp[hk2]))
    rw[hev]at this
    exact this
  rcases ha j (by simp) with ⟨g1,g2,g3⟩|⟨a1,a0,a2,a7,a3,a4,a5⟩|⟨a1,a0,a3,a4,a5,a6⟩
  ·obtain ⟨jg,jo⟩:=j
   obtain ⟨ig,io⟩:=i
   cases jg<;>cases jo<;>simp only[zmW,Bool.false_eq_true]at g1
   cases ig<;>cases io<;>simp only[zmW,Bool.false_eq_true]at g2
   rename_i d back z di backi zi
   clear tail
   simp only[AOp.dst]at g3
   simp only[List.cons_append,zpe,zf7,za6,aop]at h
   split at h
   ·rename_i hg
    obtain ⟨N2,hN,h2⟩:=swapL h.2 (fun j hj=>ha j (by simp[hj])) hp.2 (fun j' hj d' hd'=>by
     rw[zbt,if_neg]
     ·exact hb j' (by simp[hj]) d' hd'
     ·have:=(hp.1 j' hj).1
      rw[hd']at this
      exact Ne.symm (zd7 this))
    refine ⟨N2,hN, ?_⟩
    simp only[zbJ,plain,zf7,za6,aop]at h2 ⊢
    rw[zag]at h2
    split at h2
    ·rename_i hg2
     split at hg2
     ·cases hg2
     ·rename_i hne
      rw[hg2]
      refine ⟨h2.1,⟨_,rfl, ?_⟩,fun p hp=>by cases hp⟩
      obtain ⟨⟨r,hr,hk⟩,_⟩:=h2.2
      simp only[List.cons_append,zpe,zf7,za6,aop]
      rw[zag,if_neg (Ne.symm hne),hg]
      refine ⟨h.1, ?_⟩
      rw[←zjr (Ne.symm hne),←zho (zd7 g3)]
      exact hk
    ·exact h2.elim
   ·exact h.elim
  ·by_cases hap:zlc i.2=true
   ·have hf:=a7 hap
    obtain ⟨jg,jo⟩:=j
    cases jo<;>first|(cases hf;done)|skip
    rename_i d e
    cases e<;>first|(cases hf;done)|skip
    rename_i q
    obtain ⟨x,hk,hback⟩:=gopD_mov (d:=d) (p:=q) rfl h
    exact tail a0 d x rfl a3 a4 a5 hk fun φ' σ' K' hr _ _ hk'=>hback φ' σ' K' hr hk'
   ·obtain ⟨d,x,hd,hk,hback⟩:=gopD_val a1 h
    refine tail a0 d x hd a3 a4 a5 hk fun φ' σ' K' hr hle _ hk'=>?_
    rcases hle with hle|hle
    ·exact absurd hle hap
    ·exact hback φ' σ' K' hr ⟨hle.1,fun e=>hle.2 (by rw[e]at a2;simpa using a2)⟩ hk'
  ·have hev:∀ (d:Nat) (x:AV) (s:Nat),j.2.dst=some d→(∀ t∈(Opd.t s).rd,t∈grd j)→isLdS j.2=true→(.t s:Opd)∈zhP i.2→∀ σ',FarL l1 (zhP i.2) (zbe φ d x) σ σ'→Fav σ σ' (ev φ (.t s)):=by
    intro d x s hd hsub hls hmem σ' hfar
    have hno:∀ k:Option Nat,zcF (grd j) k=false→zcF (Opd.t s).rd k=false:=by
     intro k hk
     cases k with
     |none=>rfl
     |some k =>
      cases e:zcF (Opd.t s).rd (some k) with
      |false=>rfl
      |true =>
       simp only[zcF]at e hk
       rw[zd3.2 (hsub k (zd3.1 e))]at hk
       cases hk
    have hev:ev (zbe φ d x) (.t s)=ev φ (.t s):=zaY fun t ht=>by
     have:=hno _ a6
     rw[hd]at this
     rw[zbt,if_neg (zdp this t ht)]
    have:=hfar (.t s) hmem (fun k hk2=>hno _ ((hp.1 k hk2).2 hls))
    rw[hev]at this
    exact this
   rcases zol a1 with ⟨d,m,s,hj,hmem⟩|⟨d,m,s,hj,hmem⟩
   ·obtain ⟨x,hk,hback⟩:=gopD_ld hj h
    have hd:j.2.dst=some d:=by rw[hj];rfl
    have hsub:∀ t∈(Opd.t s).rd,t∈grd j:=by
     intro t ht
     obtain ⟨gd,o⟩:=j
     simp only at hj
     subst hj
     cases gd<;>simp_all [grd,AOp.rd,AVal.rd]
    exact tail a0 d x hd a3 a4 a5 hk fun φ' σ' K' hr hle hfar hk'=>hback φ' σ' K' hr ((hev d x s hd hsub (by rw[hj];rfl) hmem σ' hfar).1 m) hk'
   ·obtain ⟨x,hk,hback⟩:=gopD_fad hj h
    have hd:j.2.dst=some d:=by rw[hj];rfl
    have hsub:∀ t∈(Opd.t s).rd,t∈grd j:=by
     intro t ht
     obtain ⟨gd,o⟩:=j
     simp only at hj
     subst hj
     cases gd<;>simp_all [grd,AOp.rd,AVal.rd]
    exact tail a0 d x hd a3 a4 a5 hk fun φ' σ' K' hr hle hfar hk'=>hback φ' σ' K' hr (hev d x s hd hsub (by rw[hj];rfl) hmem σ' hfar) hk'
theorem zhF {o:AOp} {K:AF→AS→Prop} (h:za6 P inv w0 M N o φ σ K):aop P inv w0 M N o φ σ K:=by
 cases o with
 |app d s x sz =>
  simp only[za6,aop]at h ⊢
  exact zbT (fun m l h=>zci (fun r σ' h'=>h'.2) h) h
 |call d j args=>simp only[za6]at h;simp only[aop];exact h.mono fun r σ' h'=>h'.2
 |calv d f args =>
  simp only[za6]at h
  simp only[aop]
  split at h
  ·exact h.mono fun r σ' h'=>h'.2
  ·exact h.elim
 |_=>exact h
end
def gopW (P:Program) (inv:Nat→Option Nat) (w0:World) (M:Nat→Prop) (N:Nat) (g:GOp) (φ:AF) (σ:AS) (K:AF→AS→Prop):Prop :=
 match g with
 |(none,o)=>aop P inv w0 M N o φ σ K
 |(some (s,want),o)=>(∃ t,za7 φ s=.b t∧(t=want→aop P inv w0 M N o φ σ K)∧(¬t=want→K (zcd φ o.dst .u) σ))∨(za7 φ s=.u∧K (zcd φ o.dst .u) σ)
theorem zoJ {P:Program} {inv:Nat→Option Nat} {w0:World} {M:Nat→Prop} {N:Nat} {g:GOp} {φ:AF} {σ:AS} {K:AF→AS→Prop} (h:zf7 P inv w0 M N g φ σ K):gopW P inv w0 M N g φ σ K:=by
 obtain ⟨gd,o⟩:=g
 cases gd with
 |none=>exact zhF h
 |some sw =>
  obtain ⟨s,want⟩:=sw
  rcases h with ⟨t,et,h1,h2⟩|h
  ·exact .inl ⟨t,et,fun e=>zhF (h1 e),h2⟩
  ·exact .inr h
section
variable {P:Program} {inv:Nat→Option Nat} {w0:World} {M:Nat→Prop} {n N:Nat} {φ:AF} {σ:AS} {β:Nat→Nat} {a:Act} {w:World}
theorem zda (hE:zbD P inv) (hM:∀ b,M b→b<w0.heap.size) {ops:Array Oper} {Q:Exit→Act→World→Prop} {K:AF→AS→Prop} {i:Nat} {o:Oper} {g:GOp} (ho:ops[i]?=some o)
  (hg:zem n ops o.guard=some g.1) (hop:zbc P inv n o=some g.2) (h:gopW P inv w0 M N g φ σ K) (hs:St inv w0 M n φ σ β a w) {zcK:Act→World→Prop}
  (hn:∀ φ' σ' β' a' w',K φ' σ'→St inv w0 M n φ' σ' β' a' w'→Ext N (ctx inv M σ β w) (ctx inv M σ' β' w')→zcK a' w'):wpOp P ops Q i zcK a w:=by
 obtain ⟨hd1,hd2⟩:=zdr hop
 obtain ⟨g,op⟩:=g
 have go:Region.wanted o (yielded ops a.tmps)=true→aop P inv w0 M N op φ σ K→wpOp P ops Q i zcK a w:=by
  intro hw h
  unfold wpOp
  simp only[ho,hw,if_true]
  exact .inl (zl0 hE hM hs hop h hn)
 have skip:Region.wanted o (yielded ops a.tmps)=false→K (zcd φ op.dst .u) σ→wpOp P ops Q i zcK a w:=by
  intro hw h
  unfold wpOp
  simp only[ho,hw,Bool.false_eq_true,if_false]
  simp only at hd1
  rw[hd1]at h
  exact hn _ _ _ _ _ h (hs.skip hd2) (.refl _ _)
 cases hgd:o.guard with
 |none =>
  rw[hgd]at hg
  simp only[zem,Option.some.injEq]at hg
  subst hg
  exact go (by simp[Region.wanted,hgd]) h
 |some jw =>
  obtain ⟨j,want⟩:=jw
  rw[hgd]at hg
  simp only[zem]at hg
  split at hg
  ·rename_i s hj
   split at hg
   ·rename_i hlt
    simp only[Option.some.injEq]at hg
    subst hg
    have hy:=zhZ (a:=a) hj (by rw[hs.size];exact hlt)
    have hsl:=hs.slots s
    rcases h with ⟨t,et,h1,h2⟩|⟨et,h⟩
    ·rw[et]at hsl
     simp only[rel]at hsl
     have hw:Region.wanted o (yielded ops a.tmps)=decide (t=want):=by
      simp only[Region.wanted,hgd,hy,hsl]
      cases t<;>cases want<;>rfl
     by_cases htw:t=want
     ·exact go (by rw[hw];simpa using htw) (h1 htw)
     ·exact skip (by rw[hw];simpa using htw) (h2 htw)
    ·rw[et]at hsl
     simp only[rel]at hsl
     refine skip ?_ h
     simp only[Region.wanted,hgd,hy,hsl]
     rfl
   ·cases hg
  ·cases hg
theorem St.gal (hs:St inv w0 M n φ σ β a w) {d l:Nat} (hd:d<n) (hg:zaC σ l=some .rsv) {cs:List AV} {xs:Array Value} {ty:TypeId} (hpos:0<cs.length) (hcb:zab cs=0) (hlen:cs.length=xs.size) (hrel:relCs (ctx inv M σ β w) cs xs.toList) :
  St inv w0 M n (zbe φ d (.ptr l cs.length 0)) (zaU σ l (.cells cs true)) (upd β l w.heap.size) (a.put (some d) (.pointer (some ⟨w.heap.size,0,none⟩))) (w.alloc (.cells xs ty)) ∧
  Ext N (ctx inv M σ β w) (ctx inv M (zaU σ l (.cells cs true)) (upd β l w.heap.size) (w.alloc (.cells xs ty))):=by
 have hnew:(w.alloc (.cells xs ty)).heap[w.heap.size]?=some (.cells xs ty (0,0)):=heap_alloc_new w _
 have h:=hs.mem.put (l:=l) (b':=w.heap.size) (cs':=cs) (xs':=xs) (ty:=ty) (w':=w.alloc (.cells xs ty)) (N:=zay N φ σ) (hs.mem.below.alloc hs.mem.below.size _) (by simp)
  (fun b hb _=>Below.heap_alloc _ _ _ hb) hnew (by omega) hs.mem.below.size (fun l' o' _ e hr=>by have:=(hs.mem.own l' o' e hr).2;omega) (.inl (Nat.le_refl _))
  (fun l' o' e _=>Nat.le_trans (zaz σ l' o' e).2 (zbj N φ σ).2.2) (by omega)
  (fun _ p' hp'=>by
   simp only[Option.some.injEq]at hp'
   subst hp'
   refine ⟨⟨0,0,0,false⟩,by unfold zai;rw[hg],Nat.zero_le _,fun e=>?_⟩
   simp only at e
   omega) (by rw[hlen,←Array.length_toList,List.take_length];exact hrel)
 refine ⟨hs.put h.1 h.2 (zbj N φ σ).2.1 hd ?_,h.2.mono (zbj N φ σ).1⟩
 refine zc5 (p:=⟨w.heap.size,cs.length,xs.size,true⟩) ?_ rfl
 unfold zai
 rw[zag,if_pos rfl]
 simp only[zaV,zaP,hnew]
def Tr (g0 g:GOp):Prop:=g=g0∨(∃ gd d j l,g0=(gd,.call (some d) j l)∧g=(gd,.callp d j l))∨(∃ d z back,g0=(none,.alloc d z)∧g=(none,.gal d back z))∨(∃ gd d j l,g0=(gd,.call d j l)∧g=(gd,.calle d j l))∨(∃ gd d f l,g0=(gd,.calv d f l)∧g=(gd,.calve d f l))∨(∃ gd d u x sz,g0=(gd,.app d u x sz)∧g=(gd,.appe d u x sz))∨(∃ gd d u x sz,g0=(gd,.app d u x sz)∧g=(gd,.appA d u x sz []))
theorem zov {o:Oper} {d:Nat} {z:List (Nat×AV)} (h:zbc P inv n o=some (.alloc d z)):∃ t,o.op=.alloc t∧zdC P t=some z∧o.dst=some d∧d<n:=by
 have hd:=zdr h
 unfold zbc at h
 split at h
 ·split at h
  ·split at h<;>simp at h
  ·cases h
 ·split at h
  ·rename_i op hop
   split at h
   ·simp only[Option.some.injEq]at h
    subst h
    have hds:o.dst=some d:=hd.1.symm
    refine (?_:∃ t,o.op=.alloc t∧zdC P t=some z).elim fun t ht=>⟨t,ht.1,ht.2,hds,zoZ hd.2 d hds⟩
    unfold zcv at hop
    split at hop
    ·rename_i t ho
     obtain ⟨z',h1,h2⟩:=Option.map_eq_some_iff.1 hop
     simp only[AOp.alloc.injEq]at h2
     exact ⟨t,ho,by rw[h1,h2.2]⟩
    all_goals (exfalso;revert hop;try unfold zo8)
    all_goals (repeat' split)
    all_goals first|(intro hop;cases hop;done)|(intro hop;simp at hop;done)|(intro hop;obtain ⟨_,_,e⟩:=Option.map_eq_some_iff.1 hop;cases e)
   ·cases h
  ·split at h
   ·simp at h
   ·cases h
theorem zhA {o:Oper} {op:AOp} (h:zbc P inv n o=some op):plain op=op:=by
 cases op with
 |appA d s x sz pts =>
  exfalso
  unfold zbc at h
  split at h
  ·split at h
   ·split at h<;>simp at h
   ·cases h
  ·split at h
   ·rename_i op hop
    split at h
    ·simp only[Option.some.injEq]at h
     subst h
     unfold zcv at hop
     revert hop
     try unfold zo8
     repeat' split
     all_goals first|(intro hop;cases hop;done)|(intro hop;simp at hop;done)|(intro hop;obtain ⟨_,_,e⟩:=Option.map_eq_some_iff.1 hop;cases e)
    ·cases h
   ·split at h
    ·simp at h
    ·cases h
 |storeA nn a x pts =>
  exfalso
  unfold zbc at h
  split at h
  ·split at h
   ·split at h<;>simp at h
   ·cases h
  ·split at h
   ·rename_i op hop
    split at h
    ·simp only[Option.some.injEq]at h
     subst h
     unfold zcv at hop
     revert hop
     try unfold zo8
     repeat' split
     all_goals first|(intro hop;cases hop;done)|(intro hop;simp at hop;done)|(intro hop;obtain ⟨_,_,e⟩:=Option.map_eq_some_iff.1 hop;cases e)
    ·cases h
   ·split at h
    ·simp at h
    ·cases h
 |_=>rfl
theorem Tr.plain {g0 g:GOp} (h:Tr g0 g) (hp:Go.Eng.plain g0.2=g0.2):zbJ g=g:=by
 rcases h with rfl|⟨gd,d,j,l,rfl,rfl⟩|⟨d,z,back,rfl,rfl⟩|⟨gd,d,j,l,rfl,rfl⟩|⟨gd,d,f,l,rfl,rfl⟩|⟨gd,d,u,x,sz,rfl,rfl⟩|⟨gd,d,u,x,sz,rfl,rfl⟩
 ·obtain ⟨gd,o⟩:=g;simp only at hp;simp only[zbJ,hp]
 ·rfl
 ·rfl
 ·rfl
 ·rfl
 ·rfl
 ·rfl
theorem zmX (hE:zbD P inv) (hM:∀ b,M b→b<w0.heap.size) {ops:Array Oper} {Q:Exit→Act→World→Prop} {K:AF→AS→Prop} {i:Nat} {o:Oper} {g0 g:GOp} (ho:ops[i]?=some o)
  (hg:zem n ops o.guard=some g0.1) (hop:zbc P inv n o=some g0.2) (htr:Tr g0 g) (h:zf7 P inv w0 M N g φ σ K) (hs:St inv w0 M n φ σ β a w) {zcK:Act→World→Prop}
  (hn:∀ φ' σ' β' a' w',K φ' σ'→St inv w0 M n φ' σ' β' a' w'→Ext N (ctx inv M σ β w) (ctx inv M σ' β' w')→zcK a' w'):wpOp P ops Q i zcK a w:=by
 rcases htr with rfl|⟨gd,d,j,l,rfl,rfl⟩|⟨d,z,back,rfl,rfl⟩|⟨gd,d,j,l,rfl,rfl⟩|⟨gd,d,f,l,rfl,rfl⟩|⟨gd,d,u,x,sz,rfl,rfl⟩|⟨gd,d,u,x,sz,rfl,rfl⟩
 ·exact zda hE hM ho hg hop (zoJ h) hs hn
 ·refine zda (K:=K) hE hM ho hg hop (zoJ ?_) hs hn
  have key:za6 P inv w0 M N (.callp d j l) φ σ K→za6 P inv w0 M N (.call (some d) j l) φ σ K:=by
   intro h
   simp only[za6,aop]at h ⊢
   obtain ⟨r,h1,h2⟩:=h
   refine (h1 N φ σ (.refl σ)).mono fun r' σ'' ⟨e1,e2⟩=>?_
   subst e1 e2
   exact ⟨.refl _,h2⟩
  cases gd with
  |none=>exact key h
  |some sw =>
   obtain ⟨s,want⟩:=sw
   rcases h with ⟨t,et,h1,h2⟩|h
   ·exact .inl ⟨t,et,fun e=>key (h1 e),h2⟩
   ·exact .inr h
 ·obtain ⟨t,h1,h2,h3,h4⟩:=zov hop
  have hgd:o.guard=none:=by
   cases e:o.guard with
   |none=>rfl
   |some jw =>
    rw[e]at hg
    simp only[zem]at hg
    split at hg
    ·split at hg<;>simp at hg
    ·cases hg
  simp only[zf7,za6,aop]at h
  split at h
  ·rename_i hsg
   obtain ⟨it,zv,hi,hz,hzr⟩:=zbW (c:=ctx inv M σ β w) h2
   have hlen:=zaD hzr
   have hgal:=hs.gal (N:=N) (ty:=t) h4 hsg h.1 (zb9 h2) (by simpa using hlen) hzr
   have hx:(execOp a.eval o).run P w=.ok (.value (.pointer (some ⟨w.heap.size,0,none⟩))) (w.alloc (.cells zv.cells t)):=by
    simp only[execOp,h1,Sem.run_bind,zei hi hz,Result.andThen_ok,Sem.run_pure]
   unfold wpOp
   simp only[ho,Region.wanted,hgd,if_true]
   refine .inl ?_
   unfold Oper.wp
   rw[hx]
   show zcK (a.put o.dst _) _
   rw[h3]
   exact hn _ _ _ _ _ h.2 hgal.1 hgal.2
  ·exact h.elim
 ·refine zda (K:=K) hE hM ho hg hop ?_ hs hn
  cases gd with
  |none=>exact h
  |some sw =>
   obtain ⟨s,want⟩:=sw
   rcases h with ⟨t,et,h1,h2⟩|h
   ·exact .inl ⟨t,et,h1,h2⟩
   ·exact .inr h
 ·refine zda (K:=K) hE hM ho hg hop ?_ hs hn
  cases gd with
  |none=>exact h
  |some sw =>
   obtain ⟨s,want⟩:=sw
   rcases h with ⟨t,et,h1,h2⟩|h
   ·exact .inl ⟨t,et,h1,h2⟩
   ·exact .inr h
 ·refine zda (K:=K) hE hM ho hg hop ?_ hs hn
  cases gd with
  |none=>exact h
  |some sw =>
   obtain ⟨s,want⟩:=sw
   rcases h with ⟨t,et,h1,h2⟩|h
   ·exact .inl ⟨t,et,h1,h2⟩
   ·exact .inr h
 ·refine zda (K:=K) hE hM ho hg hop ?_ hs hn
  have key:∀ {K:AF→AS→Prop},za6 P inv w0 M N (.appA d u x sz []) φ σ K→aop P inv w0 M N (.app d u x sz) φ σ K:=by
   intro K h
   simp only[za6,aop]at h ⊢
   exact zbT (fun m l h=>h.2) h
  cases gd with
  |none=>exact key h
  |some sw =>
   obtain ⟨s,want⟩:=sw
   rcases h with ⟨t,et,h1,h2⟩|h
   ·exact .inl ⟨t,et,fun e=>key (h1 e),h2⟩
   ·exact .inr h
theorem zb8 {ops:Array Oper}:∀ {l:List Oper} {gs:List GOp},zba P inv n ops l=some gs→gs.length=l.length∧∀ i o,l[i]?=some o→zem n ops o.guard=some (gAt gs i).1∧zbc P inv n o=some (gAt gs i).2
 |[],gs,h=>by
  simp only[zba,Option.some.injEq]at h
  subst h
  exact ⟨rfl,fun i o h=>by simp at h⟩
 |o::l,gs,h=>by
  simp only[zba]at h
  split at h
  ·rename_i g op al hg hop hal
   simp only[Option.some.injEq]at h
   subst h
   obtain ⟨h1,h2⟩:=zb8 hal
   refine ⟨by simp[h1],fun i o' ho=>?_⟩
   cases i with
   |zero=>simp only[List.getElem?_cons_zero,Option.some.injEq]at ho;subst ho;exact ⟨hg,hop⟩
   |succ i=>exact h2 i o' (by simpa using ho)
  ·cases h
theorem zfY {gs:List GOp} {anc:List Nat}:∀ {l:List Nat},ziR gs anc l=true→l.Pairwise (fun j i=>zjT gs anc j i=true)
 |[],_=>.nil
 |j::r,h=>by
  simp only[ziR,Bool.and_eq_true,List.all_eq_true]at h
  exact .cons h.1 (zfY h.2)
theorem zfV {prs:List (List Nat)}:∀ {l pre x:List Nat} {i:Nat} {y:List Nat},zg1 prs pre l=true→l=x++i::y→∀ p∈prs[i]?.getD [],p∈pre∨p∈x
 |l,pre,[],i,y,h,e,p,hp=>by
  subst e
  simp only[List.nil_append,zg1,Bool.and_eq_true,List.all_eq_true]at h
  exact .inl (zd3.1 (h.1 p hp))
 |l,pre,k::x,i,y,h,e,p,hp=>by
  subst e
  simp only[List.cons_append,zg1,Bool.and_eq_true]at h
  rcases zfV h.2 rfl p hp with h'|h'
  ·rcases List.mem_cons.1 h' with e|h''
   ·exact .inr (by simp[e])
   ·exact .inl h''
  ·exact .inr (by simp[h'])
theorem zli {l:Array Bool} {i:Nat} (h:i<l.size):l.getD i true=l.getD i false:=by simp[h]
theorem zm0 (hE:zbD P inv) (hM:∀ b,M b→b<w0.heap.size) {ops:Array Oper} {gs:List GOp} {prs:List (List Nat)} {anc ord:List Nat} {gs0:List GOp} (hc:zba P inv n ops ops.toList=some gs0) (hlen1:gs.length=gs0.length) (htr:∀ i,i<gs.length→Tr (gAt gs0 i) (zbJ (gAt gs i))) (hprs:prs=ops.toList.map zeV)
  (hok:zkc gs prs anc ord gs.length=true) {Q:Exit→Act→World→Prop} {K:AF→AS→Prop} :
  ∀ (fuel:Nat) (listed:Array Bool) (φ:AF) (σ:AS) (β:Nat→Nat) (a:Act) (w:World),listed.size=ops.size →
   (∀ k x,listed.getD k false=true→zfE anc k x=true→x<ops.size→listed.getD x false=true) →
   (ord.filter fun i=>!listed.getD i false).length≤fuel→(∀ j∈ord.filter fun i=>!listed.getD i false,∀ d,(gAt gs j).2.dst=some d→(za7 φ d).bound≤N) →
   zpe P inv w0 M N ((ord.filter fun i=>!listed.getD i false).map (gAt gs)) K φ σ→St inv w0 M n φ σ β a w →
   (∀ φ' σ' β' a' w',K φ' σ'→St inv w0 M n φ' σ' β' a' w'→Ext N (ctx inv M σ β w) (ctx inv M σ' β' w')→Q .normal a' w')→wpAny P .any ops Q fuel listed a w:=by
 obtain ⟨hlen0,hget⟩:=zb8 hc
 have hlen:gs.length=ops.size:=by rw[hlen1];simpa using hlen0
 have hget':∀ (i:Nat) (o:Oper),ops[i]?=some o→zem n ops o.guard=some (gAt gs0 i).1∧zbc P inv n o=some (gAt gs0 i).2:=fun i o h=>hget i o (by rw[Array.getElem?_toList];exact h)
 unfold zkc at hok
 simp only[Bool.and_eq_true]at hok
 obtain ⟨⟨⟨⟨k1,k2⟩,k3⟩,k4⟩,k5⟩:=hok
 have hpw:=zfY k1
 have hin:∀ i∈ord,i<ops.size:=by
  intro i hi
  unfold zl6 at k5
  have:=List.all_eq_true.1 k5 i hi
  rw[Nat.blt_eq,hlen]at this
  exact this
 have hcov:∀ i,i<ops.size→i∈ord:=by
  intro i hi
  unfold zo1 at k3
  exact zd3.1 (List.all_eq_true.1 k3 i (by rw[List.mem_range,hlen];exact hi))
 have hprs':∀ (i:Nat) (o:Oper),ops[i]?=some o→prs[i]?.getD []=zeV o:=by
  intro i o ho
  rw[hprs,List.getElem?_map,Array.getElem?_toList,ho]
  rfl
 have hpreds:∀ (o:Oper) (l:Array Bool),(∀ e∈o.after,Region.binds .any e=true→l.getD e.on false=true)↔∀ p∈zeV o,l.getD p false=true:=by
  intro o l
  unfold zeV
  constructor
  ·intro h p hp
   obtain ⟨e,he,rfl⟩:=List.mem_map.1 hp
   obtain ⟨h1,h2⟩:=List.mem_filter.1 he
   exact h e (by simpa using h1) h2
  ·intro h e he hb
   exact h e.on (List.mem_map.2 ⟨e,List.mem_filter.2 ⟨by simpa using he,hb⟩,rfl⟩)
 have hanc:∀ (i:Nat) (o:Oper) (x:Nat),ops[i]?=some o→x<ops.size→zfE anc i x=true→∃ p∈zeV o,p=x∨zfE anc p x=true:=by
  intro i o x ho hx ha
  have hi:i<ops.size:=(Array.getElem?_eq_some_iff.1 ho).1
  unfold ancOk at k4
  have h1:=List.all_eq_true.1 (List.all_eq_true.1 k4 i (by rw[List.mem_range,hlen];exact hi)) x (by rw[List.mem_range,hlen];exact hx)
  rw[ha,hprs' i o ho]at h1
  simp only[Bool.not_true,Bool.false_or,List.any_eq_true,Bool.or_eq_true,Nat.beq_eq]at h1
  exact h1
 have hhead:∀ (listed:Array Bool) (i:Nat) (r:List Nat),listed.size=ops.size→(ord.filter fun i=>!listed.getD i false)=i::r→i∈Region.ready .any ops listed:=by
  intro listed i r hsz e
  obtain ⟨x,y,e1,e2,e3,_⟩:=List.filter_eq_cons_iff.1 e
  have hi:i<ops.size:=hin i (by rw[e1];simp)
  have e3':listed.getD i false=false:=by simpa using e3
  rw[mem_ready]
  refine ⟨by rw[zli (by omega)];exact e3',ops[i],by simp[hi], ?_⟩
  rw[hpreds]
  intro p hp
  rw[←hprs' i ops[i] (by simp[hi])]at hp
  rcases zfV k2 e1 p hp with h|h
  ·cases h
  ·have:=e2 p h
   simpa using this
 intro fuel
 induction fuel with
 |zero =>
  intro listed φ σ β a w hsz hcl hrem hb h hs hn
  have hnil:(ord.filter fun i=>!listed.getD i false)=[]:=List.eq_nil_of_length_eq_zero (by omega)
  rw[hnil]at h
  refine ⟨?_,hn _ _ _ _ _ h hs (.refl _ _)⟩
  refine List.eq_nil_iff_forall_not_mem.2 fun i hi=>?_
  obtain ⟨h0,o,ho,_⟩:=mem_ready.1 hi
  have hlt:i<ops.size:=(Array.getElem?_eq_some_iff.1 ho).1
  have:i∈ord.filter fun i=>!listed.getD i false:=List.mem_filter.2 ⟨hcov i hlt,by rw[←zli (by omega),h0];rfl⟩
  rw[hnil]at this
  cases this
 |succ fuel ih =>
  intro listed φ σ β a w hsz hcl hrem hb h hs hn
  refine ⟨fun hr=>?_,fun i hi=>?_⟩
  ·cases e:ord.filter fun i=>!listed.getD i false with
   |nil=>rw[e]at h;exact hn _ _ _ _ _ h hs (.refl _ _)
   |cons i r =>
    have:=hhead listed i r hsz e
    rw[hr]at this
    cases this
  ·obtain ⟨h0,o,ho,hpre⟩:=mem_ready.1 hi
   have hlt:i<ops.size:=(Array.getElem?_eq_some_iff.1 ho).1
   have hmem:i∈ord.filter fun i=>!listed.getD i false:=List.mem_filter.2 ⟨hcov i hlt,by rw[←zli (by omega),h0];rfl⟩
   obtain ⟨l1,l2,e⟩:=List.append_of_mem hmem
   have hpw2:(l1++i::l2).Pairwise (fun j i=>zjT gs anc j i=true):=by rw[←e];exact hpw.filter _
   rw[List.pairwise_append]at hpw2
   obtain ⟨hp1,hp2,hp3⟩:=hpw2
   rw[List.pairwise_cons]at hp2
   have hpl:∀ p∈zeV o,listed.getD p false=true:=(hpreds o listed).1 hpre
   have hanc':∀ x,x<ops.size→zfE anc i x=true→listed.getD x false=true:=by
    intro x hx ha
    obtain ⟨p,hp,h'|h'⟩:=hanc i o x ho hx ha
    ·rw[←h'];exact hpl p hp
    ·exact hcl p x (hpl p hp) h' hx
   have hpk:∀ {j k:Nat},zjT gs anc j k=true→j≠k∧zgc (gAt gs j).2.dst (gAt gs k).2.dst=true∧(isLdS (gAt gs j).2=true→zcF (grd (gAt gs j)) (gAt gs k).2.dst=false)∧(zfE anc k j=true∨zlE (gAt gs j) (gAt gs k)):=by
    intro j k hp
    unfold zjT at hp
    simp only[Bool.and_eq_true,Bool.or_eq_true,Bool.not_eq_true']at hp
    refine ⟨fun e=>by rw[e]at hp;simp at hp,hp.1.1.2,fun e=>by rcases hp.1.2 with h'|h'<;>first|(rw[e]at h';cases h';done)|exact h', ?_⟩
    rcases hp.2 with ((h'|h')|h')|h'
    ·exact .inr (.inr (.inr ⟨h'.1.1.1.1,h'.1.1.1.2,hp.1.1.2,h'.1.1.2,h'.1.2,h'.2⟩))
    ·exact .inl h'
    ·exact .inr (.inl ⟨h'.1,h'.2,hp.1.1.2⟩)
    ·exact .inr (.inr (.inl ⟨h'.1.1.1.1.1,h'.1.1.1.1.2,h'.1.1.1.2,fun e=>by rcases h'.1.1.2 with q|q<;>first|(rw[e]at q;cases q;done)|exact q,hp.1.1.2,h'.1.2,h'.2⟩))
   have hun:∀ j∈l1++i::l2,j<ops.size∧listed.getD j false=false:=by
    intro j hj
    rw[←e]at hj
    obtain ⟨hj1,hj2⟩:=List.mem_filter.1 hj
    exact ⟨hin j hj1,by simpa using hj2⟩
   have hap:∀ j∈l1,zlE (gAt gs j) (gAt gs i):=by
    intro j hj
    obtain ⟨_,_,_,h'|h'⟩:=hpk (hp3 j hj i (by simp))
    ·obtain ⟨h5,h6⟩:=hun j (by simp[hj])
     rw[hanc' j h5 h']at h6
     cases h6
    ·exact h'
   rw[e,List.map_append,List.map_cons]at h
   obtain ⟨N2,hN,hg⟩:=swapL h (fun j hj=>by obtain ⟨j',hj',rfl⟩:=List.mem_map.1 hj;exact hap j' hj')
    (List.pairwise_map.2 (hp1.imp fun hp=>⟨(hpk hp).2.1,(hpk hp).2.2.1⟩)) (fun j hj d hd=>by obtain ⟨j',hj',rfl⟩:=List.mem_map.1 hj;exact hb j' (by rw[e];simp[hj']) d hd)
   refine zmX hE hM ho (hget' i o ho).1 (hget' i o ho).2 (htr i (by omega)) hg hs fun φ' σ' β' a' w' hk hst hext=>?_
   obtain ⟨⟨r,rfl,hk⟩,_⟩:=hk
   have hnew:(ord.filter fun k=>!(listed.setIfInBounds i true).getD k false)=l1++l2:=by
    have hfi:∀ l:List Nat,(∀ k∈l,k≠i)→l.filter (fun k=>decide (k≠i))=l:=fun l hl=>List.filter_eq_self.2 fun k hk=>by simpa using hl k hk
    have h1:(ord.filter fun k=>!(listed.setIfInBounds i true).getD k false)=(ord.filter fun k=>!listed.getD k false).filter (fun k=>decide (k≠i)):=by
     rw[List.filter_filter]
     refine List.filter_congr fun k hk=>?_
     by_cases hki:k=i
     ·subst hki
      have:k<(listed.setIfInBounds k true).size:=by simp;omega
      simp[show k<listed.size by omega]
     ·rw[getD_set_ne false (Ne.symm hki)]
      simp[hki]
    rw[h1,e,List.filter_append,List.filter_cons,hfi l1 (fun k hk=>(hpk (hp3 k hk i (by simp))).1),hfi l2 (fun k hk=>Ne.symm (hpk (hp2.1 k hk)).1)]
    simp
   refine ih (listed.setIfInBounds i true) _ σ' β' a' w' (by simp[hsz]) ?_ ?_ ?_ ?_ hst fun φ2 σ2 β2 a2 w2 q s2 e2=>hn _ _ _ _ _ q s2 ((hext.mono hN).trans e2)
   ·intro k x hk' ha hx
    by_cases hki:k=i
    ·subst hki
     exact getD_set_true (hanc' x hx ha)
    ·rw[getD_set_ne false (Ne.symm hki)]at hk'
     exact getD_set_true (hcl k x hk' ha hx)
   ·rw[hnew]
    rw[e]at hrem
    simp only[List.length_append,List.length_cons]at hrem ⊢
    omega
   ·rw[hnew]
    intro j hj d hd
    have hne:zgc (some d) (gAt gs i).2.dst=true∨zgc (gAt gs i).2.dst (some d)=true:=by
     rcases List.mem_append.1 hj with hj|hj
     ·have:=(hpk (hp3 j hj i (by simp))).2.1;rw[hd]at this;exact .inl this
     ·have:=(hpk (hp2.1 j hj)).2.1;rw[hd]at this;exact .inr this
    have hbj:=hb j (by rw[e];rcases List.mem_append.1 hj with hj|hj<;>simp[hj]) d hd
    cases hdi:(gAt gs i).2.dst with
    |none=>exact hbj
    |some di =>
     rw[hdi]at hne
     have hdd:d≠di:=by
      rcases hne with h'|h'
      ·exact zd7 h'
      ·exact Ne.symm (zd7 h')
     simp only[zcd]
     rw[zbt,if_neg hdd]
     exact hbj
   ·rw[hnew,List.map_append]
    exact hk
theorem inv_regd {c₀:Code} {k:Nat} {l:List GOp} (h:zak P inv n c₀=some (.regd k l)):∃ id ops,c₀=.region id ops true∧zfa P inv n ops=some (.regd k l):=by
 unfold zak at h
 split at h<;>first|(cases h;done)|exact ⟨_,_,rfl,h⟩|(obtain ⟨_,_,e⟩:=Option.map_eq_some_iff.1 h;cases e;done)|(split at h<;>simp at h)
theorem zgp (k:Nat):∀ (gs:List GOp) (c i:Nat),(ziO k c gs).length=gs.length∧(i<gs.length→Tr (gAt gs i) (gAt (ziO k c gs) i))
 |[],_,_=>⟨rfl,fun h=>absurd h (Nat.not_lt_zero _)⟩
 |(gd,o)::r,c,i=>by
  have ih:=fun c i=>zgp k r c i
  have hd:∃ c' g,ziO k c ((gd,o)::r)=g::ziO k c' r∧Tr (gd,o) g:=by
   cases gd with
   |none =>
    cases o with
    |alloc d z=>exact ⟨_,_,rfl,.inr (.inr (.inl ⟨d,z,_,rfl,rfl⟩))⟩
    |call d j l=>cases d with
     |some d=>exact ⟨_,_,rfl,.inr (.inl ⟨_,d,j,l,rfl,rfl⟩)⟩
     |none=>exact ⟨_,_,rfl,.inl rfl⟩
    |_=>exact ⟨_,_,rfl,.inl rfl⟩
   |some sw =>
    cases o with
    |call d j l=>cases d with
     |some d=>exact ⟨_,_,rfl,.inr (.inl ⟨_,d,j,l,rfl,rfl⟩)⟩
     |none=>exact ⟨_,_,rfl,.inl rfl⟩
    |_=>exact ⟨_,_,rfl,.inl rfl⟩
  obtain ⟨c',g,e,ht⟩:=hd
  rw[e]
  refine ⟨by simp[(ih c' 0).1],fun hi=>?_⟩
  cases i with
  |zero=>exact ht
  |succ i=>exact (ih c' i).2 (by simpa using hi)
theorem ziJ (N:Nat) {b:Nat} (hs:St inv w0 M n φ σ β a w) (_h1:N≤b) (h2:zaI φ≤b) (h3:zaX σ≤b):∀ k,St inv w0 M n φ (zbO b k σ) β a w∧Ext b (ctx inv M σ β w) (ctx inv M (zbO b k σ) β w):=by
 intro k
 have hget:∀ k l,zaC (zbO b k σ) l=zaC σ l∨(b≤l∧zaC (zbO b k σ) l=some .rsv):=by
  intro k
  induction k with
  |zero=>intro l;exact .inl rfl
  |succ k ih =>
   intro l
   simp only[zbO]
   rw[zag]
   split
   ·rename_i e;exact .inr ⟨by omega,rfl⟩
   ·exact ih l
 have hlow:∀ l,l<b→zaC (zbO b k σ) l=zaC σ l:=fun l hl=>by
  rcases hget k l with h|h
  ·exact h
  ·omega
 have hreal:∀ l o,zaC (zbO b k σ) l=some o→o≠.rsv→zaC σ l=some o:=by
  intro l o h hne
  rcases hget k l with h'|⟨_,h'⟩
  ·rw[←h'];exact h
  ·rw[h']at h;simp only[Option.some.injEq]at h;exact absurd h.symm hne
 have hback:∀ l o,zaC σ l=some o→zaC (zbO b k σ) l=some o:=fun l o h=>by rw[hlow l (by have:=(zaz σ l o h).1;omega)];exact h
 have hav:∀ x,avoid M (zbO b k σ) β x↔avoid M σ β x:=by
  intro x
  constructor
  ·rintro (h|⟨l,o,e,hr,hb⟩)
   ·exact .inl h
   ·exact .inr ⟨l,o,hreal l o e (by rintro rfl;simp[AO.real]at hr),hr,hb⟩
  ·rintro (h|⟨l,o,e,hr,hb⟩)
   ·exact .inl h
   ·exact .inr ⟨l,o,hback l o e,hr,hb⟩
 have hext:Ext b (ctx inv M σ β w) (ctx inv M (zbO b k σ) β w):=by
  refine ⟨⟨rfl,Nat.le_refl _,fun _ _ _=>rfl,fun x _ h=>(hav x).1 h⟩,fun l hl p' hp'=>⟨p', ?_,Nat.le_refl _,fun _=>rfl⟩⟩
  show zai β w σ l=some p'
  have hp'':zai β w (zbO b k σ) l=some p':=hp'
  unfold zai at hp'' ⊢
  rw[hlow l hl]at hp''
  exact hp''
 refine ⟨⟨⟨fun i=>hext.rel (zaG _ (Nat.le_trans (zbl φ i) h2)) (hs.slots i), ?_⟩,hs.size,hs.defers⟩,hext⟩
 have hm:=hs.mem
 refine ⟨hm.below,fun l l' o o' e e' hr hr'=>hm.inj l l' o o' (hreal _ _ e (by rintro rfl;simp[AO.real]at hr)) (hreal _ _ e' (by rintro rfl;simp[AO.real]at hr')) hr hr',fun l o e hr=>hm.own l o (hreal _ _ e (by rintro rfl;simp[AO.real]at hr)) hr,fun l cs e=>?_,
  fun l cs e=>hm.ghost l cs (hreal _ _ e (by simp)),fun l kvs e=>hm.maps l kvs (hreal _ _ e (by simp))⟩
 obtain ⟨xs,ty,q1,q2,q3⟩:=hm.cells l cs (hreal _ _ e (by simp))
 exact ⟨xs,ty,q1,q2,hext.relCs (zar cs (Nat.le_trans (zaz σ l _ (hreal _ _ e (by simp))).2 h3)) q3⟩
theorem AWp.regd (hE:zbD P inv) (hM:∀ b,M b→b<w0.heap.size) {k:Nat} {l:List GOp} {Q:Exit→AF→AS→Prop} (h:za9 P inv w0 M (zay N φ σ+k) l (Q .normal) φ (zbO (zay N φ σ) k σ)):AWp P inv w0 M N n (.regd k l) Q φ σ:=by
 intro c₀ hc β a w hs
 obtain ⟨id,ops,rfl,hl⟩:=inv_regd hc
 have main:∀ (gs0 gs:List GOp),zba P inv n ops ops.toList=some gs0→gs.length=gs0.length→(∀ i,i<gs.length→Tr (gAt gs0 i) (gAt gs i))→drawn (ops.toList.map zeV) gs k=some (.regd k l) →
   (Code.region id ops true).wp P (fun e a' w'=>∃ φ' σ' β',Q e φ' σ'∧St inv w0 M n φ' σ' β' a' w'∧Ext N (ctx inv M σ β w) (ctx inv M σ' β' w')) a w:=by
  intro gs0 gs hgs hl1 htr hdr
  have hplain:∀ i,i<gs.length→zbJ (gAt gs i)=gAt gs i:=fun i hi=>by
   obtain ⟨q1,q2⟩:=zb8 hgs
   have hi':i<ops.toList.length:=by omega
   exact (htr i hi).plain (zhA (q2 i ops.toList[i] (by simp[hi'])).2)
  have hlen:gs.length=ops.size:=by rw[hl1];simpa using (zb8 hgs).1
  have main2:∀ (gs':List GOp),gs'.length=gs.length→(∀ i,i<gs'.length→Tr (gAt gs0 i) (zbJ (gAt gs' i)))→zkc gs' (ops.toList.map zeV) (ancGo [] (ops.toList.map zeV)) (zdQ gs (ops.toList.map zeV) (List.range gs.length) gs.length 0) gs'.length=true →
    l=(zdQ gs (ops.toList.map zeV) (List.range gs.length) gs.length 0).map (gAt gs')→(Code.region id ops true).wp P (fun e a' w'=>∃ φ' σ' β',Q e φ' σ'∧St inv w0 M n φ' σ' β' a' w'∧Ext N (ctx inv M σ β w) (ctx inv M σ' β' w')) a w:=by
   intro gs' hlen' htr' hok el
   subst el
   obtain ⟨f1,f2,f3⟩:=zbj N φ σ
   have hdw:=fun N=>hs.mem.call (w':={ w with drawn:=w.drawn+1 }) ⟨rfl,rfl,rfl,Nat.le_refl _,fun _ _=>rfl⟩ N
   have hs1:St inv w0 M n φ σ β a { w with drawn:=w.drawn+1 }:=hs.keep (hdw (zaI φ)).1 (hdw (zaI φ)).2 (Nat.le_refl _)
   obtain ⟨hs',hr'⟩:=ziJ N hs1 f1 f2 f3 k
   have hext:=(hdw N).2.trans (hr'.mono f1)
   have hfalse:∀ i,(Array.replicate ops.size false).getD i false=false:=by
    intro i
    simp only[Array.getD_eq_getD_getElem?,Array.getElem?_replicate]
    split<;>rfl
   have hall:∀ l:List Nat,(l.filter fun i=>!(Array.replicate ops.size false).getD i false)=l:=fun l=>List.filter_eq_self.2 fun i _=>by rw[hfalse];rfl
   refine wp_region_any hE.1 ?_
   refine zm0 hE hM hgs (hlen'.trans hl1) htr' rfl hok (N:=zay N φ σ+k) (K:=Q .normal) ops.size (Array.replicate ops.size false) φ _ β a _ (by simp) ?_ ?_ ?_ ?_ hs' ?_
   ·intro k x hk
    rw[hfalse]at hk
    cases hk
   ·rw[hall]
    have hnd:∀ (f:Nat) (bits:Nat),(zdQ gs (ops.toList.map zeV) (List.range gs.length) f bits).length≤f:=by
     intro f
     induction f with
     |zero=>intro bits;simp[zdQ]
     |succ f ih =>
      intro bits
      simp only[zdQ]
      split
      ·simp only[List.length_cons];have:=ih (bits ||| 2 ^ ‹Nat›);omega
      ·split
       ·simp only[List.length_cons];have:=ih (bits ||| 2 ^ ‹Nat›);omega
       ·simp
    exact Nat.le_trans (hnd _ _) (by omega)
   ·intro j _ d _
    have:=zbl φ d
    omega
   ·rw[hall]
    exact awpL_of h
   ·intro φ' σ' β' a' w' hk hst he
    exact ⟨φ',σ',β',hk,hst,hext.trans (he.mono (by omega))⟩
  have hget:∀ (f:Nat→GOp) (i:Nat),i<gs.length→gAt ((List.range gs.length).map f) i=f i:=by
   intro f i hi
   show ((List.map f (List.range gs.length))[i]?).getD _=_
   rw[List.getElem?_map,List.getElem?_range hi]
   rfl
  have hel:∀ anc ord,(zln gs anc ord).length=gs.length:=fun anc ord=>by simp[zln]
  have hpl:∀ anc ord,(zhL (zln gs anc ord) anc ord).length=gs.length:=fun anc ord=>by simp[zhL,hel]
  have heff:∀ anc ord i,i<gs.length→Tr (gAt gs0 i) (zbJ (gAt (zln gs anc ord) i)):=by
   intro anc ord i hi
   have h1:=htr i hi
   have h2:=hplain i hi
   unfold zln
   rw[hget _ i hi]
   unfold effOp
   split
   ·rename_i gd d j l _ e
    rw[e]at h1
    show Tr _ (gd,.calle d j l)
    rcases h1 with h1|⟨_,_,_,_,_,h1⟩|⟨_,_,_,_,h1⟩|⟨_,_,_,_,_,h1⟩|⟨_,_,_,_,_,h1⟩|⟨_,_,_,_,_,_,h1⟩|⟨_,_,_,_,_,_,h1⟩
    ·exact .inr (.inr (.inr (.inl ⟨gd,d,j,l,h1.symm,rfl⟩)))
    all_goals simp at h1
   ·rename_i gd d f l _ e
    rw[e]at h1
    show Tr _ (gd,.calve d f l)
    rcases h1 with h1|⟨_,_,_,_,_,h1⟩|⟨_,_,_,_,h1⟩|⟨_,_,_,_,_,h1⟩|⟨_,_,_,_,_,h1⟩|⟨_,_,_,_,_,_,h1⟩|⟨_,_,_,_,_,_,h1⟩
    ·exact .inr (.inr (.inr (.inr (.inl ⟨gd,d,f,l,h1.symm,rfl⟩))))
    all_goals simp at h1
   ·rename_i gd d u x sz _ e
    rw[e]at h1
    show Tr _ (gd,.appe d u x sz)
    rcases h1 with h1|⟨_,_,_,_,_,h1⟩|⟨_,_,_,_,h1⟩|⟨_,_,_,_,_,h1⟩|⟨_,_,_,_,_,h1⟩|⟨_,_,_,_,_,_,h1⟩|⟨_,_,_,_,_,_,h1⟩
    ·exact .inr (.inr (.inr (.inr (.inr (.inl ⟨gd,d,u,x,sz,h1.symm,rfl⟩)))))
    all_goals simp at h1
   ·rename_i gd d u x sz _ e
    rw[e]at h1
    show Tr _ (gd,.appA d (.t u) x sz [])
    rcases h1 with h1|⟨_,_,_,_,_,h1⟩|⟨_,_,_,_,h1⟩|⟨_,_,_,_,_,h1⟩|⟨_,_,_,_,_,h1⟩|⟨_,_,_,_,_,_,h1⟩|⟨_,_,_,_,_,_,h1⟩
    ·exact .inr (.inr (.inr (.inr (.inr (.inr ⟨gd,d,_,x,sz,h1.symm,rfl⟩)))))
    all_goals simp at h1
   ·rw[h2];exact h1
  unfold drawn at hdr
  simp only at hdr
  split at hdr
  ·rename_i hok
   simp only[Option.some.injEq,ACode.regd.injEq,true_and]at hdr
   refine main2 _ (hel _ _) (fun i hi=>?_) (by rw[hel];exact hok) hdr.symm
   rw[hel]at hi
   exact heff _ _ i hi
  ·split at hdr
   ·rename_i hok
    simp only[Option.some.injEq,ACode.regd.injEq,true_and]at hdr
    refine main2 _ (hpl _ _) (fun i hi=>?_) (by rw[hpl];exact hok) hdr.symm
    rw[hpl]at hi
    have he:∀ anc ord,zbJ (gAt (zhL (zln gs anc ord) anc ord) i)=zbJ (gAt (zln gs anc ord) i):=by
     intro anc ord
     have e1:gAt (zhL (zln gs anc ord) anc ord) i=addPt (zln gs anc ord) anc ord i:=by
      simp only[zhL,hel]
      exact hget _ i hi
     rw[e1]
     unfold addPt
     split
     ·rename_i e;rw[e];rfl
     ·rfl
    rw[he]
    exact heff _ _ i hi
   ·cases hdr
 unfold zfa at hl
 split at hl
 ·rename_i gs hgs
  split at hl
  ·rename_i c e
   simp only[Option.some.injEq]at hl
   subst hl
   obtain ⟨_,e'⟩:=zdq e
   simp only[ACode.regd.injEq]at e'
   obtain ⟨rfl,_⟩:=e'
   exact main gs gs hgs rfl (fun _ _=>.inl rfl) e
  ·obtain ⟨_,e'⟩:=zdq hl
   simp only[ACode.regd.injEq]at e'
   have hk:=e'.1
   exact main gs (ziO (zhf gs) 0 gs) hgs (zgp _ gs 0 0).1 (fun i hi=>(zgp (zhf gs) gs 0 i).2 (by rw[(zgp (zhf gs) gs 0 0).1]at hi;exact hi)) (by rw[hk];rw[hk]at hl;exact hl)
 ·cases hl
end
end Go.Eng
namespace Go.Eng
open Go.RowKit
def zhJ:ACode→Nat→Option ACode
 |.seq a b,l=>match zhJ a l with
  |some r=>some (.seq r b)
  |none=>zhJ b l
 |.label l',l=>if l' == l then some .skip else none
 |_,_=>none
section
variable {P:Program} {inv:Nat→Option Nat} {w0:World} {M:Nat→Prop} {n N:Nat} {φ:AF} {σ:AS}
theorem zlA (l:Nat):∀ {c:Code} {x:ACode},zak P inv n c=some x→(∃ r₀ r,findLabel c l=some r₀∧zhJ x l=some r∧zak P inv n r₀=some r)∨(findLabel c l=none∧zhJ x l=none):=by
 intro c
 induction c with
 |seq a b iha ihb =>
  intro x h
  simp only[zak]at h
  split at h
  ·rename_i x' y' hx hy
   simp only[Option.some.injEq]at h
   subst h
   rcases iha hx with ⟨r₀,r,h1,h2,h3⟩|⟨h1,h2⟩
   ·exact .inl ⟨.seq r₀ b,.seq r y',by simp[findLabel,h1],by simp[zhJ,h2],by simp[zak,h3,hy]⟩
   ·rcases ihb hy with ⟨r₀,r,h3,h4,h5⟩|⟨h3,h4⟩
    ·exact .inl ⟨r₀,r,by simp[findLabel,h1,h3],by simp[zhJ,h2,h4],h5⟩
    ·exact .inr ⟨by simp[findLabel,h1,h3],by simp[zhJ,h2,h4]⟩
  ·cases h
 |label l' =>
  intro x h
  simp only[zak,Option.some.injEq]at h
  subst h
  simp only[findLabel,zhJ]
  split
  ·exact .inl ⟨.skip,.skip,rfl,rfl,rfl⟩
  ·exact .inr ⟨rfl,rfl⟩
 |region id ops d =>
  intro x h
  refine .inr ⟨rfl, ?_⟩
  cases d with
  |false=>obtain ⟨_,_,e⟩:=Option.map_eq_some_iff.1 h;subst e;rfl
  |true=>obtain ⟨_,e⟩:=zaL h;subst e;rfl
 |cond c a b =>
  intro x h
  simp only[zak]at h
  split at h
  ·simp only[Option.some.injEq]at h;subst h;exact .inr ⟨rfl,rfl⟩
  ·cases h
 |block id c _=>intro x h;obtain ⟨_,_,e⟩:=Option.map_eq_some_iff.1 h;subst e;exact .inr ⟨rfl,rfl⟩
 |loop c _=>intro x h;obtain ⟨_,_,e⟩:=Option.map_eq_some_iff.1 h;subst e;exact .inr ⟨rfl,rfl⟩
 |scope c _=>intro x h;obtain ⟨_,_,e⟩:=Option.map_eq_some_iff.1 h;subst e;exact .inr ⟨rfl,rfl⟩
 |skip=>intro x h;simp only[zak,Option.some.injEq]at h;subst h;exact .inr ⟨rfl,rfl⟩
 |exit id=>intro x h;simp only[zak,Option.some.injEq]at h;subst h;exact .inr ⟨rfl,rfl⟩
 |ret=>intro x h;simp only[zak,Option.some.injEq]at h;subst h;exact .inr ⟨rfl,rfl⟩
 |goto l'=>intro x h;simp only[zak,Option.some.injEq]at h;subst h;exact .inr ⟨rfl,rfl⟩
 |_=>intro x h;simp[zak]at h
theorem zos {c₀:Code} {x:ACode} (h:zak P inv n c₀=some (.scope x)):∃ x₀,c₀=.scope x₀∧zak P inv n x₀=some x:=by
 unfold zak at h
 split at h<;>first|(cases h;done)|(obtain ⟨_,e⟩:=zaL h;cases e;done)|(obtain ⟨l',h1,e⟩:=Option.map_eq_some_iff.1 h;cases e;exact ⟨_,rfl,h1⟩)|(obtain ⟨_,_,e⟩:=Option.map_eq_some_iff.1 h;cases e;done)|(split at h<;>simp at h)
theorem zot {c₀:Code} {l:Nat} (h:zak P inv n c₀=some (.label l)):c₀=.label l:=by
 unfold zak at h
 split at h<;>first|(cases h;done)|(obtain ⟨_,e⟩:=zaL h;cases e;done)|(obtain ⟨_,_,e⟩:=Option.map_eq_some_iff.1 h;cases e;done)|(simp only[Option.some.injEq,ACode.label.injEq]at h;rw[h];done)|(split at h<;>simp at h)
theorem inv_goto {c₀:Code} {l:Nat} (h:zak P inv n c₀=some (.goto l)):c₀=.goto l:=by
 unfold zak at h
 split at h<;>first|(cases h;done)|(obtain ⟨_,e⟩:=zaL h;cases e;done)|(obtain ⟨_,_,e⟩:=Option.map_eq_some_iff.1 h;cases e;done)|(simp only[Option.some.injEq,ACode.goto.injEq]at h;rw[h];done)|(split at h<;>simp at h)
theorem AWp.label {l:Nat} {Q:Exit→AF→AS→Prop} (h:Q .normal φ σ):AWp P inv w0 M N n (.label l) Q φ σ:=by
 intro c₀ hc β a w hs
 rw[zot hc]
 exact wp_label ⟨φ,σ,β,h,hs,.refl _ _⟩
theorem AWp.goto {l:Nat} {Q:Exit→AF→AS→Prop} (h:Q (.goto l) φ σ):AWp P inv w0 M N n (.goto l) Q φ σ:=by
 intro c₀ hc β a w hs
 rw[inv_goto hc]
 exact wp_goto ⟨φ,σ,β,h,hs,.refl _ _⟩
def zf3 (l:Nat) (J:AF→AS→Prop) (Q:Exit→AF→AS→Prop):Exit→AF→AS→Prop
 |.goto l',φ,σ=>l'=l∧J φ σ
 |e,φ,σ=>Q e φ σ
theorem AWp.scope {x r:ACode} {Q:Exit→AF→AS→Prop} (l:Nat) (hf:zhJ x l=some r) (I:Nat→AF→AS→Prop)
  (first:AWp P inv w0 M N n x (zf3 l (fun φ' σ'=>∃ m φ2 σ2,I m φ2 σ2∧zf8 φ2 φ'∧zeE σ2 σ') Q) φ σ)
  (pass:∀ m φ σ,I m φ σ→AWp P inv w0 M N n r (zf3 l (fun φ' σ'=>∃ m' φ2 σ2,m'<m∧I m' φ2 σ2∧zf8 φ2 φ'∧zeE σ2 σ') Q) φ σ):AWp P inv w0 M N n (.scope x) Q φ σ:=by
 intro c₀ hc β a w hs
 obtain ⟨x₀,rfl,hx⟩:=zos hc
 have hfl:∃ r₀,findLabel x₀ l=some r₀∧zak P inv n r₀=some r:=by
  rcases zlA l hx with ⟨r₀,r',h1,h2,h3⟩|⟨_,h2⟩
  ·rw[hf]at h2;simp only[Option.some.injEq]at h2;subst h2;exact ⟨r₀,h1,h3⟩
  ·rw[hf]at h2;cases h2
 obtain ⟨r₀,hf0,hr0⟩:=hfl
 let J:Nat→Act→World→Prop:=fun m a' w'=>∃ φ' σ' β',I m φ' σ'∧St inv w0 M n φ' σ' β' a' w'∧Ext N (ctx inv M σ β w) (ctx inv M σ' β' w')
 refine wp_scope_jumps (l:=l) (rest:=r₀) (fun a w=>∃ m,J m a w) (fun a w=>leastOf fun m=>J m a w) hf0 ?_ ?_
 ·refine Code.wp_mono ?_ (first x₀ hx β a w hs)
  rintro e a' w' ⟨φ',σ',β',q,hst,hext⟩
  cases e with
  |goto l' =>
   obtain ⟨rfl,m,φ2,σ2,hI,h1,h2⟩:=q
   obtain ⟨hs2,he2⟩:=hst.sub h1 h2 N
   exact ⟨rfl,m,φ2,σ2,β',hI,hs2,hext.trans he2⟩
  |normal=>exact ⟨φ',σ',β',q,hst,hext⟩
  |exit id=>exact ⟨φ',σ',β',q,hst,hext⟩
  |ret=>exact ⟨φ',σ',β',q,hst,hext⟩
  |panic ch=>exact ⟨φ',σ',β',q,hst,hext⟩
  |outgrown=>exact ⟨φ',σ',β',q,hst,hext⟩
 ·intro a1 w1 hJ
  obtain ⟨φ1,σ1,β1,hI1,hs1,he1⟩:=(leastOf_spec hJ).1
  refine Code.wp_mono ?_ (pass _ φ1 σ1 hI1 r₀ hr0 β1 a1 w1 hs1)
  rintro e a' w' ⟨φ',σ',β',q,hst,hext⟩
  cases e with
  |goto l' =>
   obtain ⟨rfl,m',φ2,σ2,hlt,hI,h1,h2⟩:=q
   obtain ⟨hs2,he2⟩:=hst.sub h1 h2 N
   have hJ':J m' a' w':=⟨φ2,σ2,β',hI,hs2,he1.trans (hext.trans he2)⟩
   exact ⟨rfl,⟨m',hJ'⟩,Nat.lt_of_le_of_lt ((leastOf_spec ⟨m',hJ'⟩).2 m' hJ') hlt⟩
  |normal=>exact ⟨φ',σ',β',q,hst,he1.trans hext⟩
  |exit id=>exact ⟨φ',σ',β',q,hst,he1.trans hext⟩
  |ret=>exact ⟨φ',σ',β',q,hst,he1.trans hext⟩
  |panic ch=>exact ⟨φ',σ',β',q,hst,he1.trans hext⟩
  |outgrown=>exact ⟨φ',σ',β',q,hst,he1.trans hext⟩
end
end Go.Eng
namespace Go.Eng
open Go.RowKit
inductive Sh where
 |i (k:IntKind)
 |b
 |s (sz:Nat) (e:Sh)
 |st (fs:List Sh)
 |ar (n:Nat) (e:Sh)
 deriving Inhabited
inductive D where
 |n (n:Int)
 |t (t:Bool)
 |l (l:List D)
 deriving Inhabited
mutual
def Sh.size:Sh→Nat
 |.i _=>1|.b=>1|.s _ _=>1
 |.st fs=>zcs fs
 |.ar n e=>n*e.size
def zcs:List Sh→Nat
 |[]=>0
 |x::r=>x.size+zcs r
end
mutual
def Sh.av:Sh→D→List AV
 |.i k,.n n=>[.i k n]
 |.b,.t t=>[.b t]
 |.s sz e,.l l=>[.sl sz (l.map (Sh.av e))]
 |.st fs,.l l=>zcH fs l
 |.ar _ e,.l l=>(l.map (Sh.av e)).flatten
 |_,_=>[]
def zcH:List Sh→List D→List AV
 |x::xs,d::ds=>Sh.av x d++zcH xs ds
 |_,_=>[]
end
mutual
def Sh.ok:Sh→D→Prop
 |.i k,.n n=>(Lit.int k n).wf=true
 |.b,.t _=>True
 |.s _ e,.l l=>l.length≤maxLen∧∀ d∈l,Sh.ok e d
 |.st fs,.l l=>zdd fs l
 |.ar n e,.l l=>l.length=n∧∀ d∈l,Sh.ok e d
 |_,_=>False
def zdd:List Sh→List D→Prop
 |[],[]=>True
 |x::xs,d::ds=>Sh.ok x d∧zdd xs ds
 |_,_=>False
end
section
variable (P:Program)
mutual
def znF:Nat→TypeId→Option Sh
 |0,_=>none
 |n+1,t =>
  match P.underlying t with
  |some (.int k)=>some (.i k)
  |some .bool=>some .b
  |some (.slice e)=>match znF n e with
   |some s=>if P.cellsOf e=s.size∧0<s.size then some (.s s.size s) else none
   |none=>none
  |some (.struct fs)=>match shFs n 0 fs.toList with
   |some l=>if P.cellsOf t=zcs l then some (.st l) else none
   |none=>none
  |some (.array m e)=>match znF n e with
   |some s=>if P.cellsOf e=s.size∧P.cellsOf t=m*s.size then some (.ar m s) else none
   |none=>none
  |_=>none
def shFs:Nat→Nat→List Field→Option (List Sh)
 |0,_,_=>none
 |_+1,_,[]=>some []
 |n+1,off,f::fs=>match znF n f.type,shFs n (off+P.cellsOf f.type) fs with
  |some s,some l=>if f.offset=off∧P.cellsOf f.type=s.size then some (s::l) else none
  |_,_=>none
end
end
mutual
theorem zhD:∀ (S:Sh) (d:D),S.ok d→(S.av d).length=S.size
 |.i k,d,h=>by cases d<;>simp only[Sh.ok]at h<;>simp[Sh.av,Sh.size]
 |.b,d,h=>by cases d<;>simp only[Sh.ok]at h<;>simp[Sh.av,Sh.size]
 |.s sz e,d,h=>by cases d<;>simp only[Sh.ok]at h<;>simp[Sh.av,Sh.size]
 |.st fs,d,h=>by
  cases d<;>simp only[Sh.ok]at h
  rename_i l
  simp only[Sh.av,Sh.size]
  exact zim fs l h
 |.ar n e,d,h=>by
  cases d<;>simp only[Sh.ok]at h
  rename_i l
  simp only[Sh.av,Sh.size]
  obtain ⟨h1,h2⟩:=h
  subst h1
  induction l with
  |nil=>simp
  |cons x l ih =>
   simp only[List.map_cons,List.flatten_cons,List.length_append,List.length_cons]
   rw[zhD e x (h2 x (by simp)),ih fun d hd=>h2 d (by simp[hd]),Nat.add_mul]
   omega
theorem zim:∀ (fs:List Sh) (l:List D),zdd fs l→(zcH fs l).length=zcs fs
 |[],l,h=>by cases l<;>simp only[zdd]at h<;>simp[zcH,zcs]
 |s::ss,l,h=>by
  cases l<;>simp only[zdd]at h
  simp only[zcH,zcs,List.length_append]
  rw[zhD s _ h.1,zim ss _ h.2]
end
section
variable {H:Type} {enc:TypeId×Value→H} {P:Program} {w:World} {base:Nat} {spare:Nat→Bool} {held:Bool} {inv:Nat→Option Nat}
abbrev c0 (inv:Nat→Option Nat) (w:World):Ctx:=⟨inv,w,fun _=>False,fun _=>none⟩
theorem zk5 {α β:Type} {f:α→Option β}:∀ {l:List α} {r:List β},l.mapM f=some r→r.length=l.length∧∀ (i:Nat) (x:α),l[i]?=some x→∃ y,r[i]?=some y∧f x=some y
 |[],r,h=>by simp at h;subst h;exact ⟨rfl,by simp⟩
 |a::l,r,h=>by
  simp only[List.mapM_cons,Option.pure_def,Option.bind_eq_bind,Option.bind_eq_some_iff,Option.some.injEq]at h
  obtain ⟨y,h1,ys,h2,rfl⟩:=h
  obtain ⟨h3,h4⟩:=zk5 h2
  refine ⟨by simp[h3],fun i x hx=>?_⟩
  cases i with
  |zero=>simp at hx;subst hx;exact ⟨y,by simp,h1⟩
  |succ i=>simpa using h4 i x (by simpa using hx)
theorem zpd:∀ (S:Sh) (d:D),zac (S.av d)=true
 |S,d=>by
  have key:∀ (S:Sh),∀ d,zac (S.av d)=true:=by
   intro S
   refine Sh.rec (motive_1:=fun S=>∀ d,zac (S.av d)=true) (motive_2:=fun fs=>∀ l,zac (zcH fs l)=true) ?_ ?_ ?_ ?_ ?_ ?_ ?_ S
   ·intro k d;cases d<;>simp[Sh.av,zac,AV.bare]
   ·intro d;cases d<;>simp[Sh.av,zac,AV.bare]
   ·intro sz e ih d;cases d<;>simp[Sh.av,zac,AV.bare]
   ·intro fs ih d;cases d<;>simp[Sh.av,zac];exact ih _
   ·intro n e ih d
    cases d<;>simp[Sh.av,zac]
    rename_i l
    induction l with
    |nil=>simp[zac]
    |cons x l ihl=>simp only[List.map_cons,List.flatten_cons,zcR,ih x,ihl,Bool.and_self]
   ·intro l;cases l<;>simp[zcH,zac]
   ·intro s ss ih ihl l
    cases l<;>simp[zcH,zac]
    rw[zcR,ih,ihl];rfl
  exact key S d
theorem znP {a:Addr} {sz len:Nat} {S:Sh} (hf:∀ i,i<len→∃ cs d,w.cells? base (a.add (i*sz)) sz=some cs∧S.ok d∧relCs (c0 inv w) (S.av d) cs) (hsz:S.size=sz) :
  ∃ ds:List D,ds.length=len∧(∀ d∈ds,S.ok d)∧∀ k,zax (c0 inv w) sz (a.add (k*sz)) 0 ((ds.drop k).map S.av):=by
 have h1:∃ ds:List D,ds.length=len∧∀ i,i<len→∃ cs d,ds[i]?=some d∧w.cells? base (a.add (i*sz)) sz=some cs∧S.ok d∧relCs (c0 inv w) (S.av d) cs:=by
  induction len with
  |zero=>exact ⟨[],rfl,fun i hi=>absurd hi (Nat.not_lt_zero i)⟩
  |succ n ih =>
   obtain ⟨ds,hl,hd⟩:=ih fun i hi=>hf i (by omega)
   obtain ⟨cs,d,k1,k2,k3⟩:=hf n (by omega)
   refine ⟨ds++[d],by simp[hl],fun i hi=>?_⟩
   by_cases hin:i<n
   ·obtain ⟨cs',d',q0,q⟩:=hd i hin
    exact ⟨cs',d',by rw[List.getElem?_append_left (by omega)];exact q0,q⟩
   ·have:i=n:=by omega
    subst this
    exact ⟨cs,d,by rw[List.getElem?_append_right (by omega)];simp[hl],k1,k2,k3⟩
 obtain ⟨ds,hl,hd⟩:=h1
 refine ⟨ds,hl,fun d hm=>?_,fun k=>?_⟩
 ·obtain ⟨i,hi,e⟩:=List.mem_iff_getElem.1 hm
  obtain ⟨cs,d',q0,_,q2,_⟩:=hd i (by omega)
  rw[List.getElem?_eq_getElem hi,e]at q0
  simp only[Option.some.injEq]at q0
  subst q0
  exact q2
 ·have key:∀ (m k:Nat),ds.length-k=m→zax (c0 inv w) sz a (k*sz) ((ds.drop k).map S.av):=by
   intro m
   induction m with
   |zero =>
    intro k hk
    rw[List.drop_eq_nil_of_le (by omega)]
    simp[zax]
   |succ m ih =>
    intro k hk
    have hlt:k<ds.length:=by omega
    obtain ⟨cs,d',q0,q1,q2,q3⟩:=hd k (by omega)
    rw[List.drop_eq_getElem_cons hlt]
    rw[List.getElem?_eq_getElem hlt]at q0
    simp only[Option.some.injEq]at q0
    simp only[List.map_cons,zax]
    rw[q0]
    have hlen:=zhD S d' q2
    obtain ⟨c1,c2,c3⟩:=World.cells?_some q1
    refine ⟨hlen.trans hsz, ?_, ?_⟩
    ·refine zeT (zpd S d') (zc6 (S:=fun _=>none) _ _ (zpd S d') q3) fun j u hu=>?_
     have hj:j<cs.length:=(List.getElem?_eq_some_iff.1 hu).1
     have:=c3 j (by omega)
     rw[zhK]at this
     exact this.trans hu
    ·rw[show k*sz+sz=(k+1)*sz by rw[Nat.add_mul];omega]
     exact ih (k+1) (by omega)
  have:=key _ k rfl
  have h0:=zdm (c:=c0 inv w) (sz:=sz) (ad:=a) (k:=0) (k*sz) (es:=(ds.drop k).map S.av) (by simpa using this)
  exact h0
theorem zh6 {c:Ctx} {S:Sh}:∀ {ds:List D} {css:List (List Value)},ds.length=css.length→(∀ (i:Nat) d cs,ds[i]?=some d→css[i]?=some cs→relCs c (S.av d) cs)→relCs c (ds.map S.av).flatten css.flatten
 |[],[],_,_=>za2
 |[],_::_,h,_=>by simp at h
 |_::_,[],h,_=>by simp at h
 |d::ds,cs::css,h,hr=>by
  simp only[List.map_cons,List.flatten_cons]
  exact zbb (hr 0 d cs rfl rfl) (zh6 (by simpa using h) fun i d' cs' h1 h2=>hr (i+1) d' cs' h1 h2)
theorem chop {α:Type} (sz:Nat):∀ (n:Nat) (l:List α),l.length=n*sz→((List.range n).map fun i=>(l.drop (i*sz)).take sz).flatten=l
 |0,l,h=>by simp at h;simp[h]
 |n+1,l,h=>by
  have ih:=chop sz n (l.drop sz) (by rw[List.length_drop,h,Nat.add_mul];omega)
  rw[List.range_succ_eq_map,List.map_cons,List.flatten_cons,List.map_map]
  have e:((List.range n).map ((fun i=>(l.drop (i*sz)).take sz)∘Nat.succ)).flatten=l.drop sz:=by
   rw[←ih]
   congr 1
   refine List.map_congr_left fun i _=>?_
   simp only[Function.comp,List.drop_drop]
   rw[show sz+i*sz=i.succ*sz by rw[Nat.succ_mul];omega]
  rw[e]
  simp
theorem zmO:∀ (n:Nat),(∀ (t:TypeId) (S:Sh),znF P n t=some S→∀ (fuel:Nat) (cs:List Value) (x:DataW H×List MemPlace),DataW.trod enc P w base spare held fuel t cs=some x →
  ∃ d,S.ok d∧relCs (c0 inv w) (S.av d) cs) ∧
  (∀ (off:Nat) (fs:List Field) (l:List Sh),shFs P n off fs=some l→∀ (fuel:Nat) (cs:List Value) (xs:List (DataW H×List MemPlace)),cs.length=off+zcs l →
   (fs.mapM fun f=>DataW.trod enc P w base spare held fuel f.type ((cs.drop f.offset).take (P.cellsOf f.type)))=some xs→∃ ds,zdd l ds∧relCs (c0 inv w) (zcH l ds) (cs.drop off)):=by
 intro n
 induction n with
 |zero=>exact ⟨fun t S hS=>by simp[znF]at hS,fun off fs l h=>by simp[shFs]at h⟩
 |succ n ih =>
 refine ⟨fun t S hS fuel cs x hx=>?_,fun off fs l hl fuel cs xs hlen hx=>?_⟩
 ·cases fuel with
  |zero=>simp[DataW.trod]at hx
  |succ fuel =>
  unfold znF at hS
  unfold DataW.trod at hx
  split at hS
  ·rename_i k e
   simp only[Option.some.injEq]at hS
   subst hS
   rw[e]at hx
   rcases cs with _|⟨v,_|⟨v',r⟩⟩
   ·simp at hx
   ·cases v<;>simp at hx
    rename_i k' q
    obtain ⟨⟨rfl,hw⟩,_⟩:=hx
    exact ⟨.n q,hw,zb0 rfl (by simp only[rel]) za2⟩
   ·simp at hx
  ·rename_i e
   simp only[Option.some.injEq]at hS
   subst hS
   rw[e]at hx
   rcases cs with _|⟨v,_|⟨v',r⟩⟩
   ·simp at hx
   ·cases v<;>simp at hx
    rename_i q
    exact ⟨.t q,trivial,zb0 rfl (by simp only[rel]) za2⟩
   ·simp at hx
  ·rename_i e0 e
   rw[e]at hx
   split at hS
   ·rename_i s hs
    split at hS
    ·rename_i hc
     obtain ⟨hc1,hc2⟩:=hc
     simp only[Option.some.injEq]at hS
     subst hS
     rcases cs with _|⟨v,_|⟨v',r⟩⟩
     ·simp at hx
     ·cases v<;>simp at hx
      rename_i ad len cap
      cases ad with
      |none =>
       cases len<;>cases cap<;>simp at hx
       exact ⟨.l [],⟨by simp[maxLen],by simp⟩,zb0 rfl (by simp only[rel];exact ⟨none,0,rfl,Nat.le_refl _,fun h=>absurd rfl h⟩) za2⟩
      |some a =>
       simp at hx
       obtain ⟨⟨b1,b2,b3⟩,hx⟩:=hx
       obtain ⟨el,q1,_⟩:=Option.bind_eq_some_iff.1 hx
       obtain ⟨h3,h4⟩:=zk5 q1
       have hrows:∀ i,i<len→∃ cs d,w.cells? base (a.add (i*s.size)) s.size=some cs∧s.ok d∧relCs (c0 inv w) (s.av d) cs:=by
        intro i hi
        obtain ⟨y,_,hy⟩:=h4 i i (by simp[hi])
        rw[hc1]at hy
        obtain ⟨cs,k1,k2⟩:=Option.bind_eq_some_iff.1 hy
        obtain ⟨d,k3,k4⟩:=ih.1 e0 s hs fuel cs y k2
        exact ⟨cs,d,k1,k3,k4⟩
       obtain ⟨ds,r1,r2,r3⟩:=znP hrows rfl
       refine ⟨.l ds,⟨by omega,r2⟩,zb0 rfl ?_ za2⟩
       simp only[rel]
       refine ⟨some a,cap,by simp[r1],by simp[r1];omega,fun hne=>⟨a,rfl,fun h=>h, ?_,by have:=r3 0;simp only[Nat.zero_mul,List.drop_zero]at this;rwa [show a.add 0=a by simp[Addr.add]]at this⟩⟩
       have hpos:0<len:=by
        rcases Nat.eq_zero_or_pos len with h0|h0
        ·exact absurd (by simp[List.eq_nil_of_length_eq_zero (r1.trans h0)]) hne
        ·exact h0
       obtain ⟨cs,d,k1,_⟩:=hrows 0 hpos
       have:=World.cells?_block k1 hc2
       simpa [zdS] using this
     ·simp at hx
    ·cases hS
   ·cases hS
  ·rename_i fs e
   rw[e]at hx
   split at hS
   ·rename_i l hl
    split at hS
    ·rename_i hc
     simp only[Option.some.injEq]at hS
     subst hS
     simp only at hx
     split at hx
     ·rename_i hlen
      obtain ⟨xs,hxs,_⟩:=Option.map_eq_some_iff.1 hx
      obtain ⟨ds,k1,k2⟩:=ih.2 0 fs.toList l hl fuel cs xs (by rw[hlen,hc];omega) hxs
      exact ⟨.l ds,k1,by simp only[Sh.av];simpa using k2⟩
     ·cases hx
    ·cases hS
   ·cases hS
  ·rename_i m e0 e
   rw[e]at hx
   split at hS
   ·rename_i s hs
    split at hS
    ·rename_i hc
     obtain ⟨hc1,hc2⟩:=hc
     simp only[Option.some.injEq]at hS
     subst hS
     simp only at hx
     split at hx
     ·rename_i hlen
      obtain ⟨xs,hxs,_⟩:=Option.map_eq_some_iff.1 hx
      obtain ⟨h3,h4⟩:=zk5 hxs
      have hel:∀ i,i<m→∃ d,s.ok d∧relCs (c0 inv w) (s.av d) ((cs.drop (i*s.size)).take s.size):=by
       intro i hi
       obtain ⟨y,_,hy⟩:=h4 i i (by simp[hi])
       rw[hc1]at hy
       exact ih.1 e0 s hs fuel _ y hy
      have hds:∃ ds:List D,ds.length=m∧∀ i,i<m→∃ d,ds[i]?=some d∧s.ok d∧relCs (c0 inv w) (s.av d) ((cs.drop (i*s.size)).take s.size):=by
       clear hc2 hx hxs h3 h4 hlen hc1 e
       induction m with
       |zero=>exact ⟨[],rfl,fun i hi=>absurd hi (Nat.not_lt_zero i)⟩
       |succ n ihm =>
        obtain ⟨ds,hl,hd⟩:=ihm fun i hi=>hel i (by omega)
        obtain ⟨d,k2,k3⟩:=hel n (by omega)
        refine ⟨ds++[d],by simp[hl],fun i hi=>?_⟩
        by_cases hin:i<n
        ·obtain ⟨d',q0,q⟩:=hd i hin
         exact ⟨d',by rw[List.getElem?_append_left (by omega)];exact q0,q⟩
        ·have:i=n:=by omega
         subst this
         exact ⟨d,by rw[List.getElem?_append_right (by omega)];simp[hl],k2,k3⟩
      obtain ⟨ds,r1,r2⟩:=hds
      refine ⟨.l ds,⟨r1,fun d hm=>?_⟩, ?_⟩
      ·obtain ⟨i,hi,e⟩:=List.mem_iff_getElem.1 hm
       obtain ⟨d',q0,q1,_⟩:=r2 i (by omega)
       rw[List.getElem?_eq_getElem hi,e]at q0
       simp only[Option.some.injEq]at q0
       subst q0
       exact q1
      ·have hf:=zh6 (c:=c0 inv w) (S:=s) (ds:=ds) (css:=(List.range m).map fun i=>(cs.drop (i*s.size)).take s.size) (by simp[r1]) fun i d cs' h1 h2=>by
        have hi:i<m:=by have:=(List.getElem?_eq_some_iff.1 h1).1;omega
        obtain ⟨d',q0,_,q2⟩:=r2 i hi
        rw[h1]at q0
        simp only[Option.some.injEq]at q0
        subst q0
        simp[hi]at h2
        subst h2
        exact q2
       rw[chop s.size m cs (by rw[hlen,hc2])]at hf
       exact hf
     ·cases hx
    ·cases hS
   ·cases hS
  ·cases hS
 ·cases fs with
  |nil =>
   simp only[shFs,Option.some.injEq]at hl
   subst hl
   exact ⟨[],trivial,by rw[List.drop_eq_nil_of_le (by simp[zcs]at hlen;omega)];exact za2⟩
  |cons f fs =>
   simp only[shFs]at hl
   split at hl
   ·rename_i s l' hs hl'
    split at hl
    ·rename_i hc
     obtain ⟨hc1,hc2⟩:=hc
     simp only[Option.some.injEq]at hl
     subst hl
     simp only[List.mapM_cons,Option.pure_def,Option.bind_eq_bind,Option.bind_eq_some_iff,Option.some.injEq]at hx
     obtain ⟨y,h1,ys,h2,_⟩:=hx
     simp only[zcs]at hlen
     obtain ⟨d,k1,k2⟩:=ih.1 f.type s hs fuel _ y h1
     obtain ⟨ds,k3,k4⟩:=ih.2 (off+P.cellsOf f.type) fs l' hl' fuel cs ys (by rw[hc2];omega) h2
     refine ⟨d::ds,⟨k1,k3⟩, ?_⟩
     have:=zbb k2 k4
     simp only[zcH]
     rw[hc1,←List.drop_drop,List.take_append_drop]at this
     exact this
    ·cases hl
   ·cases hl
end
end Go.Eng
namespace Go.Eng
open Go.RowKit Go.ChangeShapes Go.WideShapes
def Sh.arg:Sh→D→AV
 |.i k,.n n=>.i k n
 |.b,.t t=>.b t
 |.s sz e,.l l=>.sl sz (l.map (Sh.av e))
 |.st fs,.l l=>.agg (zcH fs l)
 |.ar _ e,.l l=>.agg (l.map (Sh.av e)).flatten
 |_,_=>.top
def zlB:List Sh→List D→List AV
 |x::xs,d::ds=>Sh.arg x d::zlB xs ds
 |_,_=>[]
section
variable {H:Type} {enc:TypeId×Value→H} {P:Program} {w W W':World} {inv:Nat→Option Nat}
theorem zfw {c:Ctx} {x:AV} {y:Value} (h:relCs c [x] [y]):rel c x y:=by
 simp only[relCs]at h
 obtain ⟨u,us,e,_,h,e'⟩:=h
 simp only[List.cons.injEq]at e
 rw[e.1];exact h
theorem open_arg {n:Nat} {t:TypeId} {S:Sh} (hS:znF P n t=some S) {r:Reach} {b0 base:Nat} {sp:Nat→Bool} {held:Bool} {v:Value} {d:DataW H} {ps:List MemPlace} (hval:Value.okWide P w r b0 t v) (hd:DataW.Trod enc P w base sp held t v d ps) :
  ∃ d',S.ok d'∧rel (c0 inv w) (S.arg d') v:=by
 obtain ⟨fuel,hf⟩:=hd
 obtain ⟨d',h1,h2⟩:=(zmO (inv:=inv) n).1 t S hS fuel _ _ hf
 refine ⟨d',h1, ?_⟩
 cases n with
 |zero=>simp[znF]at hS
 |succ n =>
 unfold znF at hS
 split at hS
 ·rename_i k e
  simp only[Option.some.injEq]at hS
  subst hS
  obtain ⟨q,rfl⟩:=okWide_int e hval
  cases d'<;>simp only[Sh.ok]at h1
  exact zfw h2
 ·rename_i e
  simp only[Option.some.injEq]at hS
  subst hS
  obtain ⟨q,rfl⟩:=okWide_bool e hval
  cases d'<;>simp only[Sh.ok]at h1
  exact zfw h2
 ·rename_i e0 e
  split at hS
  ·split at hS
   ·simp only[Option.some.injEq]at hS
    subst hS
    obtain ⟨a,len,cap,rfl⟩:=okWide_slice e hval
    cases d'<;>simp only[Sh.ok]at h1
    exact zfw h2
   ·cases hS
  ·cases hS
 ·rename_i fs e
  split at hS
  ·split at hS
   ·simp only[Option.some.injEq]at hS
    subst hS
    obtain ⟨cs,rfl,_⟩:=okWide_struct e hval
    cases d'<;>simp only[Sh.ok]at h1
    simp only[Sh.arg,rel]
    exact ⟨cs,rfl,h2⟩
   ·cases hS
  ·cases hS
 ·rename_i m e0 e
  split at hS
  ·split at hS
   ·simp only[Option.some.injEq]at hS
    subst hS
    have hv:=hval
    unfold Value.okWide at hv
    rw[e]at hv
    obtain ⟨cs,rfl,_⟩:=hv
    cases d'<;>simp only[Sh.ok]at h1
    simp only[Sh.arg,rel]
    exact ⟨cs,rfl,h2⟩
   ·cases hS
  ·cases hS
 ·cases hS
theorem zjU {n:Nat} {r:Reach} {b0 base:Nat} {sp:Nat→Bool} {held:Bool}:∀ {ts:List TypeId} {Ss:List Sh} {vs:List Value} {ds:List (DataW H)} {ps:List MemPlace},ts.map (znF P n)=Ss.map some →
  (∀ (j:Nat) t v,ts[j]?=some t→vs[j]?=some v→Value.okWide P w r b0 t v)→DataW.TrodAll enc P w base sp held ts vs ds ps→∃ ds',zdd Ss ds'∧zbA (c0 inv w) (zlB Ss ds') vs∧ds.length=Ss.length
 |[],[],vs,ds,ps,_,_,h=>by
  cases vs<;>cases ds<;>simp only[DataW.TrodAll]at h
  exact ⟨[],trivial,zlT,rfl⟩
 |t::ts,S::Ss,vs,ds,ps,hS,hval,h=>by
  cases vs with
  |nil=>simp only[DataW.TrodAll]at h
  |cons v vs =>
  cases ds with
  |nil=>simp only[DataW.TrodAll]at h
  |cons d ds =>
  simp only[DataW.TrodAll]at h
  obtain ⟨p,q,h1,h2,_⟩:=h
  simp only[List.map_cons,List.cons.injEq]at hS
  obtain ⟨d',k1,k2⟩:=open_arg (inv:=inv) hS.1 (hval 0 t v rfl rfl) h1
  obtain ⟨ds',k3,k4,k5⟩:=zjU hS.2 (fun j t v h1 h2=>hval (j+1) t v h1 h2) h2
  exact ⟨d'::ds',⟨k1,k3⟩,zeU k2 k4,by simp[k5]⟩
 |[],_::_,_,_,_,h,_,_=>by simp at h
 |_::_,[],_,_,_,h,_,_=>by simp at h
theorem ziq (hl:laidOutB P=true) (hb:Below W.heap.size W W'):∀ {ts:List TypeId} {vs:List Value} {ds:List (DataW H)} {ps:List MemPlace},(∀ t∈ts,P.readableRec t=true∧t<P.types.size) →
  DataW.TrodAll enc P W 0 (fun _=>true) true ts vs ds ps→(∀ x∈ps,x.block<W.heap.size)→DataW.TrodAll enc P W' 0 (fun b=>decide (b<W.heap.size)) true ts vs ds ps
 |[],vs,ds,ps,_,h,_=>by cases vs<;>cases ds<;>simp only[DataW.TrodAll]at h ⊢;exact h
 |t::ts,vs,ds,ps,ht,h,hlt=>by
  cases vs with
  |nil=>simp only[DataW.TrodAll]at h
  |cons v vs =>
  cases ds with
  |nil=>simp only[DataW.TrodAll]at h
  |cons d ds =>
  simp only[DataW.TrodAll]at h ⊢
  obtain ⟨p,q,h1,h2,rfl⟩:=h
  exact ⟨p,q,Below.trod hl (ht t (by simp)).1 (ht t (by simp)).2 h1 hb (fun x hx=>hlt x (by simp[hx])),ziq hl hb (fun t h=>ht t (by simp[h])) h2 (fun x hx=>hlt x (by simp[hx])),rfl⟩
theorem law_of_pc {fn:Func} {s:ChangeSpec} {apart zay:Bool} {g j n:Nat} {tb:TypeId} {Ss:List Sh} (hg:inv g=some j) (hl:laidOutB P=true) (hts:fn.params.toList.map (znF P n)=Ss.map some)
  (hread:fn.params.toList.all (fun t=>P.readableRec t&&decide (t<P.types.size))=true) (hres:fn.resultTypes=#[tb]) (hb:P.underlying tb=some .bool) (hvars:s.vars=[])
  (hs:∀ l:List (DataW H),l.length=Ss.length→s.fn H l={ results:=[.lit (.bool true)],args:=l })
  (pc:∀ ds,zdd Ss ds→PC P inv j (zlB Ss ds) (fun r=>r=.b true)) :
  ∀ (W:World) (base:Nat) (args:Array Value) (ds gs:List (DataW H)) (before:List MemPlace),
   (∀ (j:Nat) t v,fn.params[j]?=some t→args[j]?=some v→Value.okWide P W .any base t v)→DataW.Whole enc P fn.params.toList s.vars apart W args.toList ds gs before →
   Calls P g args W fun e W'=>∃ v,e=.returned v∧s.post enc P fn apart zay false false W args v W':=by
 intro W base args ds gs before hval hW
 have hW':=hW
 obtain ⟨p,q,hA,hV,rfl,hfz,hnd⟩:=hW
 rw[hvars]at hV
 obtain ⟨rfl,rfl⟩:=trodVars_none hV
 obtain ⟨ds',k1,k2,k3⟩:=zjU (inv:=inv) hts (fun j t v h1 h2=>hval j t v (by simpa using h1) (by simpa using h2)) hA
 refine (pc ds' k1 g hg (fun _=>False) W args (fun _ h=>h.elim) k2).mono ?_
 rintro e W' ⟨v,r,rfl,rfl,hbel,_,hrel⟩
 simp only[rel]at hrel
 subst hrel
 have hfn:=hs (ds++[]) (by simpa using k3)
 refine ⟨_,rfl,ds,[],p++[],[],p,[],hW', ?_, ?_, ?_,hbel.frame _,fun h=>by cases h⟩
 ·rw[hfn,hres]
  exact trodAll_mk1 (shut_bool hb true)
 ·rw[hfn]
  have:=ziq hl hbel (fun t ht=>by
   have:=List.all_eq_true.1 hread t ht
   simp only[Bool.and_eq_true,decide_eq_true_eq]at this
   exact this) hA (fun x hx=>hW'.lt x (by simp[hx]))
  simpa using this
 ·rw[hfn,hvars]
  simp[DataW.TrodVars]
end
end Go.Eng
namespace Go.Eng
def qt (a:Nat):Opd:=.t a
def qm (d a:Nat):AOp:=.set d (.mov (.t a))
def ql (d a:Nat):AOp:=.set d (.load none (.t a))
def qf (d a o:Nat):AOp:=.set d (.fadr (.t a) o)
def qi (d x i z:Nat):AOp:=.set d (.iadr (.t x) (.t i) z none)
def qb (d:Nat) (o:BinOp) (x y:Nat):AOp:=.set d (.bin o .num (.t x) (.t y))
def qc (d:Nat) (o:BinOp) (x:Nat) (c:Int):AOp:=.set d (.bin o .num (.t x) (.c (.i .i64 c)))
def qp (d a b:Nat) (t:Bool):AOp:=.set d (.pick (.t a) (.t b) (.c (.b t)))
def qv (d a b:Nat) (t:Bool):AOp:=.set d (.pick (.t a) (.c (.b t)) (.t b))
def qN (o:AOp):GOp:=(none,o)
def qT (s:Nat) (o:AOp):GOp:=(some (s,true),o)
def qF (s:Nat) (o:AOp):GOp:=(some (s,false),o)
def cd8:AFn:=⟨19,[.tmp 2],.seq (.reg [qN (.box 1 3 (qt 0)),qN (.set 2 (.mov (.c (.b false))))]) (.seq (.reg [qN (qf 3 1 0),qN (ql 4 3),qN (.set 5 (.len (qt 4))),qN (qc 6 .gtr 5 200),qN (qm 7 6),qF 7 (qf 8 1 1),qF 7 (ql 9 8),qF 7 (.set 10 (.len (qt 9))),qF 7 (qc 11 .gtr 10 200),qN (qv 12 7 11 true),qN (qm 13 12),qF 13 (qf 14 1 2),qF 13 (ql 15 14),qF 13 (.set 16 (.len (qt 15))),qF 13 (qc 17 .gtr 16 200),qN (qv 18 13 17 true),qN (qm 2 18)]) .ret)⟩
def cd9:AFn:=⟨13,[.cell 2 (some 3)],.seq (.reg [qN (.box 1 3 (qt 0)),qN (.alloc 2 [(1,.s0 2),(1,.s0 3),(1,.s0 4)])]) (.seq (.regd 0 [qN (qf 3 1 0),qN (ql 4 3),qN (qf 6 1 1),qN (ql 7 6),qN (qf 9 1 2),qN (ql 10 9),qN (.call (some 5) 31 [qt 4]),qN (.call (some 8) 32 [qt 7]),qN (.calle (some 11) 33 [qt 10]),qN (.set 12 (.build [(1,.s0 2),(1,.s0 3),(1,.s0 4)] [(0,(1,qt 5)),(1,(1,qt 8)),(2,(1,qt 11))])),qN (.store 3 (qt 2) (qt 12))]) .ret)⟩
def cd11:AFn:=⟨24,[.tmp 4],.seq (.reg [qN (.box 2 3 (qt 0)),qN (.box 3 3 (qt 1)),qN (.set 4 (.mov (.c (.b false))))]) (.seq (.reg [qN (qf 5 2 0),qN (ql 6 5),qN (qf 7 3 0),qN (ql 8 7),qN (.call (some 9) 34 [qt 6,qt 8]),qN (qm 10 9),qT 10 (qf 11 2 1),qT 10 (ql 12 11),qT 10 (qf 13 3 1),qT 10 (ql 14 13),qT 10 (.call (some 15) 35 [qt 12,qt 14]),qN (qp 16 10 15 false),qN (qm 17 16),qT 17 (qf 18 2 2),qT 17 (ql 19 18),qT 17 (qf 20 3 2),qT 17 (ql 21 20),qT 17 (.call (some 22) 36 [qt 19,qt 21]),qN (qp 23 17 22 false),qN (qm 4 23)]) .ret)⟩
def cd16:AFn:=⟨41,[.tmp 6,.tmp 7],.seq (.reg [qN (.box 3 3 (qt 0)),qN (.set 6 (.mov (.c (.i .i64 0)))),qN (.set 7 (.mov (.c (.i .i64 0))))]) (.seq (.seq (.reg [qN (.set 8 (.load (some 3) (qt 3))),qN (.call (some 9) 41 [qt 8]),qN (.set 10 (.not (qt 9)))]) (.cond (qt 10) (.seq (.reg [qN (.set 6 (.mov (.c (.i .i64 0)))),qN (.set 7 (.mov (.c (.i .i64 8))))]) .ret) .skip)) (.seq (.seq (.reg [qN (qm 11 1),qN (qc 12 .lss 11 0),qN (qm 13 12),qF 13 (qm 14 1),qF 13 (qc 15 .gtr 14 2),qN (qv 16 13 15 true),qN (qm 17 16),qF 17 (qm 18 2),qF 17 (qc 19 .lss 18 0),qN (qv 20 17 19 true),qN (qm 21 20),qF 21 (qm 22 2),qF 21 (qc 23 .gtr 22 2),qN (qv 24 21 23 true),qN (qm 25 24),qF 25 (.set 26 (.load (some 3) (qt 3))),qF 25 (.call (some 27) 42 [qt 26]),qF 25 (qm 28 1),qF 25 (.set 29 (.idx (qt 27) (qt 28) 3 3 true)),qF 25 (qm 30 2),qF 25 (.set 31 (.idx (qt 29) (qt 30) 3 1 false)),qF 25 (qc 32 .eql 31 0),qN (qv 33 25 32 true)]) (.cond (qt 33) (.seq (.reg [qN (.set 6 (.mov (.c (.i .i64 0)))),qN (.set 7 (.mov (.c (.i .i64 2))))]) .ret) .skip)) (.seq (.reg [qN (.set 34 (.load (some 3) (qt 3))),qN (.call (some 35) 42 [qt 34]),qN (qm 36 1),qN (.set 37 (.idx (qt 35) (qt 36) 3 3 true)),qN (qm 38 2),qN (.set 39 (.idx (qt 37) (qt 38) 3 1 false)),qN (qc 40 .rem 39 3),qN (qm 6 40),qN (.set 7 (.mov (.c (.i .i64 0))))]) .ret)))⟩
def cd26:AFn:=⟨126,[.tmp 2],.seq (.reg [qN (.set 2 (.mov (.c (.i .i64 0))))]) (.seq (.seq (.reg [qN (qm 13 0),qN (.set 14 (.len (qt 13))),qN (qc 15 .gtr 14 16)]) (.cond (qt 15) (.seq (.reg [qN (.set 2 (.mov (.c (.i .i64 8))))]) .ret) .skip)) (.seq (.reg [qN (.alloc 3 [(100,.b false)])]) (.seq (.seq (.reg [qN (qm 16 0),qN (.set 17 (.len (qt 16))),qN (.set 18 (.mov (.c (.i .i64 0))))]) (.block 0 (.loop (.seq (.reg [qN (qb 19 .lss 18 17)]) (.seq (.cond (qt 19) .skip (.exit 0)) (.seq (.block 1 (.seq (.reg [qN (qm 20 18),qN (qi 21 16 18 3),qN (.set 22 (.load (some 3) (qt 21))),qN (.alloc 5 [(1,.i .i64 0),(1,.i .i64 0),(1,.s0 2)]),qN (qm 4 20),qN (.store 3 (qt 5) (qt 22))]) (.seq (.seq (.regd 0 [qN (qf 23 5 0),qN (ql 24 23),qN (.calle (some 25) 50 [qt 24]),qN (.set 26 (.not (qt 25))),qN (qm 27 26),qF 27 (.set 28 (.load (some 3) (qt 5))),qF 27 (.calle (some 29) 41 [qt 28]),qF 27 (.set 30 (.not (qt 29))),qN (qv 31 27 30 true),qN (qm 32 31),qF 32 (qm 33 4),qF 32 (qc 34 .gtr 33 0),qF 32 (qm 35 34),qT 35 (qm 36 0),qT 35 (qm 37 4),qT 35 (qc 38 .sub 37 1),qT 35 (qi 39 36 38 3),qT 35 (qf 40 39 0),qT 35 (ql 41 40),qT 35 (qf 42 5 0),qT 35 (ql 43 42),qT 35 (qb 44 .geq 41 43),qF 32 (qp 45 35 44 false),qN (qv 46 32 45 true),qN (qm 47 46),qF 47 (qf 48 5 1),qF 47 (ql 49 48),qF 47 (.set 50 (.iadr (qt 3) (qt 49) 1 (some 100))),qF 47 (ql 51 50),qN (qv 52 47 51 true)]) (.cond (qt 52) (.seq (.reg [qN (.set 2 (.mov (.c (.i .i64 8))))]) .ret) .skip)) (.reg [qN (qf 53 5 1),qN (ql 54 53),qN (qf 55 5 1),qN (ql 56 55),qN (qc 57 .gtr 56 0),qN (.set 58 (.iadr (qt 3) (qt 54) 1 (some 100))),qN (.store 1 (qt 58) (qt 57))])))) (.reg [qN (qc 59 .add 18 1),qN (qm 18 59)]))))))) (.seq (.seq (.reg [qN (qm 60 0),qN (.set 61 (.len (qt 60))),qN (.set 62 (.mov (.c (.i .i64 0))))]) (.block 2 (.loop (.seq (.reg [qN (qb 63 .lss 62 61)]) (.seq (.cond (qt 63) .skip (.exit 2)) (.seq (.block 3 (.seq (.reg [qN (qi 64 60 62 3),qN (.set 65 (.load (some 3) (qt 64))),qN (.alloc 7 [(1,.i .i64 0),(1,.i .i64 0),(1,.s0 2)]),qN (.store 3 (qt 7) (qt 65))]) (.seq (.reg [qN (qf 66 7 2),qN (ql 67 66),qN (.set 68 (.len (qt 67))),qN (.set 69 (.mov (.c (.i .i64 0))))]) (.block 4 (.loop (.seq (.reg [qN (qb 70 .lss 69 68)]) (.seq (.cond (qt 70) .skip (.exit 4)) (.seq (.block 5 (.seq (.reg [qN (qm 71 69),qN (qi 72 67 69 2),qN (.set 73 (.load (some 2) (qt 72))),qN (.alloc 9 [(1,.i .i64 0),(1,.i .i64 0)]),qN (qm 8 71),qN (.store 2 (qt 9) (qt 73))]) (.seq (.seq (.reg [qN (.set 74 (.load (some 2) (qt 9))),qN (.set 75 (.build [(1,.i .i64 0),(1,.i .i64 0)] [])),qN (.set 76 (.bin .eql (.flat [true,true]) (qt 74) (qt 75)))]) (.cond (qt 76) (.exit 5) .skip)) (.seq (.reg [qN (qf 77 7 0),qN (ql 78 77),qN (qm 79 8),qN (.set 80 (.build [(1,.i .i64 0),(1,.i .i64 0)] [(0,(1,qt 78)),(1,(1,qt 79))])),qN (.alloc 10 [(1,.i .i64 0),(1,.i .i64 0)]),qN (.store 2 (qt 10) (qt 80))]) (.seq (.reg [qN (qm 82 0),qN (qf 83 9 0),qN (ql 84 83),qN (.call (some 85) 46 [qt 82,qt 84]),qN (qm 81 85),qN (.set 86 (.ext (qt 81) 0)),qN (.set 87 (.ext (qt 81) 1)),qN (qm 11 86),qN (qm 12 87)]) (.seq (.regd 0 [qN (qm 88 12),qN (.set 89 (.not (qt 88))),qN (qm 90 89),qF 90 (.set 91 (.load (some 2) (qt 9))),qF 90 (.set 92 (.load (some 2) (qt 10))),qF 90 (.set 93 (.bin .eql (.flat [true,true]) (qt 91) (qt 92))),qN (qv 94 90 93 true),qN (qm 95 94),qF 95 (qf 96 9 1),qF 95 (ql 97 96),qF 95 (qc 98 .lss 97 0),qN (qv 99 95 98 true),qN (qm 100 99),qF 100 (qf 101 9 1),qF 100 (ql 102 101),qF 100 (qm 103 0),qF 100 (qm 104 11),qF 100 (qi 105 103 104 3),qF 100 (qf 106 105 2),qF 100 (ql 107 106),qF 100 (.set 108 (.len (qt 107))),qF 100 (qb 109 .geq 102 108),qN (qv 110 100 109 true),qN (qm 111 110),qF 111 (qm 112 0),qF 111 (qm 113 11),qF 111 (qi 114 112 113 3),qF 111 (qf 115 114 2),qF 111 (ql 116 115),qF 111 (qf 117 9 1),qF 111 (ql 118 117),qF 111 (qi 119 116 118 2),qF 111 (.set 120 (.load (some 2) (qt 119))),qF 111 (.set 121 (.load (some 2) (qt 10))),qF 111 (.set 122 (.bin .neq (.flat [true,true]) (qt 120) (qt 121))),qN (qv 123 111 122 true)]) (.cond (qt 123) (.seq (.reg [qN (.set 2 (.mov (.c (.i .i64 8))))]) .ret) .skip))))))) (.reg [qN (qc 124 .add 69 1),qN (qm 69 124)]))))))))) (.reg [qN (qc 125 .add 62 1),qN (qm 62 125)]))))))) (.seq (.reg [qN (.set 2 (.mov (.c (.i .i64 0))))]) .ret)))))⟩
def cd31:AFn:=⟨8,[.tmp 2],.seq (.reg [qN (.set 2 (.mov (.c (.s0 2))))]) (.seq (.seq (.reg [qN (qm 3 0),qN (.isnil 4 false (qt 3))]) (.cond (qt 4) (.seq (.reg [qN (.set 2 (.mov (.c (.s0 2))))]) .ret) .skip)) (.seq (.reg [qN (.mks0 5 2),qN (qm 6 0),qN (.app 7 (qt 5) (qt 6) 2),qN (qm 2 7)]) .ret))⟩
def cd32:AFn:=⟨8,[.tmp 2],.seq (.reg [qN (.set 2 (.mov (.c (.s0 3))))]) (.seq (.seq (.reg [qN (qm 3 0),qN (.isnil 4 false (qt 3))]) (.cond (qt 4) (.seq (.reg [qN (.set 2 (.mov (.c (.s0 3))))]) .ret) .skip)) (.seq (.reg [qN (.mks0 5 3),qN (qm 6 0),qN (.app 7 (qt 5) (qt 6) 3),qN (qm 2 7)]) .ret))⟩
def cd33:AFn:=⟨8,[.tmp 2],.seq (.reg [qN (.set 2 (.mov (.c (.s0 4))))]) (.seq (.seq (.reg [qN (qm 3 0),qN (.isnil 4 false (qt 3))]) (.cond (qt 4) (.seq (.reg [qN (.set 2 (.mov (.c (.s0 4))))]) .ret) .skip)) (.seq (.reg [qN (.mks0 5 4),qN (qm 6 0),qN (.app 7 (qt 5) (qt 6) 4),qN (qm 2 7)]) .ret))⟩
def cd34:AFn:=⟨26,[.tmp 4],.seq (.reg [qN (.set 4 (.mov (.c (.b false))))]) (.seq (.seq (.reg [qN (qm 6 0),qN (.set 7 (.len (qt 6))),qN (qm 8 1),qN (.set 9 (.len (qt 8))),qN (qb 10 .neq 7 9)]) (.cond (qt 10) (.seq (.reg [qN (.set 4 (.mov (.c (.b false))))]) .ret) .skip)) (.seq (.seq (.reg [qN (qm 11 0),qN (.set 12 (.len (qt 11))),qN (.set 13 (.mov (.c (.i .i64 0))))]) (.block 0 (.loop (.seq (.reg [qN (qb 14 .lss 13 12)]) (.seq (.cond (qt 14) .skip (.exit 0)) (.seq (.block 1 (.seq (.reg [qN (qm 15 13),qN (qm 5 15)]) (.seq (.regd 0 [qN (qm 16 0),qN (qm 17 5),qN (qi 18 16 17 2),qN (.set 19 (.load (some 2) (qt 18))),qN (qm 20 1),qN (qm 21 5),qN (qi 22 20 21 2),qN (.set 23 (.load (some 2) (qt 22))),qN (.set 24 (.bin .neq (.flat [true,true]) (qt 19) (qt 23)))]) (.cond (qt 24) (.seq (.reg [qN (.set 4 (.mov (.c (.b false))))]) .ret) .skip)))) (.reg [qN (qc 25 .add 13 1),qN (qm 13 25)]))))))) (.seq (.reg [qN (.set 4 (.mov (.c (.b true))))]) .ret)))⟩
def cd35:AFn:=⟨26,[.tmp 4],.seq (.reg [qN (.set 4 (.mov (.c (.b false))))]) (.seq (.seq (.reg [qN (qm 6 0),qN (.set 7 (.len (qt 6))),qN (qm 8 1),qN (.set 9 (.len (qt 8))),qN (qb 10 .neq 7 9)]) (.cond (qt 10) (.seq (.reg [qN (.set 4 (.mov (.c (.b false))))]) .ret) .skip)) (.seq (.seq (.reg [qN (qm 11 0),qN (.set 12 (.len (qt 11))),qN (.set 13 (.mov (.c (.i .i64 0))))]) (.block 0 (.loop (.seq (.reg [qN (qb 14 .lss 13 12)]) (.seq (.cond (qt 14) .skip (.exit 0)) (.seq (.block 1 (.seq (.reg [qN (qm 15 13),qN (qm 5 15)]) (.seq (.regd 0 [qN (qm 16 0),qN (qm 17 5),qN (qi 18 16 17 3),qN (.set 19 (.load (some 3) (qt 18))),qN (qm 20 1),qN (qm 21 5),qN (qi 22 20 21 3),qN (.set 23 (.load (some 3) (qt 22))),qN (.set 24 (.bin .neq (.flat [true,true,true]) (qt 19) (qt 23)))]) (.cond (qt 24) (.seq (.reg [qN (.set 4 (.mov (.c (.b false))))]) .ret) .skip)))) (.reg [qN (qc 25 .add 13 1),qN (qm 13 25)]))))))) (.seq (.reg [qN (.set 4 (.mov (.c (.b true))))]) .ret)))⟩
def cd36:AFn:=⟨26,[.tmp 4],.seq (.reg [qN (.set 4 (.mov (.c (.b false))))]) (.seq (.seq (.reg [qN (qm 6 0),qN (.set 7 (.len (qt 6))),qN (qm 8 1),qN (.set 9 (.len (qt 8))),qN (qb 10 .neq 7 9)]) (.cond (qt 10) (.seq (.reg [qN (.set 4 (.mov (.c (.b false))))]) .ret) .skip)) (.seq (.seq (.reg [qN (qm 11 0),qN (.set 12 (.len (qt 11))),qN (.set 13 (.mov (.c (.i .i64 0))))]) (.block 0 (.loop (.seq (.reg [qN (qb 14 .lss 13 12)]) (.seq (.cond (qt 14) .skip (.exit 0)) (.seq (.block 1 (.seq (.reg [qN (qm 15 13),qN (qm 5 15)]) (.seq (.regd 0 [qN (qm 16 0),qN (qm 17 5),qN (qi 18 16 17 4),qN (.set 19 (.load (some 4) (qt 18))),qN (qm 20 1),qN (qm 21 5),qN (qi 22 20 21 4),qN (.set 23 (.load (some 4) (qt 22))),qN (.set 24 (.bin .neq (.flat [true,true,true,true]) (qt 19) (qt 23)))]) (.cond (qt 24) (.seq (.reg [qN (.set 4 (.mov (.c (.b false))))]) .ret) .skip)))) (.reg [qN (qc 25 .add 13 1),qN (qm 13 25)]))))))) (.seq (.reg [qN (.set 4 (.mov (.c (.b true))))]) .ret)))⟩
def cd41:AFn:=⟨23,[.tmp 2],.seq (.reg [qN (.box 1 3 (qt 0)),qN (.set 2 (.mov (.c (.b false))))]) (.seq (.reg [qN (qf 3 1 1),qN (ql 4 3),qN (qc 5 .eql 4 0),qN (qm 6 5),qT 6 (qf 7 1 2),qT 6 (ql 8 7),qT 6 (.set 9 (.len (qt 8))),qT 6 (qc 10 .eql 9 2),qN (qp 11 6 10 false),qN (qm 12 11),qF 12 (qf 13 1 1),qF 12 (ql 14 13),qF 12 (.call (some 15) 50 [qt 14]),qF 12 (qm 16 15),qT 16 (qf 17 1 2),qT 16 (ql 18 17),qT 16 (.set 19 (.len (qt 18))),qT 16 (qc 20 .eql 19 3),qF 12 (qp 21 16 20 false),qN (qv 22 12 21 true),qN (qm 2 22)]) .ret)⟩
def cd42:AFn:=⟨13,[.cell 2 (some 9)],.seq (.reg [qN (.box 1 3 (qt 0)),qN (.alloc 2 [(3,.i .i64 0),(3,.i .i64 0),(3,.i .i64 0)])]) (.seq (.seq (.reg [qN (qf 3 1 1),qN (ql 4 3),qN (qc 5 .eql 4 0)]) (.cond (qt 5) (.seq (.reg [qN (.set 6 (.build [(3,.i .i64 0)] [(0,(1,.c (.i .i64 0))),(1,(1,.c (.i .i64 3)))])),qN (.set 7 (.build [(3,.i .i64 0)] [(0,(1,.c (.i .i64 3)))])),qN (.set 8 (.build [(3,.i .i64 0),(3,.i .i64 0),(3,.i .i64 0)] [(0,(3,qt 6)),(3,(3,qt 7))])),qN (.store 9 (qt 2) (qt 8))]) .ret) .skip)) (.seq (.reg [qN (.set 9 (.build [(3,.i .i64 0)] [(0,(1,.c (.i .i64 0))),(1,(1,.c (.i .i64 1))),(2,(1,.c (.i .i64 2)))])),qN (.set 10 (.build [(3,.i .i64 0)] [(0,(1,.c (.i .i64 1)))])),qN (.set 11 (.build [(3,.i .i64 0)] [(0,(1,.c (.i .i64 2)))])),qN (.set 12 (.build [(3,.i .i64 0),(3,.i .i64 0),(3,.i .i64 0)] [(0,(3,qt 9)),(3,(3,qt 10)),(6,(3,qt 11))])),qN (.store 9 (qt 2) (qt 12))]) .ret))⟩
def cd46:AFn:=⟨11,[.tmp 4,.tmp 5],.seq (.reg [qN (.set 4 (.mov (.c (.i .i64 0)))),qN (.set 5 (.mov (.c (.b false))))]) (.seq (.reg [qN (qm 6 0),qN (qm 7 1),qN (.call (some 8) 51 [qt 6,qt 7,.c (.fn 52 [])]),qN (.set 9 (.ext (qt 8) 0)),qN (.set 10 (.ext (qt 8) 1)),qN (qm 4 9),qN (qm 5 10)]) .ret)⟩
def cd50:AFn:=⟨9,[.tmp 2],.seq (.reg [qN (.set 2 (.mov (.c (.b false))))]) (.seq (.reg [qN (qm 3 0),qN (qc 4 .geq 3 1),qN (qm 5 4),qT 5 (qm 6 0),qT 5 (qc 7 .leq 6 99),qN (qp 8 5 7 false),qN (qm 2 8)]) .ret)⟩
def cd51:AFn:=⟨49,[.tmp 6,.tmp 7],.seq (.reg [qN (.set 6 (.mov (.c (.i .i64 0)))),qN (.set 7 (.mov (.c (.b false))))]) (.seq (.reg [qN (qm 12 0),qN (.set 13 (.len (qt 12))),qN (qm 8 13)]) (.seq (.reg [qN (qm 14 8),qN (.set 9 (.mov (.c (.i .i64 0)))),qN (qm 10 14)]) (.seq (.block 0 (.loop (.seq (.seq (.reg [qN (qm 15 9),qN (qm 16 10),qN (qb 17 .lss 15 16)]) (.cond (qt 17) .skip (.exit 0))) (.block 1 (.seq (.reg [qN (qm 18 9),qN (qm 19 10),qN (qb 20 .add 18 19),qN (.set 21 (.conv .u64 (qt 20))),qN (.set 22 (.bin .shr .num (qt 21) (.c (.i .u64 1)))),qN (.set 23 (.conv .i64 (qt 22))),qN (qm 11 23)]) (.seq (.reg [qN (qm 24 2),qN (qm 25 0),qN (qm 26 11),qN (qi 27 25 26 3),qN (.set 28 (.load (some 3) (qt 27))),qN (qm 29 1),qN (.calv (some 30) (qt 24) [qt 28,qt 29]),qN (qc 31 .lss 30 0)]) (.cond (qt 31) (.reg [qN (qm 32 11),qN (qc 33 .add 32 1),qN (qm 9 33)]) (.reg [qN (qm 34 11),qN (qm 10 34)])))))))) (.seq (.reg [qN (qm 35 9),qN (qm 36 9),qN (qm 37 8),qN (qb 38 .lss 36 37),qN (qm 39 38),qT 39 (qm 40 2),qT 39 (qm 41 0),qT 39 (qm 42 9),qT 39 (qi 43 41 42 3),qT 39 (.set 44 (.load (some 3) (qt 43))),qT 39 (qm 45 1),qT 39 (.calv (some 46) (qt 40) [qt 44,qt 45]),qT 39 (qc 47 .eql 46 0),qN (qp 48 39 47 false),qN (qm 6 35),qN (qm 7 48)]) .ret))))⟩
def cd52:AFn:=⟨9,[.tmp 4],.seq (.reg [qN (.box 2 3 (qt 0)),qN (.set 4 (.mov (.c (.i .i64 0))))]) (.seq (.reg [qN (qf 5 2 0),qN (ql 6 5),qN (qm 7 1),qN (.call (some 8) 53 [qt 6,qt 7]),qN (qm 4 8)]) .ret)⟩
def cd53:AFn:=⟨20,[.tmp 4],.seq (.reg [qN (.set 4 (.mov (.c (.i .i64 0))))]) (.seq (.reg [qN (qm 7 0),qN (.call (some 8) 55 [qt 7]),qN (qm 5 8)]) (.seq (.reg [qN (qm 9 1),qN (.call (some 10) 55 [qt 9]),qN (qm 6 10)]) (.seq (.seq (.reg [qN (qm 11 5)]) (.cond (qt 11) (.seq (.seq (.reg [qN (qm 12 6)]) (.cond (qt 12) (.seq (.reg [qN (.set 4 (.mov (.c (.i .i64 0))))]) .ret) .skip)) (.seq (.reg [qN (.set 4 (.mov (.c (.i .i64 (-1)))))]) .ret)) .skip)) (.seq (.seq (.reg [qN (qm 13 6)]) (.cond (qt 13) (.seq (.reg [qN (.set 4 (.mov (.c (.i .i64 1))))]) .ret) .skip)) (.seq (.seq (.reg [qN (qm 14 0),qN (qm 15 1),qN (qb 16 .lss 14 15)]) (.cond (qt 16) (.seq (.reg [qN (.set 4 (.mov (.c (.i .i64 (-1)))))]) .ret) .skip)) (.seq (.seq (.reg [qN (qm 17 0),qN (qm 18 1),qN (qb 19 .gtr 17 18)]) (.cond (qt 19) (.seq (.reg [qN (.set 4 (.mov (.c (.i .i64 1))))]) .ret) .skip)) (.seq (.reg [qN (.set 4 (.mov (.c (.i .i64 0))))]) .ret)))))))⟩
def cd55:AFn:=⟨6,[.tmp 2],.seq (.reg [qN (.set 2 (.mov (.c (.b false))))]) (.seq (.reg [qN (qm 3 0),qN (qm 4 0),qN (qb 5 .neq 3 4),qN (qm 2 5)]) .ret)⟩
end Go.Eng
