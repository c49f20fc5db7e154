/-
  A part of the engine that walks the functions' codes, and of the functions' contracts. Conditions: those that each theorem names.
-/
import Derived.Test.YtibpmipffibbpaaGreatL6
import Derived.IntWalk
set_option linter.unusedSimpArgs false
set_option linter.unusedVariables false
set_option linter.unusedSectionVars false
namespace Go.Lev
open Go.Eng
section
variable {p:Pln} (hs:zb6 p.sections=true) (hg:SgsP p) {r:Rte} (hr:RteP p r)
include hs hg hr
theorem zkh {all:List Int} (hall:all=r.path++r.over) {i:Nat} (hi:i<all.length) (hst:¬(i+1=all.length∧0<r.over.length)) (w:Wk) (hw:w.lost=false) (hj:w.inn.to=nth all i) :
  zd6 p r (sig p r.exit) all i (nth all i) w=match outW p r all i (zdf p (nth all i)) w.inn.ed with
   |none=>{ w with lost:=true }
   |some v=>⟨v.2.1,ziA (zdf p (nth all i)).pt v.2.2 i w.asks,w.outs++[⟨nth all i,v.1⟩],false⟩:=by
 have hsec:=(hr.secs (nth all i) (by rw[←hall];exact zab hi)).1
 obtain ⟨hm,hid,hf⟩:=ze0 hs hsec
 have hlen:=hr.lens
 have hal:all.length=r.path.length+r.over.length:=by rw[hall,List.length_append]
 have key:∀ R:Int→Join→Bool,(∀ k,k<(zdf p (nth all i)).ends.length→R ((0+k:Nat):Int) (nth (zdf p (nth all i)).ends k)=zlx p r all i (zdf p (nth all i)) ((0+k:Nat):Int) (nth (zdf p (nth all i)).ends k)) →
   zaz p w (nth all i) i R=match outW p r all i (zdf p (nth all i)) w.inn.ed with
    |none=>{ w with lost:=true }
    |some v=>⟨v.2.1,ziA (zdf p (nth all i)).pt v.2.2 i w.asks,w.outs++[⟨nth all i,v.1⟩],false⟩:=by
  intro R hR
  unfold zaz outW zgQ
  rw[if_neg (by rw[hw];simp),if_pos hj,hf,←zfw _ _ hR]
  dsimp only
  cases zaQ (zdf p (nth all i)) w.inn.ed R 0 (zdf p (nth all i)).ends with
  |none=>rfl
  |some v=>rfl
 unfold zd6
 by_cases h1:(i:Int)=(r.path.length:Int)-1
 ·by_cases h2:r.exit=0
  ·rw[if_pos ⟨h1,h2⟩]
   refine key _ fun k hk=>?_
   unfold zlx
   rw[if_pos h1,decide_eq_true h2,Bool.not_true,Bool.false_and,Bool.or_false,Bool.true_and,Bool.eq_iff_iff,decide_eq_true_eq,decide_eq_true_eq]
   exact (join_0 hs hm hk).symm
  ·rw[if_neg (fun h=>h2 h.2),if_pos h1]
   refine key _ fun k hk=>?_
   unfold zlx
   rw[if_pos h1,decide_eq_false h2,Bool.false_and,Bool.false_or,Bool.not_false,Bool.true_and,hid,Bool.eq_iff_iff,Bool.and_eq_true,decide_eq_true_eq,decide_eq_true_eq,decide_eq_true_eq,zmQ hg h2]
   obtain ⟨x,hx,ex⟩:=(hr.ex h2).1
   have hsx:sig p r.exit=x:=by rw[←ex];exact zmM hg hx
   rw[hsx]
   constructor
   ·rintro ⟨e1,e2⟩;exact ⟨x,hx,ex,e1.symm,e2.symm⟩
   ·rintro ⟨y,hy,e1,e2,e3⟩
    have:x=y:=by rw[←zmM hg hx,←zmM hg hy,ex,e1]
    subst this
    exact ⟨e2.symm,e3.symm⟩
 ·have h3:¬(i:Int)=(all.length:Int)-1:=fun h=>by
   rcases Nat.eq_zero_or_pos r.over.length with h0|h0
   ·omega
   ·exact hst ⟨by omega,h0⟩
  rw[if_neg (fun h=>h1 h.1),if_neg h1,if_neg h3]
  refine key _ fun k hk=>?_
  unfold zlx
  rw[if_neg h1]
theorem ziY {all:List Int} (hall:all=r.path++r.over):∀ (l:List Int) (i:Nat) (j:Join) (asks:List AskR) (outs:List Join) (I O:List Int),all.drop i=l→i≤all.length →
  match zgX p r all i j I O l with
  |none=>(zbD p r (sig p r.exit) all i ⟨j,asks,outs,false⟩ l).lost=true
  |some v=>(zbD p r (sig p r.exit) all i ⟨j,asks,outs,false⟩ l).lost=false∧∃ I' O':List Int,v=(I++I',O++O')∧I'.length=l.length∧O'.length=l.length ∧
    (zbD p r (sig p r.exit) all i ⟨j,asks,outs,false⟩ l).asks=asks++zhW p i l I' O'∧(zbD p r (sig p r.exit) all i ⟨j,asks,outs,false⟩ l).outs=outs++outG l O'
 |[],i,j,asks,outs,I,O,_,_=>⟨rfl,[],[],by simp,rfl,rfl,by simp[zbD,zhW],by simp[zbD,outG]⟩
 |n::l,i,j,asks,outs,I,O,hd,hi=>by
  have hil:i<all.length:=by
   rcases Nat.lt_or_ge i all.length with h|h
   ·exact h
   ·rw[List.drop_eq_nil_of_le h]at hd;cases hd
  have hn:nth all i=n∧all.drop (i+1)=l:=by
   rw[zae hil]at hd
   simp only[List.cons.injEq]at hd
   exact hd
  obtain ⟨hn1,hn2⟩:=hn
  have hsec:=(hr.secs n (by rw[←hall,←hn1];exact zab hil)).1
  obtain ⟨hm,hid,hf⟩:=ze0 hs hsec
  have hpt:0≤(zdf p n).pt:=(zbf hs _ hm).2.2.1
  have hsh:=zkp hs hm
  rw[zgX,zbD]
  by_cases hj:j.to=n
  ·rw[if_pos hj]
   by_cases hst:i+1=all.length∧0<r.over.length
   ·rw[if_pos hst]
    have hl:l=[]:=by rw[←hn2];exact List.drop_eq_nil_of_le (by omega)
    subst hl
    have hal:all.length=r.path.length+r.over.length:=by rw[hall,List.length_append]
    have hW:zd6 p r (sig p r.exit) all i n ⟨j,asks,outs,false⟩=⟨j,ziA (zdf p n).pt (if 0<j.ed then j.ed else 0) i asks,outs,false⟩:=by
     unfold zd6
     rw[if_neg (by omega),if_neg (by omega),if_pos (by omega)]
     unfold zdV zgQ
     rw[if_pos hj,hf]
     dsimp only
     by_cases h0:0<j.ed
     ·rw[if_pos ⟨rfl,h0⟩,if_pos h0]
     ·rw[if_neg (fun h=>h0 h.2),if_neg h0]
      unfold ziA
      rw[if_neg (by omega)]
    rw[hW,zbD]
    refine ⟨rfl,[j.ed],[-1],rfl,rfl,rfl, ?_, ?_⟩
    ·dsimp only
     rw[show zhW p i [n] [j.ed] [-1]=zqy p i n j.ed (-1) by simp[zhW]]
     unfold ziA zqy
     rw[if_neg (show ¬(0:Int)≤-1 by decide)]
     by_cases h0:0<j.ed
     ·rw[if_pos h0,if_pos h0]
      by_cases h1:(zdf p n).pt=0
      ·rw[if_neg (by omega),if_pos h1];simp
      ·rw[if_pos ⟨by omega,h0⟩,if_neg h1]
     ·rw[if_neg h0,if_neg h0,if_neg (by omega)]
      simp
    ·rw[show outG [n] [-1]=[] by simp[outG]];simp
   ·rw[if_neg hst]
    have hT:=zkh hs hg hr hall hil hst ⟨j,asks,outs,false⟩ rfl (by rw[hn1];exact hj)
    rw[hn1]at hT
    rw[hT]
    dsimp only
    cases ho:outW p r all i (zdf p n) j.ed with
    |none=>exact zeY l _ _ rfl
    |some v =>
     dsimp only
     have hpe:=zey (zdf p n).ends 0 ho
     have ih:=ziY hall l (i+1) v.2.1 (ziA (zdf p n).pt v.2.2 i asks) (outs++[⟨n,v.1⟩]) (I++[j.ed]) (O++[(v.1:Int)]) hn2 hil
     cases he:zgX p r all (i+1) v.2.1 (I++[j.ed]) (O++[(v.1:Int)]) l with
     |none=>rw[he]at ih;exact ih
     |some u =>
      rw[he]at ih
      obtain ⟨h1,I',O',h2,h3,h4,h5,h6⟩:=ih
      refine ⟨h1,j.ed::I',(v.1:Int)::O',by rw[h2];simp,by simp[h3],by simp[h4], ?_, ?_⟩
      ·rw[h5,zhW]
       have hlie:v.2.2=zhG (zdf p n) j.ed v.1∧0≤zhG (zdf p n) j.ed v.1:=by
        have h7:=hpe.2.2.2.1
        have h8:=hpe.2.2.2.2
        unfold za8 at h7 h8
        rw[if_pos hsh]at h7 h8
        split at h7
        ·cases h7
        ·rename_i h9
         rw[if_neg h9]at h8
         exact ⟨h8,by omega⟩
       rw[←List.append_assoc]
       congr 1
       unfold ziA zqy
       rw[if_pos (show (0:Int)≤(v.1:Int) by omega),hlie.1]
       by_cases h1:(zdf p n).pt=0
       ·rw[if_neg (by omega),if_pos h1];simp
       ·rw[if_neg h1]
        by_cases h0:0<zhG (zdf p n) j.ed v.1
        ·rw[if_pos ⟨by omega,h0⟩,if_pos h0]
        ·rw[if_neg (by omega),if_neg h0];simp
      ·rw[h6,outG,if_pos (show (0:Int)≤(v.1:Int) by omega)]
       simp
  ·rw[if_neg hj]
   refine zeY l _ _ ?_
   have h0:zgQ p ⟨j,asks,outs,false⟩ n=none:=by
    unfold zgQ
    rw[if_neg hj]
   unfold zd6
   repeat' split
   all_goals first
    |(unfold zaz;rw[if_neg (by simp),h0])
    |(unfold zdV;rw[h0])
end
end Go.Lev
namespace Go.Lev
open Go.Eng
theorem zfv {s:Section} {f:Int} {R:Int→Join→Bool}:∀ (l:List Join) (e:Nat) {v:Nat×Join×Int},zaQ s f R e l=some v→R v.1 v.2.1=true
 |[],_,v,h=>by simp[zaQ]at h
 |j::r,e,v,h=>by
  rw[zaQ]at h
  split at h
  ·rename_i h1
   simp only[Option.some.injEq]at h
   subst h
   exact h1.2
  ·exact zfv r (e+1) h
def EndOk (p:Pln) (r:Rte) (all:List Int) (k:Nat) (b:Int):Prop :=
 (0≤b∧zlx p r all k (zdf p (nth all k)) b (nth (zdf p (nth all k)).ends b.toNat)=true)∨(b=-1∧k+1=all.length∧0<r.over.length)
theorem zj5 {p:Pln} {r:Rte} {all:List Int}:∀ (l:List Int) (i:Nat) (j:Join) (I O:List Int) (v:List Int×List Int),all.drop i=l→zgX p r all i j I O l=some v →
  ∃ O':List Int,v.2=O++O'∧O'.length=l.length∧∀ k,k<O'.length→EndOk p r all (i+k) (nth O' k)
 |[],i,j,I,O,v,_,h=>by
  rw[zgX]at h
  simp only[Option.some.injEq]at h
  subst h
  exact ⟨[],by simp,rfl,fun k hk=>by simp at hk⟩
 |n::l,i,j,I,O,v,hd,h=>by
  have hil:i<all.length:=by
   rcases Nat.lt_or_ge i all.length with h1|h1
   ·exact h1
   ·rw[List.drop_eq_nil_of_le h1]at hd;cases hd
  have hn:nth all i=n∧all.drop (i+1)=l:=by
   rw[zae hil]at hd
   simp only[List.cons.injEq]at hd
   exact hd
  obtain ⟨hn1,hn2⟩:=hn
  rw[zgX]at h
  split at h
  ·split at h
   ·rename_i hst
    simp only[Option.some.injEq]at h
    subst h
    have hl:l=[]:=by rw[←hn2];exact List.drop_eq_nil_of_le (by omega)
    subst hl
    refine ⟨[-1],rfl,rfl,fun k hk=>.inr ?_⟩
    have:k=0:=by simpa using hk
    subst this
    exact ⟨rfl,hst.1,hst.2⟩
   ·split at h
    ·cases h
    ·rename_i u hu
     obtain ⟨O',h1,h2,h3⟩:=zj5 l (i+1) _ _ _ v hn2 h
     refine ⟨(u.1:Int)::O',by rw[h1];simp,by simp[h2],fun k hk=>?_⟩
     match k with
     |0 =>
      have h4:=zfv _ _ hu
      have h5:=zey _ _ hu
      refine .inl ⟨by show (0:Int)≤(u.1:Int);omega, ?_⟩
      rw[Nat.add_zero,hn1]
      show zlx p r all i (zdf p n) (u.1:Int) (nth (zdf p n).ends ((u.1:Int)).toNat)=true
      rw[Int.toNat_natCast]
      rw[Nat.sub_zero]at h5
      rw[←h5.2.2.1]
      exact h4
     |k+1 =>
      have:=h3 k (by simpa using hk)
      rw[show i+(k+1)=i+1+k by omega]
      exact this
  ·cases h
def ziX (p:Pln) (r:Rte):Join:=nth (zdf p (nth p.signals (zaZ (fun x=>decide (Sgn.id x=r.entry)) 0 p.signals).toNat).sec).ends (nth p.signals (zaZ (fun x=>decide (Sgn.id x=r.entry)) 0 p.signals).toNat).ed.toNat
def ziw (p:Pln) (r:Rte):Option (List Int×List Int):=zgX p r (r.path++r.over) 0 (ziX p r) [] [] (r.path++r.over)
theorem zk0:∀ (f:List Flk) (l:List AskR),(∀ x∈f,0<x.pnt∧0<x.lie)→zgg l f=l++f.map fun x=>⟨x.pnt,x.lie,-1⟩
 |[],l,_=>by simp[zgg]
 |x::f,l,h=>by
  rw[zgg,zk0 f _ fun y hy=>h y (by simp[hy])]
  unfold ziA
  rw[if_pos (h x (by simp))]
  simp
def asksV (p:Pln) (r:Rte) (I O:List Int):List AskR:=zhW p 0 (r.path++r.over) I O++r.flanks.map fun x=>⟨x.pnt,x.lie,-1⟩
section
variable {p:Pln} (hs:zb6 p.sections=true) (hg:SgsP p) (hp:PtsP p) {r:Rte} (hr:RteP p r)
include hs hg hr
theorem zfM:∃ k:Nat,k<p.signals.length∧zaZ (fun x=>decide (Sgn.id x=r.entry)) 0 p.signals=(k:Int)∧(nth p.signals k).id=r.entry∧sig p r.entry=nth p.signals k:=by
 rcases zaV Sgn.id r.entry p.signals with ⟨_,h4⟩|⟨k,hk,h4,h5⟩
 ·obtain ⟨x,hx,ex⟩:=hr.ent
  exact absurd ex (h4 x hx)
 ·exact ⟨k,hk,h4,h5,by rw[←h5];exact zmM hg (zab hk)⟩
theorem ziV:ziX p r=ziQ (sig p r.entry) ⟨0,0⟩ p.sections:=by
 obtain ⟨k,hk,h1,h2,h3⟩:=zfM hs hg hr
 obtain ⟨s,hs1,e,_⟩:=hg.sec _ (zab hk)
 have h4:=ze0 hs ⟨s,hs1,e⟩
 unfold ziX
 rw[h1,Int.toNat_natCast,h3]
 exact (zpO (nth p.signals k) p.sections ⟨0,0⟩ (zeB (zkx hs)) _ h4.1 h4.2.1).symm
include hp
theorem zg9:match ziw p r with
  |none=>(zah p r).2.2=90
  |some v=>v.1.length=(r.path++r.over).length∧v.2.length=(r.path++r.over).length∧zah p r=(⟨r.path,r.over,asksV p r v.1 v.2,(sig p r.entry).sec⟩,outG (r.path++r.over) v.2,0):=by
 have h1:=ziY hs hg hr (all:=r.path++r.over) rfl (r.path++r.over) 0 (ziX p r) [] [] [] [] rfl (Nat.zero_le _)
 rw[ziV hs hg hr]at h1
 unfold ziw
 rw[ziV hs hg hr]
 cases he:zgX p r (r.path++r.over) 0 (ziQ (sig p r.entry) ⟨0,0⟩ p.sections) [] [] (r.path++r.over) with
 |none =>
  rw[he]at h1
  dsimp only
  unfold zah zhc
  rw[if_pos h1]
 |some v =>
  rw[he]at h1
  obtain ⟨h2,I',O',h3,h4,h5,h6,h7⟩:=h1
  simp only[List.nil_append]at h3 h6 h7
  subst h3
  dsimp only
  refine ⟨h4,h5, ?_⟩
  have hfl:∀ x∈r.flanks,0<x.pnt∧0<x.lie:=fun x hx=>by
   obtain ⟨i,hi,rfl⟩:=zb2 hx
   obtain ⟨⟨y,hy,ey⟩,_,h8⟩:=hr.flk i hi
   have:=hp.id y hy
   omega
  unfold zah zhc
  rw[if_neg (by rw[h2];simp),h6,h7,zk0 _ _ hfl]
  rfl
end
end Go.Lev
namespace Go.Lev
open Go.Eng
theorem ziZ {p:Pln} {r:Rte}:∀ (m:Nat) (l O:List Int) (i:Nat),m≤l.length→l.length=O.length→(∀ k,k<m→0≤nth O k)→(zfO p r (i:Int) ((outG l O).take m)=true↔∀ k,k<m→p.signals.any (zhl r ((i+k:Nat):Int) ⟨nth l k,nth O k⟩)=false)
 |0,l,O,i,_,_,_=>by simp[zfO]
 |m+1,[],O,i,h,_,_=>by simp at h
 |m+1,n::l,[],i,_,h,_=>by simp at h
 |m+1,n::l,b::O,i,h,hl,h0=>by
  have hb:0≤b:=h0 0 (by omega)
  have ih:=ziZ (p:=p) (r:=r) m l O (i+1) (by simpa using h) (by simpa using hl) fun k hk=>h0 (k+1) (by omega)
  rw[outG,if_pos hb,List.singleton_append,List.take_succ_cons,zfO,Bool.and_eq_true,Bool.not_eq_true']
  have e:((i:Int)+1)=((i+1:Nat):Int):=by omega
  rw[e,ih]
  constructor
  ·rintro ⟨h1,h2⟩ k hk
   match k with
   |0=>exact h1
   |k+1 =>
    have:=h2 k (by omega)
    rw[show i+(k+1)=i+1+k by omega]
    exact this
  ·intro h1
   refine ⟨h1 0 (by omega),fun k hk=>?_⟩
   have:=h1 (k+1) (by omega)
   rw[show i+(k+1)=i+1+k by omega]at this
   exact this
def sndT (p:Pln) (r:Rte) (O:List Int) (i:Nat):Bool:=!decide (znB p (nth r.path i) (nth O i)=0)&&decide ((i:Int)<(r.path.length:Int)-1)||decide ((i:Int)=(r.path.length:Int)-1)&&!decide (znB p (nth r.path i) (nth O i)=r.exit)
def sndF (p:Pln) (r:Rte) (asks:List AskR) (O:List Int):Bool :=
 zaK (fun i _ za9=>zaK (fun k _ next2=>cond (decide ((nth asks k).pnt=(nth asks i).pnt)) false (next2 ())) (fun _=>za9 ()) i 0 ())
  (fun _=>zaK (fun i _ za9=>cond (sndT p r O i) false (za9 ())) (fun _=>true) r.path.length 0 ()) asks.length 0 ()
theorem zkR {l m:List Int} {k:Nat} (h:k<l.length):nth (l++m) k=nth l k:=by
 rw[zaE (by rw[List.length_append];omega),zaE h,List.getElem_append_left h]
section
variable {p:Pln} (h:OkP p) (hs:zb6 p.sections=true) (hg:SgsP p) (hp:PtsP p) {r:Rte} (hrr:r∈p.routes) (hr:RteP p r)
include h hs hg hp hrr hr
theorem sndT_iff {v:List Int×List Int} (hv:ziw p r=some v) {k:Nat} (hk:k<r.path.length):sndT p r v.2 k=false↔p.signals.any (zhl r (k:Int) ⟨nth (r.path++r.over) k,nth v.2 k⟩)=false:=by
 obtain ⟨O',h1,h2,h3⟩:=zj5 (r.path++r.over) 0 _ [] [] v rfl hv
 rw[List.nil_append]at h1
 subst h1
 have hk2:k<v.2.length:=by rw[h2,List.length_append];omega
 have h4:=h3 k hk2
 rw[Nat.zero_add]at h4
 rw[zkR hk]
 have hsec:=(hr.secs (nth r.path k) (List.mem_append.2 (.inl (zab hk)))).1
 obtain ⟨hm,hid,_⟩:=ze0 hs hsec
 have hany:p.signals.any (zhl r (k:Int) ⟨nth r.path k,nth v.2 k⟩)=false↔∀ x∈p.signals,x.sec=nth r.path k→x.ed=nth v.2 k→¬((k:Int)<(r.path.length:Int)-1∨¬x.id=r.exit):=by
  rw[List.any_eq_false]
  refine forall_congr' fun x=>forall_congr' fun _=>?_
  unfold zhl
  simp only[Bool.and_eq_true,Bool.or_eq_true,decide_eq_true_eq,Bool.not_eq_true',decide_eq_false_iff_not]
  constructor
  ·intro h5 h6 h7 h8;exact h5 ⟨h6,h7,h8⟩
  ·rintro h5 ⟨h6,h7,h8⟩;exact h5 h6 h7 h8
 rw[hany]
 unfold sndT
 simp only[Bool.or_eq_false_iff,Bool.and_eq_false_imp,Bool.not_eq_true',decide_eq_false_iff_not,decide_eq_true_eq,Bool.not_eq_false']
 by_cases hl:(k:Int)=(r.path.length:Int)-1
 ·have hrg:0≤nth v.2 k∧zlx p r (r.path++r.over) k (zdf p (nth r.path k)) (nth v.2 k) (nth (zdf p (nth r.path k)).ends (nth v.2 k).toNat)=true:=by
   rcases h4 with h4|h4
   ·rw[zkR hk]at h4;exact h4
   ·have:=h4.2.1
    rw[List.length_append]at this
    omega
  have hrg:=hrg.2
  unfold zlx at hrg
  rw[if_pos hl,hid]at hrg
  simp only[Bool.or_eq_true,Bool.and_eq_true,decide_eq_true_eq,Bool.not_eq_true',decide_eq_false_iff_not]at hrg
  constructor
  ·rintro ⟨_,h6⟩ x hx e1 e2 e3
   have h7:=h6 hl
   have h8:=hg.id x hx
   have h9:=(zmQ hg (n:=x.id) (a:=nth r.path k) (b:=nth v.2 k) (by omega)).2 ⟨x,hx,rfl,e1,e2⟩
   rw[h9]at h7
   omega
  ·intro h5
   refine ⟨fun _=>by omega,fun _=>?_⟩
   rcases hrg with ⟨e0,_⟩|⟨_,e1⟩
   ·rw[e0,zoM hg]
    rintro x hx ⟨e1,e2⟩
    refine h5 x hx e1 e2 (.inr ?_)
    have:=hg.id x hx
    omega
   ·exact e1
 ·constructor
  ·rintro ⟨h6,_⟩ x hx e1 e2 _
   by_cases h0:znB p (nth r.path k) (nth v.2 k)=0
   ·exact (zoM hg).1 h0 x hx ⟨e1,e2⟩
   ·have:=h6 h0
    omega
  ·intro h5
   refine ⟨fun h0=>?_,fun e=>absurd e hl⟩
   exact absurd ((zoM hg).2 fun x hx e=>h5 x hx e.1 e.2 (.inl (by omega))) h0
theorem snd_eq {v:List Int×List Int} (hv:ziw p r=some v):sndF p r (zah p r).1.asks v.2=zbA p r:=by
 have hw:=zg9 hs hg hp hr
 rw[hv]at hw
 obtain ⟨h1,h2,h3⟩:=hw
 have hout:(zah p r).2.1=outG (r.path++r.over) v.2:=by rw[h3]
 obtain ⟨O',h4,h5,h6⟩:=zj5 (r.path++r.over) 0 _ [] [] v rfl hv
 rw[List.nil_append]at h4
 subst h4
 have hpos:∀ k,k<r.path.length→0≤nth v.2 k:=fun k hk=>by
  rcases h6 k (by rw[h5,List.length_append];omega) with h7|h7
  ·exact h7.1
  ·have h8:=h7.2.1
   rw[List.length_append]at h8
   omega
 have hcl:zgk p r (zah p r).2.1=true↔∀ k,k<r.path.length→sndT p r v.2 k=false:=by
  unfold zgk
  rw[hout]
  have:=ziZ (p:=p) (r:=r) r.path.length (r.path++r.over) v.2 0 (by rw[List.length_append];omega) h2.symm hpos
  simp only[Nat.zero_add]at this
  rw[show ((0:Nat):Int)=0 from rfl]at this
  rw[this]
  exact forall_congr' fun k=>forall_congr' fun hk=>(sndT_iff h hs hg hp hrr hr hv hk).symm
 have honce:once (zah p r).1.asks=true↔((zah p r).1.asks.map AskR.pnt).Nodup:=zm3 fun a ha=>by have:=zbG h hrr ha;omega
 generalize hX:zbA p r=X
 have hiff:X=true↔((zah p r).1.asks.map AskR.pnt).Nodup∧∀ k,k<r.path.length→sndT p r v.2 k=false:=by
  rw[←hX]
  unfold zbA
  rw[Bool.and_eq_true,hcl,honce]
 have bad:¬(((zah p r).1.asks.map AskR.pnt).Nodup∧∀ k,k<r.path.length→sndT p r v.2 k=false)→false=X:=fun h=>by
  cases X with
  |false=>rfl
  |true=>exact absurd (hiff.1 rfl) h
 have hnd:((zah p r).1.asks.map AskR.pnt).Nodup↔∀ i,i<(zah p r).1.asks.length→∀ m,m<i→¬(nth (zah p r).1.asks m).pnt=(nth (zah p r).1.asks i).pnt:=by
  rw[List.nodup_iff_pairwise_ne,List.pairwise_map,zfx]
 unfold sndF
 generalize (zah p r).1.asks=asks at *
 refine zaX (·=X) (fun i _=>∀ j,j<i→∀ m,m<j→¬(nth asks m).pnt=(nth asks j).pnt) (fun j hj=>by omega) ?_ ?_
 ·intro i _ za9 hi hI hn
  refine zaX (·=X) (fun m _=>∀ j,j<m→¬(nth asks j).pnt=(nth asks i).pnt) (fun j hj=>by omega) ?_ ?_
  ·intro m _ next2 hm hM hn2
   by_cases e:(nth asks m).pnt=(nth asks i).pnt
   ·rw[decide_eq_true e,cond_true]
    exact bad fun h=>hnd.1 h.1 i hi m hm e
   ·rw[decide_eq_false e,cond_false]
    refine hn2 () fun j hj=>?_
    rcases Nat.lt_or_ge j m with h1|h1
    ·exact hM j h1
    ·obtain rfl:j=m:=by omega
     exact e
  ·intro _ hM
   refine hn () fun j hj=>?_
   rcases Nat.lt_or_ge j i with h1|h1
   ·exact hI j h1
   ·obtain rfl:j=i:=by omega
    exact hM
 ·intro _ hI
  refine zaX (·=X) (fun i _=>∀ j,j<i→sndT p r v.2 j=false) (fun j hj=>by omega) ?_ ?_
  ·intro i _ za9 hi hJ hn
   cases h7:sndT p r v.2 i with
   |true =>
    rw[cond_true]
    exact bad fun h=>by have:=h.2 i hi;rw[h7]at this;cases this
   |false =>
    rw[cond_false]
    refine hn () fun j hj=>?_
    rcases Nat.lt_or_ge j i with h1|h1
    ·exact hJ j h1
    ·obtain rfl:j=i:=by omega
     exact h7
  ·intro _ hJ
   exact (hiff.2 ⟨hnd.2 hI,hJ⟩).symm
end
end Go.Lev
namespace Go.Lev
open Go.Eng
set_option maxRecDepth 10000
set_option maxHeartbeats 4000000
variable {P:Program} {inv:Nat→Option Nat} {w0:World} {M:Nat→Prop}
theorem znP (hH:HasAll P inv) (p:Pln) (hp:Sm p) (h:zb6 p.sections=true):PC P inv 305 [.agg p.c] (·=.b (points p)):=by
 have hl1:=hp.sec
 have hl2:=hp.pts
 obtain ⟨X,hF⟩:∃ X,rpF p=X:=⟨_,rfl⟩
 rw[←rpF_eq h,hF]
 have cA:=fun i=>zlp hH p.sections (nth p.points i).sec (by omega)
 have hb:=fun i=>zkc (nth p.points i).sec p.sections 0
 clear h
 unfold rpF at hF
 refine PC.fn hH cd305 fun w0 M Q hM hE hQ hR=>?_;dsimp only[cd305,qm,ql,qf,qi,qb,qc,qp,qv,qN,qT,qF,qt]at hQ ⊢
 skip
 (repeat' first|refine zaa [0,1,2,3,4,5,6,7,12,21,28,79] fun K hK=>?_|(refine hK.go ?_;clear hK K)|with_reducible exact wT|refine wA ?_|(refine wE (fun h0 h=>?_) (fun h0 h=>?_)<;>first|exact wN h|((try replace hF:=wX hF);clear h0;first|exact hF.elim|((try subst (h:(_:Bool)=_));try replace hF:=wX hF)))|(refine wQ ?_;clear hQ hR hE hM)|fail)
 refine za1 hF fun Bd Ed hBd hEd hF=>?_
 refine zai (ι:=Nat×Int) [1,2,3,4] (fun z=>[(3,.n z.2),(4,.n z.1)]) (fun _=>[]) (fun z=>z.1) (p.sections.length) (fun z=>(zaK Bd Ed (p.sections.length-z.1) z.1 z.2=X)∧(0≤z.2∧z.2≤z.1)) (0,0) ?_;rintro ⟨i,m⟩ ⟨hk,hF,hm⟩;(try dsimp only at hk hF hm ⊢);rcases Nat.lt_or_ge i p.sections.length with hlt|hge
 ·rw[zaJ hBd hlt]at hF;(try dsimp only at hF)
  (repeat' first|refine zaa [0,1,2,3,4,5,6,7,12,21,28,79] fun K hK=>?_|(refine hK.go ?_;clear hK K)|with_reducible exact wT|refine wA ?_|(refine wE (fun h0 h=>?_) (fun h0 h=>?_)<;>first|exact wN h|((try replace hF:=wX hF);clear h0;first|exact hF.elim|((try subst (h:(_:Bool)=_));try replace hF:=wX hF)))|(refine wQ ?_;clear hQ hR hE hM)|fail)
  all_goals first|(exact nY (i+1,m+1) ⟨by (try dsimp only);omega,hF,by (try dsimp only);omega⟩;done)|(exact nY (i+1,m) ⟨by (try dsimp only);omega,hF,by (try dsimp only);omega⟩;done)|trace_state
 ·rw[za0 hge,hEd]at hF;(try dsimp only at hF)
  (repeat' first|refine zaa [0,1,2,3,4,5,6,7,12,21,28,79] fun K hK=>?_|(refine hK.go ?_;clear hK K)|with_reducible exact wT|refine wA ?_|(refine wE (fun h0 h=>?_) (fun h0 h=>?_)<;>first|exact wN h|((try replace hF:=wX hF);clear h0;first|exact hF.elim|((try subst (h:(_:Bool)=_));try replace hF:=wX hF)))|(refine wQ ?_;clear hQ hR hE hM)|fail)
  refine za1 hF fun Bd Ed hBd hEd hF=>?_;refine zai (ι:=Nat) [1,2,3,5] (fun z=>[(5,.n z)]) (fun _=>[]) (fun z=>z) (p.points.length) (fun z=>(zaK Bd Ed (p.points.length-z) z ()=X)) (0) ?_;rintro k ⟨hk,hF⟩;(try dsimp only at hk hF ⊢);rcases Nat.lt_or_ge k p.points.length with hlt|hge
  ·rw[zaJ hBd hlt]at hF;(try dsimp only at hF)
   have c1:=cA k
   have hb1:=hb k
   generalize zdA (nth p.points k).sec 0 p.sections=a at *
   have hk1:((k:Int)-1).toNat=k-1:=by omega
   (have hX:=@hk1;(repeat' first|refine zaa [0,1,2,3,4,5,6,7,12,21,28,79] fun K hK=>?_|(refine hK.go ?_;clear hK K)|with_reducible exact wT|refine wA ?_|(refine wE (fun h0 h=>?_) (fun h0 h=>?_)<;>first|exact wN h|((try replace hF:=wX hF);clear h0;first|exact hF.elim|((try subst (h:(_:Bool)=_));try replace hF:=wX hF)))|(refine wQ ?_;clear hQ hR hE hM)|refine wC c1 ?_|fail);all_goals clear hX)
   all_goals first|exact hF|(exfalso;contradiction)|exact nX (k+1)
  ·rw[za0 hge,hEd]at hF;(try dsimp only at hF)
   (repeat' first|refine zaa [0,1,2,3,4,5,6,7,12,21,28,79] fun K hK=>?_|(refine hK.go ?_;clear hK K)|with_reducible exact wT|refine wA ?_|(refine wE (fun h0 h=>?_) (fun h0 h=>?_)<;>first|exact wN h|((try replace hF:=wX hF);clear h0;first|exact hF.elim|((try subst (h:(_:Bool)=_));try replace hF:=wX hF)))|(refine wQ ?_;clear hQ hR hE hM)|fail)
   all_goals first|exact hF|(exact congrArg AV.b hF)|(rw[←hF];done)|trace_state
theorem zlK (hH:HasAll P inv) (p:Pln) (hp:Sm p) (h:zb6 p.sections=true):PC P inv 306 [.agg p.c] (·=.b (signals p (ends p.sections))):=by
 have hl1:=hp.sec
 have hl2:=hp.sgn
 have hE3:∀ a:Nat,(nth p.sections a).ends.length≤1000000:=fun a=>by
  rcases Nat.lt_or_ge a p.sections.length with h1|h1
  ·have:=(zbf h _ (zab h1)).2.2.2.2
   omega
  ·have:nth p.sections a=default:=by unfold nth;first|rw[getElem!_neg _ _ (by omega)]|simp[h1]|simp[List.getElem?_eq_none h1]
   rw[this]
   decide
 obtain ⟨X,hF⟩:∃ X,rsF p=X:=⟨_,rfl⟩
 rw[←rsF_eq h,hF]
 have cA:=fun i=>zlp hH p.sections (nth p.signals i).sec (by omega)
 have hb:=fun i=>zkc (nth p.signals i).sec p.sections 0
 clear h
 unfold rsF znH at hF
 refine PC.fn hH cd306 fun w0 M Q hM hE hQ hR=>?_;dsimp only[cd306,qm,ql,qf,qi,qb,qc,qp,qv,qN,qT,qF,qt]at hQ ⊢
 skip
 (repeat' first|refine zaa [0,1,2,3,4,5,6,7,12,53,56,82] fun K hK=>?_|(refine hK.go ?_;clear hK K)|with_reducible exact wT|refine wA ?_|(refine wE (fun h0 h=>?_) (fun h0 h=>?_)<;>first|exact wN h|((try replace hF:=wX hF);clear h0;first|exact hF.elim|((try subst (h:(_:Bool)=_));try replace hF:=wX hF)))|(refine wQ ?_;clear hQ hR hE hM)|fail)
 refine za1 hF fun Bd Ed hBd hEd hF=>?_;refine zai (ι:=Nat) [1,2,3] (fun z=>[(3,.n z)]) (fun _=>[]) (fun z=>z) (p.signals.length) (fun z=>(zaK Bd Ed (p.signals.length-z) z ()=X)) (0) ?_;rintro i ⟨hk,hF⟩;(try dsimp only at hk hF ⊢);rcases Nat.lt_or_ge i p.signals.length with hlt|hge
 ·rw[zaJ hBd hlt]at hF;(try dsimp only at hF)
  have c1:=cA i
  have hb1:=hb i
  generalize zdA (nth p.signals i).sec 0 p.sections=a at *
  have h3:=hE3 a.toNat
  (repeat' first|refine zaa [0,1,2,3,4,5,6,7,12,53,56,82] fun K hK=>?_|(refine hK.go ?_;clear hK K)|with_reducible exact wT|refine wA ?_|(refine wE (fun h0 h=>?_) (fun h0 h=>?_)<;>first|exact wN h|((try replace hF:=wX hF);clear h0;first|exact hF.elim|((try subst (h:(_:Bool)=_));try replace hF:=wX hF)))|(refine wQ ?_;clear hQ hR hE hM)|refine wC c1 ?_|fail)
  all_goals first|exact hF|(exfalso;contradiction)|skip
  refine za1 hF fun Bd Ed hBd hEd hF=>?_;refine zai (ι:=Nat) [1,2,3,4,6] (fun z=>[(6,.n z)]) (fun _=>[]) (fun z=>z) (i) (fun z=>(zaK Bd Ed (i-z) z ()=X)) (0) ?_;rintro m ⟨hk,hF⟩;(try dsimp only at hk hF ⊢);rcases Nat.lt_or_ge m i with hlt|hge
  ·rw[zaJ hBd hlt]at hF;(try dsimp only at hF)
   (repeat' first|refine zaa [0,1,2,3,4,5,6,7,12,53,56,82] fun K hK=>?_|(refine hK.go ?_;clear hK K)|with_reducible exact wT|refine wA ?_|(refine wE (fun h0 h=>?_) (fun h0 h=>?_)<;>first|exact wN h|((try replace hF:=wX hF);clear h0;first|exact hF.elim|((try subst (h:(_:Bool)=_));try replace hF:=wX hF)))|(refine wQ ?_;clear hQ hR hE hM)|fail)
   all_goals first|exact hF|(exfalso;contradiction)|exact nX (m+1)
  ·rw[za0 hge,hEd]at hF;(try dsimp only at hF)
   (repeat' first|refine zaa [0,1,2,3,4,5,6,7,12,53,56,82] fun K hK=>?_|(refine hK.go ?_;clear hK K)|with_reducible exact wT|refine wA ?_|(refine wE (fun h0 h=>?_) (fun h0 h=>?_)<;>first|exact wN h|((try replace hF:=wX hF);clear h0;first|exact hF.elim|((try subst (h:(_:Bool)=_));try replace hF:=wX hF)))|(refine wQ ?_;clear hQ hR hE hM)|fail)
   all_goals exact nX (i+1)
 ·rw[za0 hge,hEd]at hF;(try dsimp only at hF)
  (repeat' first|refine zaa [0,1,2,3,4,5,6,7,12,53,56,82] fun K hK=>?_|(refine hK.go ?_;clear hK K)|with_reducible exact wT|refine wA ?_|(refine wE (fun h0 h=>?_) (fun h0 h=>?_)<;>first|exact wN h|((try replace hF:=wX hF);clear h0;first|exact hF.elim|((try subst (h:(_:Bool)=_));try replace hF:=wX hF)))|(refine wQ ?_;clear hQ hR hE hM)|fail)
  all_goals first|exact hF|(exact congrArg AV.b hF)|(rw[←hF];done)|trace_state
end Go.Lev
namespace Go.Lev
open Go.Eng
set_option maxRecDepth 10000
set_option maxHeartbeats 4000000
variable {P:Program} {inv:Nat→Option Nat} {w0:World} {M:Nat→Prop}
theorem zoX (hH:HasAll P inv) (p:Pln) (hp:Sm p) (h:zb6 p.sections=true) (hg:SgsP p) (r:Rte) (hr:r.path.length≤9223372036854775807∧r.over.length≤9223372036854775807∧r.flanks.length≤9223372036854775807):PC P inv 307 [.agg p.c,.agg r.c] (·=.b (zcE p r (ends p.sections))):=by
 have hl1:=hp.sec
 have hl2:=hp.sgn
 have hl3:=hp.pts
 have c1:=zfn hH p.signals (by omega) r.entry
 have c2:=zfn hH p.signals (by omega) r.exit
 have cA:=fun n=>zlp hH p.sections n (by omega)
 have cK:=fun n=>zpb hH p.points (by omega) n
 obtain ⟨X,hF⟩:∃ X,rrF p r (zaZ (fun x=>decide (Sgn.id x=r.entry)) 0 p.signals) (zaZ (fun x=>decide (Sgn.id x=r.exit)) 0 p.signals) (r.path++r.over)=X:=⟨_,rfl⟩
 rw[←rrF_eq h hg r,hF]
 have hb:zaZ (fun x=>decide (Sgn.id x=r.entry)) 0 p.signals=-1∨(0≤zaZ (fun x=>decide (Sgn.id x=r.entry)) 0 p.signals∧zaZ (fun x=>decide (Sgn.id x=r.entry)) 0 p.signals<p.signals.length):=by
  rcases zaV Sgn.id r.entry p.signals with ⟨e,_⟩|⟨k,hk,e,_⟩
  ·exact .inl e
  ·exact .inr ⟨by omega,by omega⟩
 generalize zaZ (fun x=>decide (Sgn.id x=r.entry)) 0 p.signals=k0 at *
 generalize zaZ (fun x=>decide (Sgn.id x=r.exit)) 0 p.signals=kx at *
 clear h hg
 by_cases hT2:rrT2 r=true
 ·unfold rrF at hF
  rw[hT2,cond_true]at hF
  have hXX:X=false:=by rw[←hF];cases rrT1 p r k0 kx<;>rfl
  subst hXX
  clear hF
  unfold rrT2 at hT2
  simp only[Bool.or_eq_true,decide_eq_true_eq]at hT2
  refine PC.fn hH cd307 fun w0 M Q hM hE hQ hR=>?_;dsimp only[cd307,qm,ql,qf,qi,qb,qc,qp,qv,qN,qT,qF,qt]at hQ ⊢
  (repeat' first|refine zaa [0,1,2,3,4,5,6,7,8,9,10,48,80,86,95,109,112,123,128,140,167] fun K hK=>?_|(refine hK.go ?_;clear hK K)|with_reducible exact wT|refine wA ?_|(refine wB (fun h=>?_) (fun h=>?_)<;>first|exact wN h|subst (h:(_:Bool)=_)|skip)|(refine wQ ?_;clear hQ hR hE hM)|refine wC c1 ?_|refine wC c2 ?_|fail)
  all_goals first|rfl|(exfalso;contradiction)|(exfalso;omega)|trace_state
 have hT2':=hT2
 unfold rrT2 at hT2'
 simp only[Bool.or_eq_true,decide_eq_true_eq,not_or]at hT2'
 have c3:=zjp hH r (by omega) (by omega)
 have hall:(r.path++r.over).length≤2000:=by rw[List.length_append];omega
 generalize r.path++r.over=all at *
 clear hT2 hT2'
 unfold rrF rrT1 rrT2 rrS rrK at hF
 refine PC.fn hH cd307 fun w0 M Q hM hE hQ hR=>?_;dsimp only[cd307,qm,ql,qf,qi,qb,qc,qp,qv,qN,qT,qF,qt]at hQ ⊢
 skip
 (repeat' first|refine zaa [0,1,2,3,4,5,6,7,8,9,10,48,80,86,95,109,112,123,128,140,167] fun K hK=>?_|(refine hK.go ?_;clear hK K)|with_reducible exact wT|refine wA ?_|(refine wE (fun h0 h=>?_) (fun h0 h=>?_)<;>first|exact wN h|((try replace hF:=wX hF);clear h0;first|exact hF.elim|((try subst (h:(_:Bool)=_));try replace hF:=wX hF)))|(refine wQ ?_;clear hQ hR hE hM)|refine wC c1 ?_|refine wC c2 ?_|refine wC c3 ?_|fail)
 all_goals first|exact hF|(exfalso;contradiction)|skip
 all_goals
  refine za1 hF fun Bd Ed hBd hEd hF=>?_;refine zai (ι:=Nat) [2,3,4,5,6,7] (fun z=>[(7,.n z)]) (fun _=>[]) (fun z=>z) (all.length) (fun z=>(zaK Bd Ed (all.length-z) z ()=X)) (0) ?_;rintro i ⟨hk,hF⟩;(try dsimp only at hk hF ⊢);rcases Nat.lt_or_ge i all.length with hlt|hge
  ·rw[zaJ hBd hlt]at hF;(try dsimp only at hF)
   have c4:=cA (nth all i)
   generalize zdA (nth all i) 0 p.sections=a at *
   (repeat' first|refine zaa [0,1,2,3,4,5,6,7,8,9,10,48,80,86,95,109,112,123,128,140,167] fun K hK=>?_|(refine hK.go ?_;clear hK K)|with_reducible exact wT|refine wA ?_|(refine wE (fun h0 h=>?_) (fun h0 h=>?_)<;>first|exact wN h|((try replace hF:=wX hF);clear h0;first|exact hF.elim|((try subst (h:(_:Bool)=_));try replace hF:=wX hF)))|(refine wQ ?_;clear hQ hR hE hM)|refine wC c4 ?_|fail)
   all_goals first|exact hF|(exfalso;contradiction)|skip
   refine za1 hF fun Bd Ed hBd hEd hF=>?_;refine zai (ι:=Nat) [2,3,4,5,6,7,8] (fun z=>[(8,.n z)]) (fun _=>[]) (fun z=>z) (i) (fun z=>(zaK Bd Ed (i-z) z ()=X)) (0) ?_;rintro m ⟨hk,hF⟩;(try dsimp only at hk hF ⊢);rcases Nat.lt_or_ge m i with hlt|hge
   ·rw[zaJ hBd hlt]at hF;(try dsimp only at hF)
    (repeat' first|refine zaa [0,1,2,3,4,5,6,7,8,9,10,48,80,86,95,109,112,123,128,140,167] fun K hK=>?_|(refine hK.go ?_;clear hK K)|with_reducible exact wT|refine wA ?_|(refine wE (fun h0 h=>?_) (fun h0 h=>?_)<;>first|exact wN h|((try replace hF:=wX hF);clear h0;first|exact hF.elim|((try subst (h:(_:Bool)=_));try replace hF:=wX hF)))|(refine wQ ?_;clear hQ hR hE hM)|fail)
    all_goals first|exact hF|(exfalso;contradiction)|exact nX (m+1)
   ·rw[za0 hge,hEd]at hF;(try dsimp only at hF)
    (repeat' first|refine zaa [0,1,2,3,4,5,6,7,8,9,10,48,80,86,95,109,112,123,128,140,167] fun K hK=>?_|(refine hK.go ?_;clear hK K)|with_reducible exact wT|refine wA ?_|(refine wE (fun h0 h=>?_) (fun h0 h=>?_)<;>first|exact wN h|((try replace hF:=wX hF);clear h0;first|exact hF.elim|((try subst (h:(_:Bool)=_));try replace hF:=wX hF)))|(refine wQ ?_;clear hQ hR hE hM)|fail)
    all_goals exact nX (i+1)
  ·rw[za0 hge,hEd]at hF;(try dsimp only at hF)
   (repeat' first|refine zaa [0,1,2,3,4,5,6,7,8,9,10,48,80,86,95,109,112,123,128,140,167] fun K hK=>?_|(refine hK.go ?_;clear hK K)|with_reducible exact wT|refine wA ?_|(refine wE (fun h0 h=>?_) (fun h0 h=>?_)<;>first|exact wN h|((try replace hF:=wX hF);clear h0;first|exact hF.elim|((try subst (h:(_:Bool)=_));try replace hF:=wX hF)))|(refine wQ ?_;clear hQ hR hE hM)|fail)
   refine za1 hF fun Bd Ed hBd hEd hF=>?_;refine zai (ι:=Nat) [2,3,4,9] (fun z=>[(9,.n z)]) (fun _=>[]) (fun z=>z) (r.flanks.length) (fun z=>(zaK Bd Ed (r.flanks.length-z) z ()=X)) (0) ?_;rintro i ⟨hk,hF⟩;(try dsimp only at hk hF ⊢);rcases Nat.lt_or_ge i r.flanks.length with hlt|hge
   ·rw[zaJ hBd hlt]at hF;(try dsimp only at hF)
    have c5:=cK (nth r.flanks i).pnt
    generalize zaZ (fun x=>decide (Pnt.id x=(nth r.flanks i).pnt)) 0 p.points=a at *
    have hi1:((i:Int)-1).toNat=i-1:=by omega
    (have hX:=@hi1;(repeat' first|refine zaa [0,1,2,3,4,5,6,7,8,9,10,48,80,86,95,109,112,123,128,140,167] fun K hK=>?_|(refine hK.go ?_;clear hK K)|with_reducible exact wT|refine wA ?_|(refine wE (fun h0 h=>?_) (fun h0 h=>?_)<;>first|exact wN h|((try replace hF:=wX hF);clear h0;first|exact hF.elim|((try subst (h:(_:Bool)=_));try replace hF:=wX hF)))|(refine wQ ?_;clear hQ hR hE hM)|refine wC c5 ?_|fail);all_goals clear hX)
    all_goals first|exact hF|(exfalso;contradiction)|exact nX (i+1)
   ·rw[za0 hge,hEd]at hF;(try dsimp only at hF)
    (repeat' first|refine zaa [0,1,2,3,4,5,6,7,8,9,10,48,80,86,95,109,112,123,128,140,167] fun K hK=>?_|(refine hK.go ?_;clear hK K)|with_reducible exact wT|refine wA ?_|(refine wE (fun h0 h=>?_) (fun h0 h=>?_)<;>first|exact wN h|((try replace hF:=wX hF);clear h0;first|exact hF.elim|((try subst (h:(_:Bool)=_));try replace hF:=wX hF)))|(refine wQ ?_;clear hQ hR hE hM)|fail)
    all_goals first|exact hF|exact congrArg AV.b hF|(rw[←hF];done)|trace_state
end Go.Lev
namespace Go.Lev
open Go.Eng
set_option maxRecDepth 10000
set_option maxHeartbeats 4000000
variable {P:Program} {inv:Nat→Option Nat} {w0:World} {M:Nat→Prop}
theorem rmay_pc2 (hH:HasAll P inv) (l:List Section) (hl:l.length≤1000000000) (he:∀ s∈l,s.ends.length≤9223372036854775807):PC P inv 48 [.sl 3 (l.map Section.c)] (·=.b (zb6 l)):=by
 refine PC.fn hH cd48 fun w0 M Q hM hE hQ hR=>?_;dsimp only[cd48,qm,ql,qf,qi,qb,qc,qp,qv,qN,qT,qF,qt]at hQ ⊢
 (repeat' first|refine zaa [0,2,3,4,5,6,7,10,14,33,36,61,65,75,85] fun K hK=>?_|(refine hK.go ?_;clear hK K)|with_reducible exact wT|refine wA ?_|(refine wB (fun h=>?_) (fun h=>?_)<;>first|exact wN h|subst (h:(_:Bool)=_)|skip)|(refine wQ ?_;clear hQ hR hE hM)|fail)
 ·simp[zb6,h]
 refine zb8 (fun k=>[(0,.sl 3 (l.map Section.c)),(3,.n k)]) (fun k=>[]) (l.length) (fun k=>zgR (l.take k) (l.drop k)=zgR [] l) ?_;rintro k ⟨hk,hg⟩;rcases Nat.lt_or_ge k l.length with hlt|hge
 ·rw[zae hlt]at hg
  rw[zgR,zjd hlt]at hg
  have hs:=he _ (zab hlt)
  (repeat' first|refine zaa [0,2,3,4,5,6,7,10,14,33,36,61,65,75,85] fun K hK=>?_|(refine hK.go ?_;clear hK K)|with_reducible exact wT|refine wA ?_|(refine wB (fun h=>?_) (fun h=>?_)<;>first|exact wN h|subst (h:(_:Bool)=_)|skip)|(refine wQ ?_;clear hQ hR hE hM)|(refine zau hM (znG hH _) ?_;try (refine no_implicit_lambda% (st ?_);try with_reducible exact wT))|fail)
  iterate 3 (grind[zb6,rOk])
  have h1:¬(nth l k).id<1:=by assumption
  have h2:¬99<(nth l k).id:=by assumption
  have h3:zbv (nth l k)=true:=by assumption
  refine zcL (fun j:Nat=>[(0,.sl 3 (l.map Section.c)),(3,.n k),(4,.ptr 0 3 0),(5,.n j)]) (fun _=>[(0,.cells (nth l k).c true)]) (fun j=>j≤k∧((l.take k).drop j).all (fun x=>!ziJ (nth l k) x)=(l.take k).all fun x=>!ziJ (nth l k) x) (fun j=>k-j) 0 ⟨Nat.zero_le _,rfl⟩ (by (try dsimp only);(refine no_implicit_lambda% (st ?_);try with_reducible exact wT)<;>omega) (by (try dsimp only);(refine no_implicit_lambda% (st ?_);try with_reducible exact wT)<;>omega) ?_
  rintro j ⟨hj,hi⟩
  have hkl:(l.take k).length=k:=by simp;omega
  rcases Nat.lt_or_ge j k with hjk|hjk
  ·rw[zae (by omega),List.all_cons,zjc hjk]at hi
   have hs:=he _ (zab (Nat.lt_trans hjk hlt))
   (repeat' first|refine zaa [0,2,3,4,5,6,7,10,14,33,36,61,65,75,85] fun K hK=>?_|(refine hK.go ?_;clear hK K)|with_reducible exact wT|refine wA ?_|(refine wB (fun h=>?_) (fun h=>?_)<;>first|exact wN h|subst (h:(_:Bool)=_)|skip)|(refine wQ ?_;clear hQ hR hE hM)|fail)
   all_goals (first|(refine ⟨j+1,by omega,⟨by omega,by grind[zb6,rOk,ziJ]⟩,(by (try dsimp only);(first|omega|(simp;done)|(simp;omega)))⟩)|(grind[zb6,rOk,ziJ]))
  ·rw[List.drop_eq_nil_of_le (by omega),List.all_nil]at hi
   (repeat' first|refine zaa [0,2,3,4,5,6,7,10,14,33,36,61,65,75,85] fun K hK=>?_|(refine hK.go ?_;clear hK K)|with_reducible exact wT|refine wA ?_|(refine wB (fun h=>?_) (fun h=>?_)<;>first|exact wN h|subst (h:(_:Bool)=_)|skip)|(refine wQ ?_;clear hQ hR hE hM)|fail)
   all_goals (first|(refine ⟨k+1,by omega,⟨by omega,by grind[zb6,rOk]⟩,(by (try dsimp only);(first|omega|(simp;done)|(simp;omega)))⟩)|(grind[zb6,rOk]))
 ·rw[List.drop_eq_nil_of_le hge,zgR]at hg
  (repeat' first|refine zaa [0,2,3,4,5,6,7,10,14,33,36,61,65,75,85] fun K hK=>?_|(refine hK.go ?_;clear hK K)|with_reducible exact wT|refine wA ?_|(refine wB (fun h=>?_) (fun h=>?_)<;>first|exact wN h|subst (h:(_:Bool)=_)|skip)|(refine wQ ?_;clear hQ hR hE hM)|fail)
  refine zb8 (fun k=>[(0,.sl 3 (l.map Section.c)),(6,.n k)]) (fun k=>[]) (l.length) (fun k=>(l.drop k).all (fun s=>zbO (zct l s) 0 s.ends.length)=znN l) ?_;rintro k ⟨hk,hg⟩;rcases Nat.lt_or_ge k l.length with hlt|hge
  ·rw[zae hlt]at hg
   rw[List.all_cons]at hg
   have hs:=he _ (zab hlt)
   (repeat' first|refine zaa [0,2,3,4,5,6,7,10,14,33,36,61,65,75,85] fun K hK=>?_|(refine hK.go ?_;clear hK K)|with_reducible exact wT|refine wA ?_|(refine wB (fun h=>?_) (fun h=>?_)<;>first|exact wN h|subst (h:(_:Bool)=_)|skip)|(refine wQ ?_;clear hQ hR hE hM)|fail)
   refine zcL (fun j:Nat=>[(0,.sl 3 (l.map Section.c)),(6,.n k),(7,.n j)]) (fun _=>[]) (fun j=>j≤(nth l k).ends.length∧zbO (zct l (nth l k)) j ((nth l k).ends.length-j)=zbO (zct l (nth l k)) 0 (nth l k).ends.length) (fun j=>(nth l k).ends.length-j) 0 ⟨Nat.zero_le _,rfl⟩ (by (try dsimp only);(refine no_implicit_lambda% (st ?_);try with_reducible exact wT)<;>omega) (by (try dsimp only);(refine no_implicit_lambda% (st ?_);try with_reducible exact wT)<;>omega) ?_
   rintro j ⟨hj,hi⟩
   rcases Nat.lt_or_ge j (nth l k).ends.length with hjk|hjk
   ·rw[zgK hjk]at hi
    (repeat' first|refine zaa [0,2,3,4,5,6,7,10,14,33,36,61,65,75,85] fun K hK=>?_|(refine hK.go ?_;clear hK K)|with_reducible exact wT|refine wA ?_|(refine wB (fun h=>?_) (fun h=>?_)<;>first|exact wN h|subst (h:(_:Bool)=_)|skip)|(refine wQ ?_;clear hQ hR hE hM)|refine wC (znI hH l (nth l k) j hjk hl) ?_|fail)
    all_goals (first|(refine ⟨j+1,by omega,⟨by omega,by grind[zb6]⟩,(by (try dsimp only);(first|omega|(simp;done)|(simp;omega)))⟩)|(grind[zb6]))
   ·rw[zio hjk]at hi
    (repeat' first|refine zaa [0,2,3,4,5,6,7,10,14,33,36,61,65,75,85] fun K hK=>?_|(refine hK.go ?_;clear hK K)|with_reducible exact wT|refine wA ?_|(refine wB (fun h=>?_) (fun h=>?_)<;>first|exact wN h|subst (h:(_:Bool)=_)|skip)|(refine wQ ?_;clear hQ hR hE hM)|fail)
    all_goals (first|(refine ⟨k+1,by omega,⟨by omega,by grind[zb6]⟩,(by (try dsimp only);(first|omega|(simp;done)|(simp;omega)))⟩)|(grind[zb6]))
  ·rw[List.drop_eq_nil_of_le hge,List.all_nil]at hg
   (repeat' first|refine zaa [0,2,3,4,5,6,7,10,14,33,36,61,65,75,85] fun K hK=>?_|(refine hK.go ?_;clear hK K)|with_reducible exact wT|refine wA ?_|(refine wB (fun h=>?_) (fun h=>?_)<;>first|exact wN h|subst (h:(_:Bool)=_)|skip)|(refine wQ ?_;clear hQ hR hE hM)|fail)
   all_goals (first|rfl|(grind[zb6])|(simp[zb6, *];done)|(simp_all [zb6];done)|(simp_all [zb6]<;>first|omega|((repeat' split)<;>first|rfl|(exfalso;omega))))
theorem may_ref (hH:HasAll P inv) (p:Pln) (hp:Sm p):PC P inv 300 [.agg p.c] (·=.b (zbR p)):=by
 have hl1:=hp.sec
 have hl2:=hp.rte
 have c1:=rmay_pc2 hH p.sections (by omega) hp.ends
 obtain ⟨X,hF⟩:∃ X,rmF p (zb6 p.sections) (points p) (signals p (ends p.sections)) (fun r=>zcE p r (ends p.sections))=X:=⟨_,rfl⟩
 rw[←rmF_eq p,hF]
 by_cases hm:zb6 p.sections=true
 ·have c2:=znP hH p hp hm
  have c3:=zlK hH p hp hm
  rw[hm]at c1 hF
  by_cases hs:signals p (ends p.sections)=true
  ·have c4:∀ i,i<p.routes.length→PC P inv 307 [.agg p.c,.agg (nth p.routes i).c] (·=.b (zcE p (nth p.routes i) (ends p.sections))):=fun i hi=>zoX hH p hp hm ((zfk hm).1 hs) (nth p.routes i) (hp.rtes _ (zab hi))
   rw[hs]at c3 hF
   generalize points p=pts at *
   clear hm hs
   unfold rmF rmT rmR at hF
   generalize hrt:(fun r=>zcE p r (ends p.sections))=rt at hF
   replace c4:∀ i,i<p.routes.length→PC P inv 307 [.agg p.c,.agg (nth p.routes i).c] (·=.b (rt (nth p.routes i))):=by subst hrt;exact c4
   clear hrt
   refine PC.fn hH cd300 fun w0 M Q hM hE hQ hR=>?_;dsimp only[cd300,qm,ql,qf,qi,qb,qc,qp,qv,qN,qT,qF,qt]at hQ ⊢
   skip
   (repeat' first|refine zaa [0,1,2,3,4,30,44,49,84,86] fun K hK=>?_|(refine hK.go ?_;clear hK K)|with_reducible exact wT|refine wA ?_|(refine wE (fun h0 h=>?_) (fun h0 h=>?_)<;>first|exact wN h|((try replace hF:=wX hF);clear h0;first|exact hF.elim|((try subst (h:(_:Bool)=_));try replace hF:=wX hF)))|(refine wQ ?_;clear hQ hR hE hM)|refine wC c1 ?_|refine wC c2 ?_|refine wC c3 ?_|fail)
   all_goals first|exact hF|(exfalso;contradiction)|skip
   refine za1 hF fun Bd Ed hBd hEd hF=>?_;refine zai (ι:=Nat) [1,2,3] (fun z=>[(3,.n z)]) (fun _=>[]) (fun z=>z) (p.routes.length) (fun z=>(zaK Bd Ed (p.routes.length-z) z ()=X)) (0) ?_;rintro i ⟨hk,hF⟩;(try dsimp only at hk hF ⊢);rcases Nat.lt_or_ge i p.routes.length with hlt|hge
   ·rw[zaJ hBd hlt]at hF;(try dsimp only at hF)
    have c5:=c4 i (by assumption)
    have hi1:((i:Int)-1).toNat=i-1:=by omega
    generalize rt (nth p.routes i)=b at *
    (have hX:=@hi1;(repeat' first|refine zaa [0,1,2,3,4,30,44,49,84,86] fun K hK=>?_|(refine hK.go ?_;clear hK K)|with_reducible exact wT|refine wA ?_|(refine wE (fun h0 h=>?_) (fun h0 h=>?_)<;>first|exact wN h|((try replace hF:=wX hF);clear h0;first|exact hF.elim|((try subst (h:(_:Bool)=_));try replace hF:=wX hF)))|(refine wQ ?_;clear hQ hR hE hM)|refine wC c5 ?_|fail);all_goals clear hX)
    all_goals first|exact hF|(exfalso;contradiction)|exact nX (i+1)
   ·rw[za0 hge,hEd]at hF;(try dsimp only at hF)
    (repeat' first|refine zaa [0,1,2,3,4,30,44,49,84,86] fun K hK=>?_|(refine hK.go ?_;clear hK K)|with_reducible exact wT|refine wA ?_|(refine wE (fun h0 h=>?_) (fun h0 h=>?_)<;>first|exact wN h|((try replace hF:=wX hF);clear h0;first|exact hF.elim|((try subst (h:(_:Bool)=_));try replace hF:=wX hF)))|(refine wQ ?_;clear hQ hR hE hM)|fail)
    all_goals first|exact hF|exact congrArg AV.b hF|(rw[←hF];done)|trace_state
  ·have hs:signals p (ends p.sections)=false:=by simpa using hs
   rw[hs]at c3 hF
   generalize points p=pts at *
   unfold rmF rmT at hF
   refine PC.fn hH cd300 fun w0 M Q hM hE hQ hR=>?_;dsimp only[cd300,qm,ql,qf,qi,qb,qc,qp,qv,qN,qT,qF,qt]at hQ ⊢
   skip
   (repeat' first|refine zaa [0,1,2,3,4,30,44,49,84,86] fun K hK=>?_|(refine hK.go ?_;clear hK K)|with_reducible exact wT|refine wA ?_|(refine wE (fun h0 h=>?_) (fun h0 h=>?_)<;>first|exact wN h|((try replace hF:=wX hF);clear h0;first|exact hF.elim|((try subst (h:(_:Bool)=_));try replace hF:=wX hF)))|(refine wQ ?_;clear hQ hR hE hM)|refine wC c1 ?_|refine wC c2 ?_|refine wC c3 ?_|fail)
   all_goals first|exact hF|(exfalso;contradiction)|(rw[←hF];simp;done)|trace_state
 ·have hm:zb6 p.sections=false:=by simpa using hm
  rw[hm]at c1 hF
  unfold rmF rmT at hF
  refine PC.fn hH cd300 fun w0 M Q hM hE hQ hR=>?_;dsimp only[cd300,qm,ql,qf,qi,qb,qc,qp,qv,qN,qT,qF,qt]at hQ ⊢
  skip
  (repeat' first|refine zaa [0,1,2,3,4,30,44,49,84,86] fun K hK=>?_|(refine hK.go ?_;clear hK K)|with_reducible exact wT|refine wA ?_|(refine wE (fun h0 h=>?_) (fun h0 h=>?_)<;>first|exact wN h|((try replace hF:=wX hF);clear h0;first|exact hF.elim|((try subst (h:(_:Bool)=_));try replace hF:=wX hF)))|(refine wQ ?_;clear hQ hR hE hM)|refine wC c1 ?_|fail)
  all_goals first|exact hF|(exfalso;contradiction)|(rw[←hF];simp;done)|trace_state
end Go.Lev
namespace Go.Lev
open Go.Eng
set_option maxRecDepth 10000
set_option maxHeartbeats 4000000
variable {P:Program} {inv:Nat→Option Nat} {w0:World} {M:Nat→Prop}
theorem zox (hH:HasAll P inv) (r:Rte) (h:r.path.length≤1000000∧r.over.length≤1000000∧r.flanks.length≤1000000):PC P inv 318 [.agg r.c] (·=.agg r.c):=by
 refine PC.fn hH cd318 fun w0 M Q hM hE hQ hR=>?_;dsimp only[cd318,qm,ql,qf,qi,qb,qc,qp,qv,qN,qT,qF,qt]at hQ ⊢
 (repeat' first|refine zaa [0,1,2,3] fun K hK=>?_|(refine hK.go ?_;clear hK K)|with_reducible exact wT|refine wA ?_|(refine wB (fun h=>?_) (fun h=>?_)<;>first|exact wN h|subst (h:(_:Bool)=_)|skip)|(refine wQ ?_;clear hQ hR hE hM)|fail)
 all_goals first|rfl|trace_state
def outF (p:Pln) (r:Rte) (all:List Int) (i:Nat) (s:Section) (f:Int):Int :=
 zaK (fun k _ za9=>cond (decide (zhG s f (k:Int)<0)) (za9 ())
   (cond (decide ((i:Int)=(r.path.length:Int)-1))
    (cond (decide (r.exit=0)&&decide ((nth s.ends k).to=0)||!decide (r.exit=0)&&decide (znB p s.id (k:Int)=r.exit)) (k:Int) (za9 ()))
    (cond (decide ((nth s.ends k).to=nth all (i+1))) (k:Int) (za9 ()))))
  (fun _=>-1) s.ends.length 0 ()
def outI (o:Option (Nat×Join×Int)):Int:=match o with|some v=>(v.1:Int)|none=>-1
theorem outF_eq {p:Pln} {r:Rte} {all:List Int} {i:Nat} {s:Section} {f:Int} (hs:zbv s=true):outF p r all i s f=outI (outW p r all i s f):=by
 unfold outF outW
 refine zaX (·=outI (zaQ s f (zlx p r all i s) 0 s.ends)) (fun k _=>zaQ s f (zlx p r all i s) k (s.ends.drop k)=zaQ s f (zlx p r all i s) 0 s.ends) rfl ?_ ?_
 ·intro k _ za9 hk hK hn
  rw[zae hk,zaQ]at hK
  have hth:(za8 s f (k:Int)).2=0↔¬zhG s f (k:Int)<0:=by
   unfold za8
   rw[if_pos hs]
   split
   ·rename_i h1
    exact ⟨fun h=>(by cases h),fun h=>absurd h1 h⟩
   ·rename_i h1
    exact ⟨fun _=>h1,fun _=>rfl⟩
  by_cases h1:zhG s f (k:Int)<0
  ·rw[decide_eq_true h1,cond_true]
   rw[if_neg (fun h=>(hth.1 h.1) h1)]at hK
   exact hn () hK
  ·rw[decide_eq_false h1,cond_false]
   have hR:zlx p r all i s (k:Int) (nth s.ends k)=cond (decide ((i:Int)=(r.path.length:Int)-1)) (decide (r.exit=0)&&decide ((nth s.ends k).to=0)||!decide (r.exit=0)&&decide (znB p s.id (k:Int)=r.exit)) (decide ((nth s.ends k).to=nth all (i+1))):=by
    unfold zlx
    by_cases h2:(i:Int)=(r.path.length:Int)-1
    ·rw[if_pos h2,decide_eq_true h2,cond_true]
    ·rw[if_neg h2,decide_eq_false h2,cond_false]
   have fin:∀ b:Bool,zlx p r all i s (k:Int) (nth s.ends k)=b→cond b (k:Int) (za9 ())=outI (zaQ s f (zlx p r all i s) 0 s.ends):=fun b hb=>by
    cases b with
    |true =>
     rw[if_pos ⟨hth.2 h1,hb⟩]at hK
     rw[←hK];rfl
    |false =>
     rw[if_neg (fun h=>by rw[hb]at h;cases h.2)]at hK
     exact hn () hK
   by_cases h2:(i:Int)=(r.path.length:Int)-1
   ·rw[decide_eq_true h2,cond_true]at hR ⊢
    exact fin _ hR
   ·rw[decide_eq_false h2,cond_false]at hR ⊢
    exact fin _ hR
 ·intro _ hK
  rw[List.drop_eq_nil_of_le (Nat.le_refl _),zaQ]at hK
  rw[←hK]
  rfl
theorem zjq {p:Pln} (hs:zb6 p.sections=true) {n:Int} (h:∃ s∈p.sections,s.id=n):∃ q:Nat,q<p.sections.length∧zdA n 0 p.sections=(q:Int)∧zdf p n=nth p.sections q:=by
 rcases zcI n p.sections 0 with ⟨_,h4⟩|⟨q,hq,e,_⟩
 ·obtain ⟨s,hs1,e⟩:=h
  obtain ⟨k,hk,rfl⟩:=zb2 hs1
  exact absurd e (h4 k hk)
 ·have e2:zdA n 0 p.sections=(q:Int):=by omega
  exact ⟨q,hq,e2,by unfold zdf;rw[e2,Int.toNat_natCast]⟩
theorem out_ref (hH:HasAll P inv) (p:Pln) (hp:Sm p) (hs:zb6 p.sections=true) (r:Rte) (hr:r.path.length≤1000) (all:List Int) (ha:all.length≤10000) (i:Nat) (hi:i<all.length) (hn:¬(i:Int)=(r.path.length:Int)-1→i+1<all.length) (h:∃ s∈p.sections,s.id=nth all i) (f:Int) :
  PC P inv 317 [.agg p.c,.agg r.c,.sl 1 (all.map zcP),.n i,.n f] (·=.n (outI (outW p r all i (zdf p (nth all i)) f))):=by
 obtain ⟨q,hq,hat,hA⟩:=zjq hs h
 obtain ⟨hm,hid,_⟩:=ze0 hs h
 have hsh:=zkp hs hm
 have he3:=(zbf hs _ hm).2.2.2.2
 have hl1:=hp.sec
 have hl2:=hp.sgn
 obtain ⟨X,hF⟩:∃ X,outF p r all i (zdf p (nth all i)) f=X:=⟨_,rfl⟩
 rw[←outF_eq hsh,hF]
 have c1:=zlp hH p.sections (nth all i) (by omega)
 rw[hat]at c1
 rw[hA]at hF he3
 have cL:=fun k:Nat=>zoY hH (nth p.sections q) f (k:Int)
 have cA:=fun k:Nat=>at_ref hH p (by omega) (nth p.sections q).id (k:Int)
 have hi1:((i:Int)+1).toNat=i+1:=by omega
 clear hsh hA hm hid hs
 unfold outF at hF
 refine PC.fn hH cd317 fun w0 M Q hM hE hQ hR=>?_;dsimp only[cd317,qm,ql,qf,qi,qb,qc,qp,qv,qN,qT,qF,qt]at hQ ⊢
 skip
 (have hX:=@Int.toNat_natCast;(repeat' first|refine zaa [0,1,2,3,4,5,6,10,11,12,28,35,41,68,81] fun K hK=>?_|(refine hK.go ?_;clear hK K)|with_reducible exact wT|refine wA ?_|(refine wE (fun h0 h=>?_) (fun h0 h=>?_)<;>first|exact wN h|((try replace hF:=wX hF);clear h0;first|exact hF.elim|((try subst (h:(_:Bool)=_));try replace hF:=wX hF)))|(refine wQ ?_;clear hQ hR hE hM)|refine wU c1 ?_|fail);all_goals clear hX)
 refine za1 hF fun Bd Ed hBd hEd hF=>?_;refine zai (ι:=Nat) [2,3,4,5,6,10,11,12] (fun z=>[(12,.n z)]) (fun _=>[]) (fun z=>z) ((nth p.sections q).ends.length) (fun z=>(zaK Bd Ed ((nth p.sections q).ends.length-z) z ()=X)) (0) ?_;rintro k ⟨hk,hF⟩;(try dsimp only at hk hF ⊢);rcases Nat.lt_or_ge k (nth p.sections q).ends.length with hlt|hge
 ·rw[zaJ hBd hlt]at hF;(try dsimp only at hF)
  have c2:=cL k
  have c3:=cA k
  generalize zhG (nth p.sections q) f (k:Int)=lie at *
  by_cases hk1:(i:Int)=(r.path.length:Int)-1
  ·(repeat' first|refine zaa [0,1,2,3,4,5,6,10,11,12,28,35,41,68,81] fun K hK=>?_|(refine hK.go ?_;clear hK K)|with_reducible exact wT|refine wA ?_|(refine wE (fun h0 h=>?_) (fun h0 h=>?_)<;>first|exact wN h|((try replace hF:=wX hF);clear h0;first|exact hF.elim|((try subst (h:(_:Bool)=_));try replace hF:=wX hF)))|(refine wQ ?_;clear hQ hR hE hM)|refine wC c2 ?_|refine wC c3 ?_|refine wU c3 ?_|fail)
   all_goals first|exact hF|(exfalso;contradiction)|(exfalso;omega)|exact congrArg AV.n hF|exact nX (k+1)
  ·have hn:=hn hk1
   (have hX:=@hi1;(repeat' first|refine zaa [0,1,2,3,4,5,6,10,11,12,28,35,41,68,81] fun K hK=>?_|(refine hK.go ?_;clear hK K)|with_reducible exact wT|refine wA ?_|(refine wE (fun h0 h=>?_) (fun h0 h=>?_)<;>first|exact wN h|((try replace hF:=wX hF);clear h0;first|exact hF.elim|((try subst (h:(_:Bool)=_));try replace hF:=wX hF)))|(refine wQ ?_;clear hQ hR hE hM)|refine wC c2 ?_|fail);all_goals clear hX)
   all_goals first|exact hF|(exfalso;contradiction)|(exfalso;omega)|exact congrArg AV.n hF|exact nX (k+1)
 ·rw[za0 hge,hEd]at hF;(try dsimp only at hF)
  (repeat' first|refine zaa [0,1,2,3,4,5,6,10,11,12,28,35,41,68,81] fun K hK=>?_|(refine hK.go ?_;clear hK K)|with_reducible exact wT|refine wA ?_|(refine wE (fun h0 h=>?_) (fun h0 h=>?_)<;>first|exact wN h|((try replace hF:=wX hF);clear h0;first|exact hF.elim|((try subst (h:(_:Bool)=_));try replace hF:=wX hF)))|(refine wQ ?_;clear hQ hR hE hM)|fail)
  all_goals first|exact hF|(exact congrArg AV.n hF)|(rw[←hF];done)|trace_state
end Go.Lev
namespace Go.Lev
open Go.Eng
set_option maxRecDepth 10000
set_option maxHeartbeats 4000000
variable {P:Program} {inv:Nat→Option Nat} {w0:World} {M:Nat→Prop}
def zqb (V:Option (List Int×List Int)):AV:=match V with|some v=>.tup [.sl 1 (v.1.map zcP),.sl 1 (v.2.map zcP),.b true]|none=>.tup [.sl 1 [],.sl 1 [],.b false]
theorem znl (hH:HasAll P inv) (p:Pln) (hp:Sm p) (hs:zb6 p.sections=true) (hg:SgsP p) (r:Rte) (hr:RteP p r):PC P inv 308 [.agg p.c,.agg r.c] (·=zqb (ziw p r)):=by
 obtain ⟨k,hk,h1,h2,h3⟩:=zfM hs hg hr
 obtain ⟨sE,hsE1,hsE2,hsE3,hsE4⟩:=hg.sec _ (zab hk)
 obtain ⟨qE,hqE,hatE,hAE⟩:=zjq hs ⟨sE,hsE1,hsE2⟩
 have hsE5:=ze0 hs ⟨sE,hsE1,hsE2⟩
 have hsE6:zdf p (nth p.signals k).sec=sE:=by
  have:=zj0 Section.id (zeB (zkx hs)) hsE1
  rw[hsE2,hsE5.2.2]at this
  exact Option.some.inj this
 have hlen:=hr.lens
 have c0:=zfn hH p.signals (by have:=hp.sgn;omega) r.entry
 rw[h1]at c0
 have c1:=zlp hH p.sections (nth p.signals k).sec (by have:=hp.sec;omega)
 rw[hatE]at c1
 have c2:=zjp hH r (by omega) (by omega)
 have hEJ:ziX p r=nth (nth p.sections qE).ends (nth p.signals k).ed.toNat:=by
  unfold ziX
  rw[h1,Int.toNat_natCast,hAE]
 rw[←hsE6,hAE]at hsE4
 have hsec:∀ i,i<(r.path++r.over).length→∃ s∈p.sections,s.id=nth (r.path++r.over) i:=fun i hi=>(hr.secs _ (zab hi)).1
 have hal:(r.path++r.over).length=r.path.length+r.over.length:=List.length_append
 have hend3:∀ n,(∃ s∈p.sections,s.id=n)→(zdf p n).ends.length≤3:=fun n hn=>(zbf hs _ (ze0 hs hn).1).2.2.2.2
 have cO:=fun (i:Nat) (hi:i<(r.path++r.over).length) (hn:¬(i:Int)=(r.path.length:Int)-1→i+1<(r.path++r.over).length) (f:Int)=>out_ref hH p hp hs r (by omega) (r.path++r.over) (by omega) i hi hn (hsec i hi) f
 have cT:=fun n=>zlp hH p.sections n (by have:=hp.sec;omega)
 have hl1:=hp.sec
 have hl2:=hp.sgn
 have hix:=fun n hn=>zjq (p:=p) (n:=n) hs hn
 obtain ⟨V,hV⟩:∃ V,ziw p r=V:=⟨_,rfl⟩
 rw[hV]
 unfold ziw at hV
 rw[hEJ]at hV
 clear h1 h2 h3 hEJ hsE6 hsE5 hAE hatE hs hg hr
 generalize r.path++r.over=all at *
 refine PC.fn hH cd308 fun w0 M Q hM hE hQ hR=>?_;dsimp only[cd308,qm,ql,qf,qi,qb,qc,qp,qv,qN,qT,qF,qt]at hQ ⊢
 (have hX:=@Int.toNat_natCast;(repeat' first|refine zaa [0,1,2,3,4,5,6,7,8,9,10,11,12,13,42,51,67,80] fun K hK=>?_|(refine hK.go ?_;clear hK K)|with_reducible exact wT|refine wA ?_|(refine wB (fun h=>?_) (fun h=>?_)<;>first|exact wN h|subst (h:(_:Bool)=_)|skip)|(refine wQ ?_;clear hQ hR hE hM)|refine wU c0 ?_|refine wU c1 ?_|refine wC c2 ?_|fail);all_goals clear hX)
 refine AWp.empty 10 4 1 rfl (Nat.zero_le _) (by (refine no_implicit_lambda% (st ?_);try with_reducible exact wT)) (by (refine no_implicit_lambda% (st ?_);try with_reducible exact wT)) ?_
 refine AWp.empty 11 5 1 rfl (Nat.zero_le _) (by (refine no_implicit_lambda% (st ?_);try with_reducible exact wT)) (by (refine no_implicit_lambda% (st ?_);try with_reducible exact wT)) ?_
 (refine no_implicit_lambda% (st ?_);try with_reducible exact wT)
 refine zai (ι:=Nat×Join×(List Int)×(List Int)) [2,3,4,5,6,8,9,10,11,12] (fun z=>[(10,.sm 4 z.2.2.1.length 0 z.2.2.1.length 1),(11,.sm 5 z.2.2.2.length 0 z.2.2.2.length 1),(12,.n z.1)]) (fun z=>[(3,.cells z.2.1.c true),(4,.cells (z.2.2.1.map zcP).flatten (decide (0<z.2.2.1.length))),(5,.cells (z.2.2.2.map zcP).flatten (decide (0<z.2.2.2.length)))]) (fun z=>z.1) (all.length) (fun z=>(z.2.2.1.length=z.1)∧(z.2.2.2.length=z.1)∧(zgX p r all z.1 z.2.1 z.2.2.1 z.2.2.2 (all.drop z.1)=V)) (0,(nth (nth p.sections qE).ends (nth p.signals k).ed.toNat),([]:List Int),([]:List Int)) ?_;rintro ⟨i,j,I,O⟩ ⟨hk,hI,hO,hgo⟩;(try dsimp only at hk hI hO hgo ⊢);rcases Nat.lt_or_ge i all.length with hlt|hge
 ·rw[zae hlt,zgX]at hgo
  have hs1:=hsec i hlt
  obtain ⟨q,hq,hat,hA⟩:=hix _ hs1
  have he3:=hend3 _ hs1
  have c4:=cT (nth all i)
  rw[hat]at c4
  by_cases hj:j.to=nth all i
  ·rw[if_pos hj]at hgo
   by_cases hst:i+1=all.length∧0<r.over.length
   ·rw[if_pos hst]at hgo
    obtain ⟨I2,hI2⟩:∃ I2,I++[j.ed]=I2:=⟨_,rfl⟩
    obtain ⟨O2,hO2⟩:∃ O2,O++[-1]=O2:=⟨_,rfl⟩
    have gI:(I.map zcP).flatten++[AV.n j.ed]=(I2.map zcP).flatten:=by rw[←hI2];simp[zcP]
    have gO:(O.map zcP).flatten++[AV.i .i64 (-1)]=(O2.map zcP).flatten:=by rw[←hO2];simp[zcP]
    have lI:I.length+1=I2.length:=by rw[←hI2];simp
    have lO:O.length+1=O2.length:=by rw[←hO2];simp
    rw[hI2,hO2]at hgo
    clear hI2 hO2
    (have hX:=zA @gI (zA @gO (zA @lI @lO));(repeat' first|refine zaa [0,1,2,3,4,5,6,7,8,9,10,11,12,13,42,51,67,80] fun K hK=>?_|(refine hK.go ?_;clear hK K)|with_reducible exact wT|refine wA ?_|(refine wB (fun h=>?_) (fun h=>?_)<;>first|exact wN h|subst (h:(_:Bool)=_)|skip)|(refine wQ ?_;clear hQ hR hE hM)|fail);all_goals clear hX)
    all_goals first|(exfalso;omega)|(rw[←hgo];rfl)|trace_state
   ·rw[if_neg hst]at hgo
    have c3:=cO i hlt (fun hn=>by omega) j.ed
    cases ho:outW p r all i (zdf p (nth all i)) j.ed with
    |none =>
     rw[ho]at hgo c3
     dsimp only[outI]at hgo c3
     (repeat' first|refine zaa [0,1,2,3,4,5,6,7,8,9,10,11,12,13,42,51,67,80] fun K hK=>?_|(refine hK.go ?_;clear hK K)|with_reducible exact wT|refine wA ?_|(refine wB (fun h=>?_) (fun h=>?_)<;>first|exact wN h|subst (h:(_:Bool)=_)|skip)|(refine wQ ?_;clear hQ hR hE hM)|refine wC c3 ?_|fail)
     all_goals first|(exfalso;omega)|(rw[←hgo];rfl)|trace_state
    |some v =>
     rw[ho]at hgo c3
     dsimp only[outI]at hgo c3
     have hpe:=zey _ 0 ho
     rw[Nat.sub_zero]at hpe
     have hv1:=hpe.2.1
     have hv2:=hpe.2.2.1
     rw[hA]at hv1 hv2 he3
     rw[hv2]at hgo
     clear hpe ho hv2
     obtain ⟨v1,v2,v3⟩:=v
     dsimp only at hgo c3 hv1
     (have hX:=@Int.toNat_natCast;(repeat' first|refine zaa [0,1,2,3,4,5,6,7,8,9,10,11,12,13,42,51,67,80] fun K hK=>?_|(refine hK.go ?_;clear hK K)|with_reducible exact wT|refine wA ?_|(refine wB (fun h=>?_) (fun h=>?_)<;>first|exact wN h|subst (h:(_:Bool)=_)|skip)|(refine wQ ?_;clear hQ hR hE hM)|refine wC c3 ?_|refine wC c4 ?_|refine wU c4 ?_|fail);all_goals clear hX)
     all_goals first|(exfalso;omega)|(exact nY (i+1,nth (nth p.sections q).ends v1,I++[j.ed],O++[(v1:Int)]) ⟨by (try dsimp only);omega,by (try dsimp only);simp[hI],by (try dsimp only);simp[hO],hgo⟩;done)|trace_state
  ·rw[if_neg hj]at hgo
   (repeat' first|refine zaa [0,1,2,3,4,5,6,7,8,9,10,11,12,13,42,51,67,80] fun K hK=>?_|(refine hK.go ?_;clear hK K)|with_reducible exact wT|refine wA ?_|(refine wB (fun h=>?_) (fun h=>?_)<;>first|exact wN h|subst (h:(_:Bool)=_)|skip)|(refine wQ ?_;clear hQ hR hE hM)|fail)
   all_goals first|(exfalso;contradiction)|(exfalso;omega)|(rw[←hgo];rfl)|trace_state
 ·rw[List.drop_eq_nil_of_le hge,zgX]at hgo
  (repeat' first|refine zaa [0,1,2,3,4,5,6,7,8,9,10,11,12,13,42,51,67,80] fun K hK=>?_|(refine hK.go ?_;clear hK K)|with_reducible exact wT|refine wA ?_|(refine wB (fun h=>?_) (fun h=>?_)<;>first|exact wN h|subst (h:(_:Bool)=_)|skip)|(refine wQ ?_;clear hQ hR hE hM)|fail)
  all_goals first|(rw[←hgo];simp[zqb];done)|(rw[←hgo];rfl)|trace_state
end Go.Lev
namespace Go.Lev
open Go.Eng
set_option maxRecDepth 10000
set_option maxHeartbeats 4000000
variable {P:Program} {inv:Nat→Option Nat} {w0:World} {M:Nat→Prop}
theorem zm5 (hH:HasAll P inv) (p:Pln) (hp:Sm p) (hs:zb6 p.sections=true) (hg:SgsP p) (hpt:PtsP p) {m:Nat} (hm:m<p.routes.length) (hr:RteP p (nth p.routes m)) {I O:List Int} (hV:ziw p (nth p.routes m)=some (I,O)) :
  PC P inv 309 [.agg p.c,.n m] (·=.agg (zah p (nth p.routes m)).1.c):=by
 have hw:=zg9 hs hg hpt hr
 rw[hV]at hw
 obtain ⟨hI,hO,hw⟩:=hw
 dsimp only at hI hO hw
 have hw1:(zah p (nth p.routes m)).1=⟨(nth p.routes m).path,(nth p.routes m).over,asksV p (nth p.routes m) I O,(sig p (nth p.routes m).entry).sec⟩:=by rw[hw]
 rw[hw1]
 obtain ⟨k,hk,h1,h2,h3⟩:=zfM hs hg hr
 have hlen:=hr.lens
 have c1:=zox hH (nth p.routes m) (by omega)
 have c2:=znl hH p hp hs hg (nth p.routes m) hr
 rw[hV]at c2
 unfold zqb at c2
 dsimp only at c2
 have c3:=zjp hH (nth p.routes m) (by omega) (by omega)
 have c4:=zfn hH p.signals (by have:=hp.sgn;omega) (nth p.routes m).entry
 rw[h1]at c4
 rw[h3]
 have hsec:∀ i,i<((nth p.routes m).path++(nth p.routes m).over).length→∃ s∈p.sections,s.id=nth ((nth p.routes m).path++(nth p.routes m).over) i:=fun i hi=>(hr.secs _ (zab hi)).1
 have hal:((nth p.routes m).path++(nth p.routes m).over).length=(nth p.routes m).path.length+(nth p.routes m).over.length:=List.length_append
 have cT:=fun n=>zlp hH p.sections n (by have:=hp.sec;omega)
 have hix:=fun n hn=>zjq (p:=p) (n:=n) hs hn
 have cL:=fun s f t=>zoY hH s f t
 have hl1:=hp.rte
 unfold asksV
 obtain ⟨W,hW⟩:∃ W,zhW p 0 ((nth p.routes m).path++(nth p.routes m).over) I O=W:=⟨_,rfl⟩
 rw[hW]
 clear hw hw1 h1 h2 h3 hs hg hpt hr hV
 generalize (nth p.routes m).path++(nth p.routes m).over=all at *
 refine PC.fn hH cd309 fun w0 M Q hM hE hQ hR=>?_;dsimp only[cd309,qm,ql,qf,qi,qb,qc,qp,qv,qN,qT,qF,qt]at hQ ⊢
 (have hX:=@Int.toNat_natCast;(repeat' first|refine zaa [0,1,2,4,5,6,7,9,10,11,12,13,14,48,64,73,83,85,100,119] fun K hK=>?_|(refine hK.go ?_;clear hK K)|with_reducible exact wT|refine wA ?_|(refine wB (fun h=>?_) (fun h=>?_)<;>first|exact wN h|subst (h:(_:Bool)=_)|skip)|(refine wQ ?_;clear hQ hR hE hM)|refine wC c1 ?_|refine wC c2 ?_|refine wC c3 ?_|refine wU c4 ?_|fail);all_goals clear hX)
 refine zgr 3 2 4 3 rfl rfl (Nat.zero_le _) (by (refine no_implicit_lambda% (st ?_);try with_reducible exact wT)) (by (refine no_implicit_lambda% (st ?_);try with_reducible exact wT)) ?_
 (refine no_implicit_lambda% (st ?_);try with_reducible exact wT)
 refine zai (ι:=Nat×(List AskR)) [2,4,5,6,7,9,10,11] (fun z=>[(11,.n z.1)]) (fun z=>[(3,.cells [.sl 1 (List.map zcP (nth p.routes m).path),.sl 1 (List.map zcP (nth p.routes m).over),.sm 4 (z.2.length*3) 0 z.2.length 3,.n (nth p.signals k).sec] true),(4,.cells (z.2.map AskR.c).flatten (decide (0<z.2.length)))]) (fun z=>z.1) (all.length) (fun z=>(z.2.length≤z.1)∧(z.2++zhW p z.1 (all.drop z.1) (I.drop z.1) (O.drop z.1)=W)) (0,([]:List AskR)) ?_;rintro ⟨i,A⟩ ⟨hk,hA,hgo⟩;(try dsimp only at hk hA hgo ⊢);rcases Nat.lt_or_ge i all.length with hlt|hge
 ·rw[zae hlt,zae (l:=I) (by omega),zae (l:=O) (by omega),zhW]at hgo
  obtain ⟨q,hq,hat,hAq⟩:=hix _ (hsec i hlt)
  unfold zqy at hgo
  rw[hAq]at hgo
  have c5:=cT (nth all i)
  rw[hat]at c5
  have c6:=cL (nth p.sections q) (nth I i) (nth O i)
  by_cases hp0:(nth p.sections q).pt=0
  ·rw[if_pos hp0,List.nil_append]at hgo
   (have hX:=@Int.toNat_natCast;(repeat' first|refine zaa [0,1,2,4,5,6,7,9,10,11,12,13,14,48,64,73,83,85,100,119] fun K hK=>?_|(refine hK.go ?_;clear hK K)|with_reducible exact wT|refine wA ?_|(refine wB (fun h=>?_) (fun h=>?_)<;>first|exact wN h|subst (h:(_:Bool)=_)|skip)|(refine wQ ?_;clear hQ hR hE hM)|refine wU c5 ?_|fail);all_goals clear hX)
   all_goals first|(exfalso;contradiction)|(exact nY (i+1,A) ⟨by (try dsimp only);omega,by (try dsimp only);omega,hgo⟩;done)|trace_state
  ·rw[if_neg hp0]at hgo
   by_cases hb:0≤nth O i
   ·rw[if_pos hb]at hgo
    generalize zhG (nth p.sections q) (nth I i) (nth O i)=lie at *
    by_cases hl:0<lie
    ·rw[if_pos hl]at hgo
     (have hX:=@Int.toNat_natCast;(repeat' first|refine zaa [0,1,2,4,5,6,7,9,10,11,12,13,14,48,64,73,83,85,100,119] fun K hK=>?_|(refine hK.go ?_;clear hK K)|with_reducible exact wT|refine wA ?_|(refine wB (fun h=>?_) (fun h=>?_)<;>first|exact wN h|subst (h:(_:Bool)=_)|skip)|(refine wQ ?_;clear hQ hR hE hM)|refine wU c5 ?_|refine wC c6 ?_|fail);all_goals clear hX)
     all_goals first|(exfalso;contradiction)|(exfalso;omega)|(exact nY (i+1,A++[⟨(nth p.sections q).pt,lie,(i:Int)⟩]) ⟨by (try dsimp only);omega,by (try dsimp only);simp;omega,by (try dsimp only);rw[←hgo];simp⟩;done)|trace_state
    ·rw[if_neg hl,List.nil_append]at hgo
     (have hX:=@Int.toNat_natCast;(repeat' first|refine zaa [0,1,2,4,5,6,7,9,10,11,12,13,14,48,64,73,83,85,100,119] fun K hK=>?_|(refine hK.go ?_;clear hK K)|with_reducible exact wT|refine wA ?_|(refine wB (fun h=>?_) (fun h=>?_)<;>first|exact wN h|subst (h:(_:Bool)=_)|skip)|(refine wQ ?_;clear hQ hR hE hM)|refine wU c5 ?_|refine wC c6 ?_|fail);all_goals clear hX)
     all_goals first|(exfalso;contradiction)|(exfalso;omega)|(exact nY (i+1,A) ⟨by (try dsimp only);omega,by (try dsimp only);omega,hgo⟩;done)|trace_state
   ·rw[if_neg hb]at hgo
    by_cases hl:0<nth I i
    ·rw[if_pos hl]at hgo
     (have hX:=@Int.toNat_natCast;(repeat' first|refine zaa [0,1,2,4,5,6,7,9,10,11,12,13,14,48,64,73,83,85,100,119] fun K hK=>?_|(refine hK.go ?_;clear hK K)|with_reducible exact wT|refine wA ?_|(refine wB (fun h=>?_) (fun h=>?_)<;>first|exact wN h|subst (h:(_:Bool)=_)|skip)|(refine wQ ?_;clear hQ hR hE hM)|refine wU c5 ?_|refine wC c6 ?_|fail);all_goals clear hX)
     all_goals first|(exfalso;contradiction)|(exfalso;omega)|(exact nY (i+1,A++[⟨(nth p.sections q).pt,nth I i,(i:Int)⟩]) ⟨by (try dsimp only);omega,by (try dsimp only);simp;omega,by (try dsimp only);rw[←hgo];simp⟩;done)|trace_state
    ·rw[if_neg hl,List.nil_append]at hgo
     (have hX:=@Int.toNat_natCast;(repeat' first|refine zaa [0,1,2,4,5,6,7,9,10,11,12,13,14,48,64,73,83,85,100,119] fun K hK=>?_|(refine hK.go ?_;clear hK K)|with_reducible exact wT|refine wA ?_|(refine wB (fun h=>?_) (fun h=>?_)<;>first|exact wN h|subst (h:(_:Bool)=_)|skip)|(refine wQ ?_;clear hQ hR hE hM)|refine wU c5 ?_|refine wC c6 ?_|fail);all_goals clear hX)
     all_goals first|(exfalso;contradiction)|(exfalso;omega)|(exact nY (i+1,A) ⟨by (try dsimp only);omega,by (try dsimp only);omega,hgo⟩;done)|trace_state
 ·rw[List.drop_eq_nil_of_le hge,zhW,List.append_nil]at hgo
  ·subst hgo
   (repeat' first|refine zaa [0,1,2,4,5,6,7,9,10,11,12,13,14,48,64,73,83,85,100,119] fun K hK=>?_|(refine hK.go ?_;clear hK K)|with_reducible exact wT|refine wA ?_|(refine wB (fun h=>?_) (fun h=>?_)<;>first|exact wN h|subst (h:(_:Bool)=_)|skip)|(refine wQ ?_;clear hQ hR hE hM)|fail)
   refine zai (ι:=Nat×(List AskR)) [4,5,10,14] (fun z=>[(14,.n z.1)]) (fun z=>[(3,.cells [.sl 1 (List.map zcP (nth p.routes m).path),.sl 1 (List.map zcP (nth p.routes m).over),.sm 4 (z.2.length*3) 0 z.2.length 3,.n (nth p.signals k).sec] true),(4,.cells (z.2.map AskR.c).flatten (decide (0<z.2.length)))]) (fun z=>z.1) ((nth p.routes m).flanks.length) (fun z=>(z.2.length≤i+z.1)∧(z.2++((nth p.routes m).flanks.drop z.1).map (fun x=>(⟨x.pnt,x.lie,-1⟩:AskR))=A++(nth p.routes m).flanks.map (fun x=>(⟨x.pnt,x.lie,-1⟩:AskR)))) (0,A) ?_;rintro ⟨k2,B⟩ ⟨hk,hB,hgb⟩;(try dsimp only at hk hB hgb ⊢);rcases Nat.lt_or_ge k2 (nth p.routes m).flanks.length with hlt|hge
   ·rw[zae (by assumption),List.map_cons]at hgb
    (repeat' first|refine zaa [0,1,2,4,5,6,7,9,10,11,12,13,14,48,64,73,83,85,100,119] fun K hK=>?_|(refine hK.go ?_;clear hK K)|with_reducible exact wT|refine wA ?_|(refine wB (fun h=>?_) (fun h=>?_)<;>first|exact wN h|subst (h:(_:Bool)=_)|skip)|(refine wQ ?_;clear hQ hR hE hM)|fail)
    all_goals first|(exfalso;contradiction)|(exact nY (k2+1,B++[⟨(nth (nth p.routes m).flanks k2).pnt,(nth (nth p.routes m).flanks k2).lie,-1⟩]) ⟨by (try dsimp only);omega,by (try dsimp only);simp;omega,by (try dsimp only);rw[←hgb];simp⟩;done)|trace_state
   ·rw[List.drop_eq_nil_of_le (by assumption),List.map_nil,List.append_nil]at hgb
    (repeat' first|refine zaa [0,1,2,4,5,6,7,9,10,11,12,13,14,48,64,73,83,85,100,119] fun K hK=>?_|(refine hK.go ?_;clear hK K)|with_reducible exact wT|refine wA ?_|(refine wB (fun h=>?_) (fun h=>?_)<;>first|exact wN h|subst (h:(_:Bool)=_)|skip)|(refine wQ ?_;clear hQ hR hE hM)|fail)
    all_goals first|(subst hgb;rfl)|trace_state
  ·intro a b c d e f h
   cases h
end Go.Lev
namespace Go.Lev
open Go.Eng
set_option maxRecDepth 10000
set_option maxHeartbeats 4000000
variable {P:Program} {inv:Nat→Option Nat} {w0:World} {M:Nat→Prop}
structure AllP (p:Pln):Prop where
 ok:OkP p
 sec:zb6 p.sections=true
 sgn:SgsP p
 pts:PtsP p
 rte:∀ r∈p.routes,RteP p r
theorem zqC {p:Pln} (h:zbR p=true):AllP p:=by
 have ho:=zhQ h
 have hg:=(zfk ho.sec).1 ho.sgn
 exact ⟨ho,ho.sec,hg,(zmZ ho.sec).1 ho.pts,fun r hr=>(zlR ho.sec hg r).1 (ho.rte r hr)⟩
theorem ziR {p:Pln} (ho:OkP p) {m:Nat} (hm:m<p.routes.length):zaZ (fun x=>decide (Rte.id x=(nth p.routes m).id)) 0 p.routes=(m:Int):=by
 rcases zaV Rte.id (nth p.routes m).id p.routes with ⟨_,h4⟩|⟨k,hk,h4,h5⟩
 ·exact absurd rfl (h4 _ (zab hm))
 ·rw[h4,nth_inj Rte.id (zkB ho) hk hm h5]
def sndB (p:Pln) (r:Rte):Bool:=decide ((zah p r).2.2=0)&&zbA p r
theorem zoF (hH:HasAll P inv) (p:Pln) (hp:Sm p) (h:AllP p) {m:Nat} (hm:m<p.routes.length):PC P inv 301 [.agg p.c,.agg (nth p.routes m).c] (·=.b (sndB p (nth p.routes m))):=by
 have hr:=h.rte _ (zab hm)
 have c1:=znl hH p hp h.sec h.sgn (nth p.routes m) hr
 have hw:=zg9 h.sec h.sgn h.pts hr
 unfold sndB
 cases hV:ziw p (nth p.routes m) with
 |none =>
  rw[hV]at c1 hw
  unfold zqb at c1
  dsimp only at c1 hw
  rw[hw,show (decide ((90:Int)=0)&&zbA p (nth p.routes m))=false from rfl]
  refine PC.fn hH cd301 fun w0 M Q hM hE hQ hR=>?_;dsimp only[cd301,qm,ql,qf,qi,qb,qc,qp,qv,qN,qT,qF,qt]at hQ ⊢
  (repeat' first|refine zaa [0,1,2,3,4,6,7,8,9,10,11,12,21,33,38,53,58,71,95] fun K hK=>?_|(refine hK.go ?_;clear hK K)|with_reducible exact wT|refine wA ?_|(refine wB (fun h=>?_) (fun h=>?_)<;>first|exact wN h|subst (h:(_:Bool)=_)|skip)|(refine wQ ?_;clear hQ hR hE hM)|refine wC c1 ?_|fail)
  all_goals first|rfl|(exfalso;contradiction)|trace_state
 |some v =>
  obtain ⟨I,O⟩:=v
  have c3:=zm5 hH p hp h.sec h.sgn h.pts hm hr hV
  rw[hV]at c1 hw
  unfold zqb at c1
  dsimp only at c1 hw
  have hlen:=hr.lens
  have hO:O.length=(nth p.routes m).path.length+(nth p.routes m).over.length:=by rw[hw.2.1,List.length_append]
  have h0:(zah p (nth p.routes m)).2.2=0:=by rw[hw.2.2]
  rw[h0,show (decide ((0:Int)=0)&&zbA p (nth p.routes m))=zbA p (nth p.routes m) from rfl]
  have c2:=zoU hH p.routes (by have:=hp.rte;omega) (nth p.routes m).id
  rw[ziR h.ok hm]at c2
  have hal:=(zbH h.ok (zab hm)).1
  obtain ⟨X,hF⟩:∃ X,sndF p (nth p.routes m) (zah p (nth p.routes m)).1.asks O=X:=⟨_,rfl⟩
  rw[←snd_eq h.ok h.sec h.sgn h.pts (zab hm) hr hV,hF]
  have cA:=fun (a b:Int)=>at_ref hH p (by have:=hp.sgn;omega) a b
  unfold sndF sndT at hF
  generalize (zah p (nth p.routes m)).1=w at *
  clear h hr hw h0
  refine PC.fn hH cd301 fun w0 M Q hM hE hQ hR=>?_;dsimp only[cd301,qm,ql,qf,qi,qb,qc,qp,qv,qN,qT,qF,qt]at hQ ⊢
  skip
  (repeat' first|refine zaa [0,1,2,3,4,6,7,8,9,10,11,12,21,33,38,53,58,71,95] fun K hK=>?_|(refine hK.go ?_;clear hK K)|with_reducible exact wT|refine wA ?_|(refine wE (fun h0 h=>?_) (fun h0 h=>?_)<;>first|exact wN h|((try replace hF:=wX hF);clear h0;first|exact hF.elim|((try subst (h:(_:Bool)=_));try replace hF:=wX hF)))|(refine wQ ?_;clear hQ hR hE hM)|refine wC c1 ?_|refine wU c2 ?_|refine wU c3 ?_|fail)
  all_goals first|(exfalso;contradiction)|skip
  refine za1 hF fun Bd Ed hBd hEd hF=>?_;refine zai (ι:=Nat) [2,3,4,6,8,9] (fun z=>[(9,.n z)]) (fun _=>[]) (fun z=>z) (w.asks.length) (fun z=>(zaK Bd Ed (w.asks.length-z) z ()=X)) (0) ?_;rintro i ⟨hk,hF⟩;(try dsimp only at hk hF ⊢);rcases Nat.lt_or_ge i w.asks.length with hlt|hge
  ·rw[zaJ hBd hlt]at hF;(try dsimp only at hF)
   (repeat' first|refine zaa [0,1,2,3,4,6,7,8,9,10,11,12,21,33,38,53,58,71,95] fun K hK=>?_|(refine hK.go ?_;clear hK K)|with_reducible exact wT|refine wA ?_|(refine wE (fun h0 h=>?_) (fun h0 h=>?_)<;>first|exact wN h|((try replace hF:=wX hF);clear h0;first|exact hF.elim|((try subst (h:(_:Bool)=_));try replace hF:=wX hF)))|(refine wQ ?_;clear hQ hR hE hM)|fail)
   refine za1 hF fun Bd Ed hBd hEd hF=>?_;refine zai (ι:=Nat) [2,3,4,6,8,9,10] (fun z=>[(10,.n z)]) (fun _=>[]) (fun z=>z) (i) (fun z=>(zaK Bd Ed (i-z) z ()=X)) (0) ?_;rintro k ⟨hk,hF⟩;(try dsimp only at hk hF ⊢);rcases Nat.lt_or_ge k i with hlt|hge
   ·rw[zaJ hBd hlt]at hF;(try dsimp only at hF)
    (repeat' first|refine zaa [0,1,2,3,4,6,7,8,9,10,11,12,21,33,38,53,58,71,95] fun K hK=>?_|(refine hK.go ?_;clear hK K)|with_reducible exact wT|refine wA ?_|(refine wE (fun h0 h=>?_) (fun h0 h=>?_)<;>first|exact wN h|((try replace hF:=wX hF);clear h0;first|exact hF.elim|((try subst (h:(_:Bool)=_));try replace hF:=wX hF)))|(refine wQ ?_;clear hQ hR hE hM)|fail)
    all_goals first|exact hF|(exfalso;contradiction)|exact congrArg AV.b hF|exact nX (k+1)
   ·rw[za0 hge,hEd]at hF;(try dsimp only at hF)
    (repeat' first|refine zaa [0,1,2,3,4,6,7,8,9,10,11,12,21,33,38,53,58,71,95] fun K hK=>?_|(refine hK.go ?_;clear hK K)|with_reducible exact wT|refine wA ?_|(refine wE (fun h0 h=>?_) (fun h0 h=>?_)<;>first|exact wN h|((try replace hF:=wX hF);clear h0;first|exact hF.elim|((try subst (h:(_:Bool)=_));try replace hF:=wX hF)))|(refine wQ ?_;clear hQ hR hE hM)|fail)
    all_goals exact nX (i+1)
  ·rw[za0 hge,hEd]at hF;(try dsimp only at hF)
   (repeat' first|refine zaa [0,1,2,3,4,6,7,8,9,10,11,12,21,33,38,53,58,71,95] fun K hK=>?_|(refine hK.go ?_;clear hK K)|with_reducible exact wT|refine wA ?_|(refine wE (fun h0 h=>?_) (fun h0 h=>?_)<;>first|exact wN h|((try replace hF:=wX hF);clear h0;first|exact hF.elim|((try subst (h:(_:Bool)=_));try replace hF:=wX hF)))|(refine wQ ?_;clear hQ hR hE hM)|fail)
   refine za1 hF fun Bd Ed hBd hEd hF=>?_;refine zai (ι:=Nat) [2,3,4,6,11] (fun z=>[(11,.n z)]) (fun _=>[]) (fun z=>z) ((nth p.routes m).path.length) (fun z=>(zaK Bd Ed ((nth p.routes m).path.length-z) z ()=X)) (0) ?_;rintro i ⟨hk,hF⟩;(try dsimp only at hk hF ⊢);rcases Nat.lt_or_ge i (nth p.routes m).path.length with hlt|hge
   ·rw[zaJ hBd hlt]at hF;(try dsimp only at hF)
    have c4:=cA (nth (nth p.routes m).path i) (nth O i)
    generalize znB p (nth (nth p.routes m).path i) (nth O i)=g at *
    (repeat' first|refine zaa [0,1,2,3,4,6,7,8,9,10,11,12,21,33,38,53,58,71,95] fun K hK=>?_|(refine hK.go ?_;clear hK K)|with_reducible exact wT|refine wA ?_|(refine wE (fun h0 h=>?_) (fun h0 h=>?_)<;>first|exact wN h|((try replace hF:=wX hF);clear h0;first|exact hF.elim|((try subst (h:(_:Bool)=_));try replace hF:=wX hF)))|(refine wQ ?_;clear hQ hR hE hM)|refine wC c4 ?_|fail)
    all_goals first|exact hF|(exfalso;contradiction)|exact congrArg AV.b hF|exact nX (i+1)
   ·rw[za0 hge,hEd]at hF;(try dsimp only at hF)
    (repeat' first|refine zaa [0,1,2,3,4,6,7,8,9,10,11,12,21,33,38,53,58,71,95] fun K hK=>?_|(refine hK.go ?_;clear hK K)|with_reducible exact wT|refine wA ?_|(refine wE (fun h0 h=>?_) (fun h0 h=>?_)<;>first|exact wN h|((try replace hF:=wX hF);clear h0;first|exact hF.elim|((try subst (h:(_:Bool)=_));try replace hF:=wX hF)))|(refine wQ ?_;clear hQ hR hE hM)|fail)
    all_goals first|exact hF|exact congrArg AV.b hF|trace_state
theorem znT (p:Pln):zba p=(zbR p&&p.routes.all (sndB p)):=by
 unfold zba zqD sndB
 congr 1
 induction p.routes with
 |nil=>rfl
 |cons r l ih =>
  simp only[List.all_cons]
  rw[←ih]
  cases decide ((zah p r).2.2=0)<;>cases zbA p r<;>simp
theorem zkS (hH:HasAll P inv) (p:Pln) (hp:Sm p):PC P inv 295 [.agg p.c] (·=.b (zba p)):=by
 have c1:=may_ref hH p hp
 have hl:=hp.rte
 rw[znT]
 by_cases hok:zbR p=true
 ·have h:=zqC hok
  have cS:=fun (m:Nat) (hm:m<p.routes.length)=>zoF hH p hp h hm
  rw[hok]at c1
  rw[hok,Bool.true_and]
  clear h hok
  refine PC.fn hH cd295 fun w0 M Q hM hE hQ hR=>?_;dsimp only[cd295,qm,ql,qf,qi,qb,qc,qp,qv,qN,qT,qF,qt]at hQ ⊢
  (repeat' first|refine zaa [0,1,2,3,6,11,20,21] fun K hK=>?_|(refine hK.go ?_;clear hK K)|with_reducible exact wT|refine wA ?_|(refine wB (fun h=>?_) (fun h=>?_)<;>first|exact wN h|subst (h:(_:Bool)=_)|skip)|(refine wQ ?_;clear hQ hR hE hM)|refine wC c1 ?_|fail)
  all_goals first|(exfalso;contradiction)|skip
  refine zai (ι:=Nat) [1,2,3] (fun z=>[(3,.n z)]) (fun _=>[]) (fun z=>z) (p.routes.length) (fun z=>((p.routes.drop z).all (sndB p)=p.routes.all (sndB p))) (0) ?_;rintro k ⟨hk,hg⟩;(try dsimp only at hk hg ⊢);rcases Nat.lt_or_ge k p.routes.length with hlt|hge
  ·rw[zae hlt,List.all_cons]at hg
   have c2:=cS k hlt
   cases hb:sndB p (nth p.routes k) with
   |true =>
    rw[hb]at c2 hg
    rw[Bool.true_and]at hg
    (repeat' first|refine zaa [0,1,2,3,6,11,20,21] fun K hK=>?_|(refine hK.go ?_;clear hK K)|with_reducible exact wT|refine wA ?_|(refine wB (fun h=>?_) (fun h=>?_)<;>first|exact wN h|subst (h:(_:Bool)=_)|skip)|(refine wQ ?_;clear hQ hR hE hM)|refine wC c2 ?_|fail)
    all_goals first|(exfalso;contradiction)|exact ⟨k+1,by omega,⟨by omega,hg⟩,by omega⟩|trace_state
   |false =>
    rw[hb]at c2 hg
    rw[Bool.false_and]at hg
    (repeat' first|refine zaa [0,1,2,3,6,11,20,21] fun K hK=>?_|(refine hK.go ?_;clear hK K)|with_reducible exact wT|refine wA ?_|(refine wB (fun h=>?_) (fun h=>?_)<;>first|exact wN h|subst (h:(_:Bool)=_)|skip)|(refine wQ ?_;clear hQ hR hE hM)|refine wC c2 ?_|fail)
    all_goals first|(exfalso;contradiction)|exact congrArg AV.b hg|exact hg|trace_state
  ·rw[List.drop_eq_nil_of_le hge,List.all_nil]at hg
   (repeat' first|refine zaa [0,1,2,3,6,11,20,21] fun K hK=>?_|(refine hK.go ?_;clear hK K)|with_reducible exact wT|refine wA ?_|(refine wB (fun h=>?_) (fun h=>?_)<;>first|exact wN h|subst (h:(_:Bool)=_)|skip)|(refine wQ ?_;clear hQ hR hE hM)|fail)
   all_goals first|exact congrArg AV.b hg|exact hg|trace_state
 ·have hok:zbR p=false:=by simpa using hok
  rw[hok]at c1
  rw[hok,Bool.false_and]
  refine PC.fn hH cd295 fun w0 M Q hM hE hQ hR=>?_;dsimp only[cd295,qm,ql,qf,qi,qb,qc,qp,qv,qN,qT,qF,qt]at hQ ⊢
  (repeat' first|refine zaa [0,1,2,3,6,11,20,21] fun K hK=>?_|(refine hK.go ?_;clear hK K)|with_reducible exact wT|refine wA ?_|(refine wB (fun h=>?_) (fun h=>?_)<;>first|exact wN h|subst (h:(_:Bool)=_)|skip)|(refine wQ ?_;clear hQ hR hE hM)|refine wC c1 ?_|fail)
  all_goals first|rfl|(exfalso;contradiction)|trace_state
end Go.Lev
namespace Go.Lev
open Go.Eng
set_option maxRecDepth 10000
set_option maxHeartbeats 4000000
variable {P:Program} {inv:Nat→Option Nat} {w0:World} {M:Nat→Prop}
theorem zpc {p:Pln} (h:zba p=true):zbR p=true:=by unfold zba at h;rw[Bool.and_eq_true]at h;exact h.1
theorem zhb (hH:HasAll P inv) (p:Pln) (hp:Sm p) (h:zba p=true) {m:Nat} (hm:m<p.routes.length):PC P inv 312 [.agg p.c,.n m] (·=.agg (zah p (nth p.routes m)).1.c):=by
 have hA:=zqC (zpc h)
 have hr:=hA.rte _ (zab hm)
 have hw:=zg9 hA.sec hA.sgn hA.pts hr
 cases hV:ziw p (nth p.routes m) with
 |none =>
  rw[hV]at hw
  have h0:=(zaN h).2.1 _ (zab hm)
  rw[h0]at hw
  cases hw
 |some v =>
  have c1:=zm5 hH p hp hA.sec hA.sgn hA.pts hm hr hV
  clear hA hr hw hV
  generalize (zah p (nth p.routes m)).1=w at *
  refine PC.fn hH cd312 fun w0 M Q hM hE hQ hR=>?_;dsimp only[cd312,qm,ql,qf,qi,qb,qc,qp,qv,qN,qT,qF,qt]at hQ ⊢
  (repeat' first|refine zaa [0,1,2,4] fun K hK=>?_|(refine hK.go ?_;clear hK K)|with_reducible exact wT|refine wA ?_|(refine wB (fun h=>?_) (fun h=>?_)<;>first|exact wN h|subst (h:(_:Bool)=_)|skip)|(refine wQ ?_;clear hQ hR hE hM)|refine wC c1 ?_|fail)
  all_goals first|rfl|trace_state
theorem held_ref (hH:HasAll P inv) (p:Pln) (hp:Sm p) (h:zba p=true) {m:Nat} (hm:m<p.routes.length) (l:Lock):PC P inv 302 [.agg p.c,.agg l.c,.n m] (·=.sl 1 ((zbz (zah p (nth p.routes m)).1 l).map zcP)):=by
 have c1:=zhb hH p hp h hm
 have hwl:=zbH (zaN h).1 (zab hm)
 generalize (zah p (nth p.routes m)).1=w at *
 clear h
 unfold zbz
 by_cases h0:l.phase=0
 ·rw[if_pos h0]
  refine PC.fn hH cd302 fun w0 M Q hM hE hQ hR=>?_;dsimp only[cd302,qm,ql,qf,qi,qb,qc,qp,qv,qN,qT,qF,qt]at hQ ⊢
  (repeat' first|refine zaa [0,1,2,3,4,6,7,8,9,12,23] fun K hK=>?_|(refine hK.go ?_;clear hK K)|with_reducible exact wT|refine wA ?_|(refine wB (fun h=>?_) (fun h=>?_)<;>first|exact wN h|subst (h:(_:Bool)=_)|skip)|(refine wQ ?_;clear hQ hR hE hM)|fail)
  all_goals first|rfl|(exfalso;contradiction)|trace_state
 ·rw[if_neg h0]
  have hmx:(if l.gone<0 then (0:Int) else l.gone)=((l.gone.toNat:Nat):Int):=by split<;>omega
  generalize l.gone.toNat=g at *
  refine PC.fn hH cd302 fun w0 M Q hM hE hQ hR=>?_;dsimp only[cd302,qm,ql,qf,qi,qb,qc,qp,qv,qN,qT,qF,qt]at hQ ⊢
  (have hX:=@hmx;(repeat' first|refine zaa [0,1,2,3,4,6,7,8,9,12,23] fun K hK=>?_|(refine hK.go ?_;clear hK K)|with_reducible exact wT|refine wA ?_|(refine wB (fun h=>?_) (fun h=>?_)<;>first|exact wN h|subst (h:(_:Bool)=_)|skip)|(refine wQ ?_;clear hQ hR hE hM)|refine wC c1 ?_|fail);all_goals clear hX)
  all_goals first|(exfalso;contradiction)|skip
  refine AWp.empty 8 3 1 rfl (Nat.zero_le _) (by (refine no_implicit_lambda% (st ?_);try with_reducible exact wT)) (by (refine no_implicit_lambda% (st ?_);try with_reducible exact wT)) ?_
  (refine no_implicit_lambda% (st ?_);try with_reducible exact wT)
  refine zai (ι:=Nat×(List Int)) [6,7,8,9] (fun z=>[(8,.sm 3 z.2.length 0 z.2.length 1),(9,.n ((g+z.1:Nat):Int))]) (fun z=>[(3,.cells (z.2.map zcP).flatten (decide (0<z.2.length)))]) (fun z=>z.1) ((w.path.length-g)) (fun z=>(z.2.length=z.1)∧(z.2++w.path.drop (g+z.1)=w.path.drop g)) (0,([]:List Int)) ?_;rintro ⟨k,A⟩ ⟨hk,hA,hgo⟩;(try dsimp only at hk hA hgo ⊢);rcases Nat.lt_or_ge k (w.path.length-g) with hlt|hge
  ·have hlt2:g+k<w.path.length:=by omega
   rw[zae hlt2]at hgo
   (have hX:=@Int.toNat_natCast;(repeat' first|refine zaa [0,1,2,3,4,6,7,8,9,12,23] fun K hK=>?_|(refine hK.go ?_;clear hK K)|with_reducible exact wT|refine wA ?_|(refine wB (fun h=>?_) (fun h=>?_)<;>first|exact wN h|subst (h:(_:Bool)=_)|skip)|(refine wQ ?_;clear hQ hR hE hM)|fail);all_goals clear hX)
   all_goals first|(exfalso;omega)|(exact nY (k+1,A++[nth w.path (g+k)]) ⟨by (try dsimp only);omega,by (try dsimp only);simp[hA],by (try dsimp only);rw[←hgo];simp[Nat.add_assoc]⟩;done)|trace_state
  ·rw[List.drop_eq_nil_of_le (show w.path.length≤g+k by omega),List.append_nil]at hgo
   have hgo2:w.path.drop g++w.over=A++w.over:=by rw[hgo]
   have f0:(A.map zcP).flatten++(w.over.map zcP).flatten=((A++w.over).map zcP).flatten:=by simp
   have f1:A.length+w.over.length=(A++w.over).length:=by simp
   generalize A++w.over=all at *
   (have hX:=zA @f0 @f1;(repeat' first|refine zaa [0,1,2,3,4,6,7,8,9,12,23] fun K hK=>?_|(refine hK.go ?_;clear hK K)|with_reducible exact wT|refine wA ?_|(refine wB (fun h=>?_) (fun h=>?_)<;>first|exact wN h|subst (h:(_:Bool)=_)|skip)|(refine wQ ?_;clear hQ hR hE hM)|fail);all_goals clear hX)
   all_goals first|(exfalso;omega)|(rw[hgo2];done)|(rw[hgo2];rfl)|trace_state
theorem asks_ref (hH:HasAll P inv) (p:Pln) (hp:Sm p) (h:zba p=true) {m:Nat} (hm:m<p.routes.length) (l:Lock):PC P inv 303 [.agg p.c,.agg l.c,.n m] (·=.sl 3 (((zbK (zah p (nth p.routes m)).1 l).filter (zcz l)).map AskR.c)):=by
 have c1:=zhb hH p hp h hm
 have hwl:=zbH (zaN h).1 (zab hm)
 generalize (zah p (nth p.routes m)).1=w at *
 clear h
 unfold zbK
 by_cases h0:l.phase=0
 ·rw[if_pos h0]
  refine PC.fn hH cd303 fun w0 M Q hM hE hQ hR=>?_;dsimp only[cd303,qm,ql,qf,qi,qb,qc,qp,qv,qN,qT,qF,qt]at hQ ⊢
  (repeat' first|refine zaa [0,1,2,3,4,6,7,8,9,12,20,40] fun K hK=>?_|(refine hK.go ?_;clear hK K)|with_reducible exact wT|refine wA ?_|(refine wB (fun h=>?_) (fun h=>?_)<;>first|exact wN h|subst (h:(_:Bool)=_)|skip)|(refine wQ ?_;clear hQ hR hE hM)|fail)
  all_goals first|rfl|(exfalso;contradiction)|trace_state
 ·rw[if_neg h0]
  refine PC.fn hH cd303 fun w0 M Q hM hE hQ hR=>?_;dsimp only[cd303,qm,ql,qf,qi,qb,qc,qp,qv,qN,qT,qF,qt]at hQ ⊢
  (repeat' first|refine zaa [0,1,2,3,4,6,7,8,9,12,20,40] fun K hK=>?_|(refine hK.go ?_;clear hK K)|with_reducible exact wT|refine wA ?_|(refine wB (fun h=>?_) (fun h=>?_)<;>first|exact wN h|subst (h:(_:Bool)=_)|skip)|(refine wQ ?_;clear hQ hR hE hM)|refine wC c1 ?_|fail)
  all_goals first|(exfalso;contradiction)|skip
  refine AWp.empty 8 3 3 rfl (Nat.zero_le _) (by (refine no_implicit_lambda% (st ?_);try with_reducible exact wT)) (by (refine no_implicit_lambda% (st ?_);try with_reducible exact wT)) ?_
  (refine no_implicit_lambda% (st ?_);try with_reducible exact wT)
  refine zai (ι:=Nat×(List AskR)) [4,6,7,8,9] (fun z=>[(8,.sm 3 (z.2.length*3) 0 z.2.length 3),(9,.n z.1)]) (fun z=>[(3,.cells (z.2.map AskR.c).flatten (decide (0<z.2.length)))]) (fun z=>z.1) (w.asks.length) (fun z=>(z.2.length≤z.1)∧(z.2++(w.asks.drop z.1).filter (zcz l)=w.asks.filter (zcz l))) (0,([]:List AskR)) ?_;rintro ⟨k,A⟩ ⟨hk,hA,hgo⟩;(try dsimp only at hk hA hgo ⊢);rcases Nat.lt_or_ge k w.asks.length with hlt|hge
  ·rw[zae hlt,List.filter_cons]at hgo
   by_cases hn:(nth w.asks k).pos<0
   ·rw[if_pos (by unfold zcz;simp[hn])]at hgo
    (repeat' first|refine zaa [0,1,2,3,4,6,7,8,9,12,20,40] fun K hK=>?_|(refine hK.go ?_;clear hK K)|with_reducible exact wT|refine wA ?_|(refine wB (fun h=>?_) (fun h=>?_)<;>first|exact wN h|subst (h:(_:Bool)=_)|skip)|(refine wQ ?_;clear hQ hR hE hM)|fail)
    all_goals first|(exfalso;omega)|(exact nY (k+1,A++[nth w.asks k]) ⟨by (try dsimp only);omega,by (try dsimp only);simp;omega,by (try dsimp only);rw[←hgo];simp⟩;done)|trace_state
   ·by_cases hg:l.gone≤(nth w.asks k).pos
    ·rw[if_pos (by unfold zcz;simp[hg])]at hgo
     (repeat' first|refine zaa [0,1,2,3,4,6,7,8,9,12,20,40] fun K hK=>?_|(refine hK.go ?_;clear hK K)|with_reducible exact wT|refine wA ?_|(refine wB (fun h=>?_) (fun h=>?_)<;>first|exact wN h|subst (h:(_:Bool)=_)|skip)|(refine wQ ?_;clear hQ hR hE hM)|fail)
     all_goals first|(exfalso;omega)|(exact nY (k+1,A++[nth w.asks k]) ⟨by (try dsimp only);omega,by (try dsimp only);simp;omega,by (try dsimp only);rw[←hgo];simp⟩;done)|trace_state
    ·rw[if_neg (by unfold zcz;simp[hn,hg])]at hgo
     (repeat' first|refine zaa [0,1,2,3,4,6,7,8,9,12,20,40] fun K hK=>?_|(refine hK.go ?_;clear hK K)|with_reducible exact wT|refine wA ?_|(refine wB (fun h=>?_) (fun h=>?_)<;>first|exact wN h|subst (h:(_:Bool)=_)|skip)|(refine wQ ?_;clear hQ hR hE hM)|fail)
     all_goals first|(exfalso;omega)|(exact nY (k+1,A) ⟨by (try dsimp only);omega,by (try dsimp only);omega,hgo⟩;done)|trace_state
  ·rw[List.drop_eq_nil_of_le hge,List.filter_nil,List.append_nil]at hgo
   (repeat' first|refine zaa [0,1,2,3,4,6,7,8,9,12,20,40] fun K hK=>?_|(refine hK.go ?_;clear hK K)|with_reducible exact wT|refine wA ?_|(refine wB (fun h=>?_) (fun h=>?_)<;>first|exact wN h|subst (h:(_:Bool)=_)|skip)|(refine wQ ?_;clear hQ hR hE hM)|fail)
   all_goals first|(subst hgo;rfl)|(rw[←hgo];done)|trace_state
end Go.Lev
namespace Go.Lev
open Go.Eng
def trkB (x:Track) (y:Section):Bool:=!decide (x.id=y.id)||decide (2<x.is)
def swtB (x:Switch) (y:Pnt):Bool:=!decide (x.id=y.id)||(decide (x.lie<0)||(decide (2<x.lie)||(decide (x.call<0)||decide (2<x.call))))
def lckB (x:Lock) (y:Rte):Bool:=!decide (x.id=y.id)||!zat x y
def prtF (p:Pln) (s:State):Bool :=
 cond (!decide ((s.tracks.length:Int)=p.sections.length)||(!decide ((s.switches.length:Int)=p.points.length)||!decide ((s.locks.length:Int)=p.routes.length))) false
  (zaK (fun i _ za9=>cond (trkB (nth s.tracks i) (nth p.sections i)) false (za9 ()))
   (fun _=>zaK (fun i _ za9=>cond (swtB (nth s.switches i) (nth p.points i)) false (za9 ()))
    (fun _=>zaK (fun i _ za9=>cond (lckB (nth s.locks i) (nth p.routes i)) false (za9 ())) (fun _=>true) s.locks.length 0 ())
    s.switches.length 0 ()) s.tracks.length 0 ())
theorem zjN {n:Nat} {q:Nat→Bool} {fin:Unit→Bool} {X:Bool} (h1:∀ i,i<n→q i=true→false=X) (h2:(∀ i,i<n→q i=false)→fin ()=X):zaK (fun i _ za9=>cond (q i) false (za9 ())) fin n 0 ()=X:=by
 refine zaX (·=X) (fun i _=>∀ j,j<i→q j=false) (fun j hj=>by omega) ?_ fun _ h=>h2 h
 intro i _ za9 hi hI hn
 cases hq:q i with
 |true=>rw[cond_true];exact h1 i hi hq
 |false =>
  rw[cond_false]
  refine hn () fun j hj=>?_
  rcases Nat.lt_or_ge j i with h|h
  ·exact hI j h
  ·obtain rfl:j=i:=by omega
   exact hq
theorem prtF_eq (p:Pln) (s:State):prtF p s=zak p s:=by
 generalize hX:zak p s=X
 have t1:∀ x y,trkB x y=!zfZ x y:=fun x y=>by
  unfold trkB zfZ
  rw[Bool.not_and]
  congr 1
  rw[Bool.eq_iff_iff]
  simp
 have t2:∀ x y,swtB x y=!zf0 x y:=fun x y=>by
  unfold swtB zf0 zfC
  rw[Bool.eq_iff_iff]
  simp only[Bool.or_eq_true,Bool.not_eq_true',Bool.and_eq_false_imp,decide_eq_true_eq,decide_eq_false_iff_not,Bool.and_eq_true,Bool.not_eq_true,Bool.and_eq_false_imp]
  constructor
  ·rintro (h|h|h|h|h)
   ·intro h1;exact absurd h1 h
   ·intro _ h1;omega
   ·intro _ h1;omega
   ·intro _ _ h1;omega
   ·intro _ _ h1;omega
  ·intro h
   by_cases h1:x.id=y.id
   ·have h2:=h h1
    by_cases h3:0≤x.lie∧x.lie≤2
    ·have h4:=h2 h3
     by_cases h5:0≤x.call
     ·have h6:=h4 h5;omega
     ·omega
    ·omega
   ·exact .inl h1
 have t3:∀ x y,lckB x y=!zbJ x y:=fun x y=>by
  unfold lckB zbJ
  rw[Bool.not_and]
 have hiff:X=true↔(s.tracks.length=p.sections.length∧∀ i,i<s.tracks.length→zfZ (nth s.tracks i) (nth p.sections i)=true)∧(s.switches.length=p.points.length∧∀ i,i<s.switches.length→zf0 (nth s.switches i) (nth p.points i)=true)∧(s.locks.length=p.routes.length∧∀ i,i<s.locks.length→zbJ (nth s.locks i) (nth p.routes i)=true):=by
  rw[←hX]
  unfold zak
  simp only[Bool.and_eq_true,zcn]
 have bad:¬((s.tracks.length=p.sections.length∧∀ i,i<s.tracks.length→zfZ (nth s.tracks i) (nth p.sections i)=true)∧(s.switches.length=p.points.length∧∀ i,i<s.switches.length→zf0 (nth s.switches i) (nth p.points i)=true)∧(s.locks.length=p.routes.length∧∀ i,i<s.locks.length→zbJ (nth s.locks i) (nth p.routes i)=true))→false=X:=fun h=>by
  cases X with
  |false=>rfl
  |true=>exact absurd (hiff.1 rfl) h
 unfold prtF
 by_cases hl:s.tracks.length=p.sections.length∧s.switches.length=p.points.length∧s.locks.length=p.routes.length
 ·rw[decide_eq_true (show (s.tracks.length:Int)=p.sections.length by omega),decide_eq_true (show (s.switches.length:Int)=p.points.length by omega),decide_eq_true (show (s.locks.length:Int)=p.routes.length by omega)]
  show zaK _ _ _ _ _=X
  refine zjN (fun i hi hq=>bad fun h=>?_) fun h1=>zjN (fun i hi hq=>bad fun h=>?_) fun h2=>zjN (fun i hi hq=>bad fun h=>?_) fun h3=>(hiff.2 ⟨⟨hl.1,fun i hi=>?_⟩,⟨hl.2.1,fun i hi=>?_⟩,hl.2.2,fun i hi=>?_⟩).symm
  ·rw[t1,h.1.2 i hi]at hq;cases hq
  ·rw[t2,h.2.1.2 i hi]at hq;cases hq
  ·rw[t3,h.2.2.2 i hi]at hq;cases hq
  ·have:=h1 i hi;rw[t1]at this;simpa using this
  ·have:=h2 i hi;rw[t2]at this;simpa using this
  ·have:=h3 i hi;rw[t3]at this;simpa using this
 ·have:(!decide ((s.tracks.length:Int)=p.sections.length)||(!decide ((s.switches.length:Int)=p.points.length)||!decide ((s.locks.length:Int)=p.routes.length)))=true:=by
   rw[←Bool.not_eq_false]
   intro hf
   simp only[Bool.or_eq_false_iff,Bool.not_eq_false',decide_eq_true_eq]at hf
   exact hl ⟨by omega,by omega,by omega⟩
  rw[this,cond_true]
  exact bad fun h=>hl ⟨h.1.1,h.2.1.1,h.2.2.1⟩
end Go.Lev
namespace Go.Lev
open Go.Eng
def mayF (s:State) (hd:Nat→List Int) (as:Nat→List AskR):Bool :=
 zaK (fun i (st:List Bool×List Int) za9 =>
   zaK (fun k (H:List Bool) next2=>cond (nth H (nth (hd i) k).toNat) false (next2 (H.set (nth (hd i) k).toNat true)))
    (fun H=>zaK (fun k (A:List Int) next3 =>
      cond (!decide (nth A (nth (as i) k).pnt.toNat=0)&&!decide (nth A (nth (as i) k).pnt.toNat=(nth (as i) k).lie)||!decide (zby s (nth (as i) k).pnt=(nth (as i) k).lie)) false (next3 (A.set (nth (as i) k).pnt.toNat (nth (as i) k).lie)))
     (fun A=>za9 (H,A)) (as i).length 0 st.2) (hd i).length 0 st.1)
  (fun _=>true) s.locks.length 0 (List.replicate 100 false,List.replicate 100 0)
theorem mayF_eq {p:Pln} {s:State} (ho:zba p=true) (hpa:zak p s=true):mayF s (zdv p s) (zd0 p s)=decide (zag p s=0):=by
 have hok:=(zaN ho).1
 have hpl:=zan hpa
 have hdr:∀ i,i<s.locks.length→∀ m∈zdv p s i,0≤m∧m≤99:=fun i hi m hm=>by
  have hr:nth p.routes i∈p.routes:=zab (by omega)
  have hwp:=zbC ((zaN ho).2.1 _ hr)
  have h1:m∈(nth p.routes i).path++(nth p.routes i).over:=by
   unfold zdv zbz at hm
   split at hm
   ·cases hm
   ·rw[hwp.1,hwp.2.1]at hm
    rcases List.mem_append.1 hm with h|h
    ·exact List.mem_append.2 (.inl (List.mem_of_mem_drop h))
    ·exact List.mem_append.2 (.inr h)
  obtain ⟨q,hq,e⟩:=(zcc hok hr).1 m h1
  have:=zdq hok hq
  omega
 have hdn:∀ i,i<s.locks.length→(zdv p s i).Nodup:=fun i hi=>by
  have hr:nth p.routes i∈p.routes:=zab (by omega)
  have hwp:=zbC ((zaN ho).2.1 _ hr)
  unfold zdv zbz
  split
  ·exact List.nodup_nil
  ·rw[hwp.1,hwp.2.1]
   exact (zcc hok hr).2.sublist ((List.drop_sublist _ _).append (List.Sublist.refl _))
 have har:∀ i,i<s.locks.length→∀ a∈zd0 p s i,(1≤a.pnt∧a.pnt≤99)∧(a.lie=1∨a.lie=2):=fun i hi a ha=>by
  have hr:nth p.routes i∈p.routes:=zab (by omega)
  have h1:a∈(zah p (nth p.routes i)).1.asks:=by
   unfold zd0 at ha
   have:=(List.mem_filter.1 ha).1
   unfold zbK at this
   split at this
   ·cases this
   ·exact this
  exact (zbG hok hr h1).2
 generalize hX:decide (zag p s=0)=X
 have hiff:X=true↔(∀ i j,i<s.locks.length→j<s.locks.length→i≠j→∀ m∈zdv p s i,m∉zdv p s j)∧∀ i,i<s.locks.length→∀ a∈zd0 p s i,zby s a.pnt=a.lie:=by
  rw[←hX,decide_eq_true_eq,zd7]
  exact ⟨fun h=>h.2.2,fun h=>⟨ho,hpa,h⟩⟩
 have bad:¬((∀ i j,i<s.locks.length→j<s.locks.length→i≠j→∀ m∈zdv p s i,m∉zdv p s j)∧∀ i,i<s.locks.length→∀ a∈zd0 p s i,zby s a.pnt=a.lie)→false=X:=fun h=>by
  cases X with
  |false=>rfl
  |true=>exact absurd (hiff.1 rfl) h
 unfold mayF
 refine zaX (·=X) (fun i (st:List Bool×List Int)=>(st.1.length=100∧st.2.length=100)∧(∀ m:Int,0≤m→m≤99→(nth st.1 m.toNat=true↔∃ j,j<i∧m∈zdv p s j))∧(∀ m:Int,0≤m→m≤99→nth st.2 m.toNat=0∨zby s m=nth st.2 m.toNat) ∧
   (∀ j k,j<i→k<i→j≠k→∀ m∈zdv p s j,m∉zdv p s k)∧∀ j,j<i→∀ a∈zd0 p s j,zby s a.pnt=a.lie) ?_ ?_ ?_
 ·refine ⟨⟨by simp,by simp⟩,fun m h1 h2=>?_,fun m h1 h2=>.inl (zdh _ _ _ (by omega)),fun j k hj=>by omega,fun j hj=>by omega⟩
  rw[zdh _ _ _ (by omega)]
  exact ⟨fun h=>(by cases h),fun ⟨j,hj,_⟩=>by omega⟩
 ·rintro i ⟨H,A⟩ za9 hi ⟨⟨hHl,hAl⟩,hH,hA,hap,hca⟩ hn
  dsimp only at hHl hAl hH hA ⊢
  refine zaX (·=X) (fun k (H:List Bool)=>H.length=100∧(∀ m:Int,0≤m→m≤99→(nth H m.toNat=true↔(∃ j,j<i∧m∈zdv p s j)∨∃ q,q<k∧nth (zdv p s i) q=m))∧∀ q,q<k→∀ j,j<i→nth (zdv p s i) q∉zdv p s j) ?_ ?_ ?_
  ·exact ⟨hHl,fun m h1 h2=>(hH m h1 h2).trans ⟨fun h=>.inl h,fun h=>h.elim id fun ⟨q,hq,_⟩=>by omega⟩,fun q hq=>by omega⟩
  ·rintro k H next2 hk ⟨hHl,hH,hno⟩ hn2
   have hm:=hdr i hi _ (zab hk)
   have hHk:=hH _ hm.1 hm.2
   cases hb:nth H (nth (zdv p s i) k).toNat with
   |true =>
    rw[cond_true]
    refine bad fun h=>?_
    rcases hHk.1 hb with ⟨j,hj,hmj⟩|⟨q,hq,e⟩
    ·exact h.1 i j hi (by omega) (by omega) _ (zab hk) hmj
    ·have:=zhU.1 (hdn i hi) k hk q hq
     exact this e
   |false =>
    rw[cond_false]
    refine hn2 _ ⟨by simpa using hHl,fun m h1 h2=>?_,fun q hq j hj=>?_⟩
    ·rw[za4 _ _ _ _ (by omega)]
     by_cases e:m=nth (zdv p s i) k
     ·subst e
      rw[if_pos rfl]
      exact ⟨fun _=>.inr ⟨k,by omega,rfl⟩,fun _=>rfl⟩
     ·rw[if_neg (by omega),hH m h1 h2]
      constructor
      ·rintro (h|⟨q,hq,eq⟩)
       ·exact .inl h
       ·exact .inr ⟨q,by omega,eq⟩
      ·rintro (h|⟨q,hq,eq⟩)
       ·exact .inl h
       ·rcases Nat.lt_or_ge q k with h3|h3
        ·exact .inr ⟨q,h3,eq⟩
        ·obtain rfl:q=k:=by omega
         exact absurd eq.symm e
    ·rcases Nat.lt_or_ge q k with h3|h3
     ·exact hno q h3 j hj
     ·obtain rfl:q=k:=by omega
      intro hmj
      have:=hHk.2 (.inl ⟨j,hj,hmj⟩)
      rw[hb]at this
      cases this
  ·rintro H ⟨hHl,hH,hno⟩
   refine zaX (·=X) (fun k (A:List Int)=>A.length=100∧(∀ m:Int,0≤m→m≤99→nth A m.toNat=0∨zby s m=nth A m.toNat)∧∀ q,q<k→zby s (nth (zd0 p s i) q).pnt=(nth (zd0 p s i) q).lie) ⟨hAl,hA,fun q hq=>by omega⟩ ?_ ?_
   ·rintro k A next3 hk ⟨hAl,hA,hcq⟩ hn3
    have hm:=har i hi _ (zab hk)
    by_cases hc:zby s (nth (zd0 p s i) k).pnt=(nth (zd0 p s i) k).lie
    ·have hAk:=hA (nth (zd0 p s i) k).pnt (by omega) (by omega)
     have:(!decide (nth A (nth (zd0 p s i) k).pnt.toNat=0)&&!decide (nth A (nth (zd0 p s i) k).pnt.toNat=(nth (zd0 p s i) k).lie)||!decide (zby s (nth (zd0 p s i) k).pnt=(nth (zd0 p s i) k).lie))=false:=by
      rcases hAk with h|h
      ·simp[h,hc]
      ·simp[←h,hc]
     rw[this,cond_false]
     refine hn3 _ ⟨by simpa using hAl,fun m h1 h2=>?_,fun q hq=>?_⟩
     ·rw[za4 _ _ _ _ (by omega)]
      by_cases e:m=(nth (zd0 p s i) k).pnt
      ·rw[if_pos (by rw[e]),e]
       exact .inr hc
      ·rw[if_neg (by omega)]
       exact hA m h1 h2
     ·rcases Nat.lt_or_ge q k with h3|h3
      ·exact hcq q h3
      ·obtain rfl:q=k:=by omega
       exact hc
    ·rw[decide_eq_false hc,Bool.not_false,Bool.or_true,cond_true]
     exact bad fun h=>hc (h.2 i hi _ (zab hk))
   ·rintro A ⟨hAl,hA,hcq⟩
    refine hn (H,A) ⟨⟨hHl,hAl⟩,fun m h1 h2=>?_,hA,fun j k hj hk hne m hm=>?_,fun j hj a ha=>?_⟩
    ·rw[hH m h1 h2]
     constructor
     ·rintro (⟨j,hj,h⟩|⟨q,hq,e⟩)
      ·exact ⟨j,by omega,h⟩
      ·exact ⟨i,by omega,by rw[←e];exact zab hq⟩
     ·rintro ⟨j,hj,h⟩
      rcases Nat.lt_or_ge j i with h3|h3
      ·exact .inl ⟨j,h3,h⟩
      ·obtain rfl:j=i:=by omega
       obtain ⟨q,hq,e⟩:=zb2 h
       exact .inr ⟨q,hq,e⟩
    ·have hno2:∀ j,j<i→∀ m∈zdv p s i,m∉zdv p s j:=fun j hj m hm=>by
      obtain ⟨q,hq,rfl⟩:=zb2 hm
      exact hno q hq j hj
     rcases Nat.lt_or_ge j i with h3|h3
     ·rcases Nat.lt_or_ge k i with h4|h4
      ·exact hap j k h3 h4 hne m hm
      ·obtain rfl:k=i:=by omega
       exact fun hm'=>hno2 j h3 m hm' hm
     ·obtain rfl:j=i:=by omega
      exact hno2 k (by omega) m hm
    ·rcases Nat.lt_or_ge j i with h3|h3
     ·exact hca j h3 a ha
     ·obtain rfl:j=i:=by omega
      obtain ⟨q,hq,rfl⟩:=zb2 ha
      exact hcq q hq
 ·rintro st ⟨_,_,_,hap,hca⟩
  exact (hiff.2 ⟨hap,hca⟩).symm
end Go.Lev
