/-
  A part of the engine that walks the functions' codes, and of the functions' contracts. Conditions: those that each theorem names.
-/
import Derived.Test.YtibpmipffibbpaaGreatV7
import Derived.IntWalk
set_option linter.unusedSimpArgs false
set_option linter.unusedVariables false
set_option linter.unusedSectionVars false
namespace Go.Lev
open Go.Eng
set_option maxRecDepth 10000
set_option maxHeartbeats 4000000
variable {P:Program} {inv:Nat->Option Nat} {w0:World} {M:Nat->Prop}
def planA:Pln:=⟨1,0,[⟨1,0,[⟨0,0⟩,⟨2,0⟩]⟩,⟨2,0,[⟨1,1⟩,⟨0,0⟩]⟩],[],[⟨1,1,1⟩],[⟨1,1,0,[2],[],[],3⟩]⟩
def stA:State:=⟨[⟨1,2⟩,⟨2,2⟩],[],[⟨1,0,0,0⟩]⟩
theorem zjg {p:Pln} {s:State} {n v:Int} (h:zad p s=0):zbj p s n v=0↔zi2 s n/\(v=0\/v=1):=by
 unfold zbj
 rw[if_pos h]
 by_cases h1:zi2 s n
 ·rw[if_pos h1]
  by_cases h2:v=0\/v=1
  ·rw[if_pos h2];simp[h1,h2]
  ·rw[if_neg h2];simp[h2]
 ·rw[if_neg h1];simp[h1]
theorem zjC {p:Pln} {s:State} {n v:Int} (h:zad p s=0):zbl p s n v=0↔zi3 s n/\(0<=v/\v<=2):=by
 unfold zbl
 rw[if_pos h]
 by_cases h1:zi3 s n
 ·rw[if_pos h1]
  by_cases h2:0<=v/\v<=2
  ·rw[if_pos h2];simp[h1,h2]
  ·rw[if_neg h2];simp[h2]
 ·rw[if_neg h1];simp[h1]
def hasT (s:State) (n:Int):Bool:=s.tracks.any fun t=>decide (t.id=n)
def hasW (s:State) (n:Int):Bool:=s.switches.any fun t=>decide (t.id=n)
def ibF (s A B:State) (n v e1 e2:Int):Bool :=
 zaL (fun k t za5 =>
   cond (decide (e1=0)&&(decide ((nth s.tracks k).id=n)&&!decide ((nth A.tracks k).is=v)||!decide ((nth s.tracks k).id=n)&&!(decide ((nth A.tracks k).id=(nth s.tracks k).id)&&decide ((nth A.tracks k).is=(nth s.tracks k).is))))
    false (za5 (t||decide ((nth s.tracks k).id=n))))
  (fun t=>zaL (fun k u za5 =>
    cond (decide (e2=0)&&(decide ((nth s.switches k).id=n)&&(!decide ((nth B.switches k).lie=v)||!decide ((nth B.switches k).call=(nth s.switches k).call))||!decide ((nth s.switches k).id=n)&&!(decide ((nth B.switches k).id=(nth s.switches k).id)&&(decide ((nth B.switches k).lie=(nth s.switches k).lie)&&decide ((nth B.switches k).call=(nth s.switches k).call)))))
     false (za5 (u||decide ((nth s.switches k).id=n))))
   (fun u=>decide (decide (e1=0)=(t&&(decide (v=0)||decide (v=1))))&&decide (decide (e2=0)=(u&&(decide (0<=v)&&decide (v<=2)))))
   s.switches.length 0 false)
  s.tracks.length 0 false
theorem cnC_ix {p:Pln} {s:State} {n:Int} (h:zad p s=0) (e:cnC p s n=0):∃ i,i<s.locks.length/\(nth s.locks i).id=n/\zeR s n=(i:Int)/\cnC0 s (zah p (nth p.routes i)).1 (nth s.locks i)=0:=by
 rcases zat Lock.id n s.locks with ⟨h4,_⟩|⟨i,hi,h4,h5⟩
 ·unfold cnC at e
  rw[if_pos h,show zeR s n=-1 from h4,if_pos (by decide)]at e
  cases e
 ·subst h5
  rw[cnC_at h hi]at e
  exact ⟨i,hi,rfl,h4,e⟩
theorem zrx {p:Pln} {s:State} {n:Int} (h:zad p s=0) (e:cnC p s n=0):OnS p s (cnS p s n):=by
 obtain ⟨i,hi,hid,hix,he⟩:=cnC_ix h e
 have hpa:=(zac h).2.1
 have hrt:nth p.routes i∈p.routes:=zab (by have:=zak hpa;omega)
 have ht:=zfy (zai h) hrt
 have key:∀ j,j<s.locks.length->nth (cnS p s n).locks j=if j=i then cnL s (zah p (nth p.routes i)).1 (nth p.routes i) (nth s.locks i) n else nth s.locks j:=fun j hj=>by
  unfold cnS
  rw[hix,Int.toNat_natCast]
  exact za7 _ _ _ _ hi
 have hli:=zcV hpa hi
 simp only[zbR,Bool.and_eq_true,decide_eq_true_eq]at hli
 have hL:On (nth s.locks i) (cnL s (zah p (nth p.routes i)).1 (nth p.routes i) (nth s.locks i) n)/\zbR (cnL s (zah p (nth p.routes i)).1 (nth p.routes i) (nth s.locks i) n) (nth p.routes i)=true:=by
  unfold cnL
  split
  ·rename_i h1
   have h2:=hli.2
   simp only[zax,h1.1]at h2
   simp at h2
   refine ⟨.inr ⟨hid.symm,.inr ⟨by omega,by simp,by dsimp only;omega⟩⟩, ?_⟩
   simp only[zbR,zax,Bool.and_eq_true,decide_eq_true_eq]
   refine ⟨by rw[<-hid];exact hli.1, ?_⟩
   simp;omega
  ·refine ⟨.inr ⟨hid.symm,.inl rfl⟩, ?_⟩
   simp only[zbR,zax,Bool.and_eq_true,decide_eq_true_eq]
   exact ⟨by rw[<-hid];exact hli.1,by simp⟩
 refine ⟨rfl,rfl,cnS_len p s n,fun j hj=>?_,fun j hj=>?_⟩
 ·rw[key j hj]
  split
  ·rename_i e1;subst e1;exact hL.1
  ·exact .inl rfl
 ·rw[key j hj]
  split
  ·rename_i e1;subst e1;exact hL.2
  ·exact zcV hpa hj
structure StepS (p:Pln) (s:State) (a:ActD) (u:State):Prop where
 st:zad p s=0
 act:zcX p s a=0
 eq:zei p s a=u
 code:zad p u=0
 all:(a.kind=1/\u=znt s a.id a.value/\zi2 s a.id/\(a.value=0\/a.value=1))\/(a.kind=2/\u=znu s a.id a.value/\zi3 s a.id/\0<=a.value/\a.value<=2)\/(a.kind=3/\u=ze7 s) \/
  (a.kind=4/\u=zmq s a.id a.value/\MayCall p s a.id/\(a.value=1\/a.value=2))\/(a.kind=5/\∃ i,MaySet p s a.id i/\u=zft s a.id (zaU p i))\/(a.kind=6/\u=cnS p s a.id/\cnC p s a.id=0)
theorem step_of {p:Pln} {s:State} {a:ActD} (h:doC p s a=0):∃ u,StepS p s a u/\doR p s a=zdl p u:=by
 unfold doC at h
 by_cases hst:zad p s=0
 ·rw[if_pos hst]at h
  by_cases hac:zcX p s a=0
  ·rw[if_pos hac]at h
   refine ⟨zei p s a,⟨hst,hac,rfl,h, ?_⟩,by unfold doR zha;rw[if_pos hst,if_pos hac,if_pos h]⟩
   clear h
   unfold zcX at hac
   unfold zei
   split at hac
   ·rename_i hk
    rw[if_pos hk]
    unfold secR
    rw[if_pos hac]
    have:=(zjg hst).1 hac
    exact .inl ⟨hk,rfl,this.1,this.2⟩
   ·rename_i hk1
    rw[if_neg hk1]
    split at hac
    ·rename_i hk
     rw[if_pos hk]
     unfold zm1
     rw[if_pos hac]
     have:=(zjC hst).1 hac
     exact .inr (.inl ⟨hk,rfl,this.1,this.2⟩)
    ·rename_i hk2
     rw[if_neg hk2]
     split at hac
     ·rename_i hk
      rw[if_pos hk]
      unfold zgo
      rw[if_pos hst]
      exact .inr (.inr (.inl ⟨hk,rfl⟩))
     ·rename_i hk3
      rw[if_neg hk3]
      split at hac
      ·rename_i hk
       rw[if_pos hk]
       unfold zhl
       rw[if_pos hac]
       have:=zlY.1 hac
       exact .inr (.inr (.inr (.inl ⟨hk,rfl,this.1,this.2⟩)))
      ·rename_i hk4
       rw[if_neg hk4]
       split at hac
       ·rename_i hk
        rw[if_pos hk]
        obtain ⟨i,hm⟩:=zij.1 hac
        exact .inr (.inr (.inr (.inr (.inl ⟨hk,i,hm,hm.lkS⟩))))
       ·rename_i hk5
        rw[if_neg hk5]
        split at hac
        ·rename_i hk
         rw[if_pos hk]
         unfold cnR
         rw[if_pos hac]
         exact .inr (.inr (.inr (.inr (.inr ⟨hk,rfl,hac⟩))))
        ·cases hac
  ·rw[if_neg hac]at h
   exact absurd h hac
 ·rw[if_neg hst]at h
  exact absurd h hst
theorem zoh {p:Pln} {s:State} {a:ActD} (h:zad p s=0) (ha:zcX p s a=0):zad p (zei p s a)=0:=by
 unfold zcX at ha
 unfold zei
 split at ha
 ·rename_i hk
  rw[if_pos hk]
  unfold secR
  rw[if_pos ha]
  have:=((zjg h).1 ha).2
  exact zpO h (by omega)
 ·rename_i hk1
  rw[if_neg hk1]
  split at ha
  ·rename_i hk
   rw[if_pos hk]
   unfold zm1
   rw[if_pos ha]
   exact zpQ h ((zjC h).1 ha).2
  ·rename_i hk2
   rw[if_neg hk2]
   split at ha
   ·rename_i hk
    rw[if_pos hk]
    unfold zgo
    rw[if_pos h]
    exact (zjO h).code h
   ·rename_i hk3
    rw[if_neg hk3]
    split at ha
    ·rename_i hk
     rw[if_pos hk]
     unfold zhl
     rw[if_pos ha]
     have:=zlY.1 ha
     exact this.1.code this.2
    ·rename_i hk4
     rw[if_neg hk4]
     split at ha
     ·rename_i hk
      rw[if_pos hk]
      obtain ⟨i,hm⟩:=zij.1 ha
      rw[hm.lkS]
      exact hm.code
     ·rename_i hk5
      rw[if_neg hk5]
      split at ha
      ·rename_i hk
       rw[if_pos hk]
       unfold cnR
       rw[if_pos ha]
       exact (zrx h ha).code h
      ·cases ha
theorem do_ok {p:Pln} {s:State} {a:ActD} (h:zad p s=0) (ha:zcX p s a=0):doC p s a=0/\doR p s a=zdl p (zei p s a):=by
 have:=zoh h ha
 unfold doC doR zha
 rw[if_pos h,if_pos ha,if_pos h,if_pos ha,if_pos this]
 exact ⟨this,rfl⟩
theorem do_no {p:Pln} {s:State} {a:ActD} (h:zad p s=0) (ha:¬zcX p s a=0):doC p s a=zcX p s a/\doR p s a=State.z:=by
 unfold doC doR
 rw[if_pos h,if_neg ha,if_pos h,if_neg ha]
 exact ⟨rfl,rfl⟩
theorem doR_sm {p:Pln} {s:State} {a:ActD} (hs:SmS s):SmS (doR p s a):=by
 unfold doR zha
 repeat' split
 ·exact zpM (znb p hs a)
 all_goals exact ⟨by decide,by decide,by decide⟩
theorem doR_u8 {p:Pln} {s:State} {a:ActD} (h8:∀ t∈s.tracks,0<=t.is) (h:doC p s a=0):∀ t∈(doR p s a).tracks,0<=t.is:=by
 obtain ⟨u,g,hu⟩:=step_of h
 rw[hu]
 intro t ht
 have ht:t∈u.tracks:=ht
 rcases g.all with ⟨_,h,_,hv⟩|⟨_,h,_⟩|⟨_,h⟩|⟨_,h,_⟩|⟨_,i,_,h⟩|⟨_,h,_⟩
 ·rw[h]at ht
  obtain ⟨x,hx,ex⟩:=List.mem_map.1 (show t∈s.tracks.map _ from ht)
  rw[<-ex]
  split
  ·dsimp only;omega
  ·exact h8 x hx
 all_goals (rw[h]at ht;exact h8 t ht)
theorem znw (hH:HasAll P inv) (p:Pln) (hl:p.sections.length<=1000000000) (n:Int):PC P inv 293 [.agg p.c,.n n] (·=.n (za3 (fun x=>decide (Section.id x=n)) 0 p.sections)):=by
 refine PC.fn hH cd293 fun w0 M Q hM hE hQ hR=>?_;dsimp only[cd293,qm,ql,qf,qi,qb,qc,qN,qt]at hQ |-
 (repeat' first|refine zaa [0,1,2,4,5,10,20] fun K hK=>?_|(refine hK.go ?_;clear hK K)|with_reducible exact wT|refine wA ?_|(refine wB (fun h=>?_) (fun h=>?_)<;>first|exact wN h|subst (h:(_:Bool)=_)|skip)|(refine wQ ?_;clear hQ hR hE hM)|fail)
 refine zam (ι:=Nat) [1,2,4,5] (fun z=>[(5,.n z)]) (fun _=>[]) (fun z=>z) (p.sections.length) (fun z=>(za3 (fun x=>decide (Section.id x=n)) (z:Int) (p.sections.drop z)=za3 (fun x=>decide (Section.id x=n)) 0 p.sections)) (0) ?_;rintro k ⟨hk,hg⟩;(try dsimp only at hk hg |-);rcases Nat.lt_or_ge k p.sections.length with hlt|hge
 ·rw[zaf hlt,za3]at hg
  by_cases e:(nth p.sections k).id=n
  ·have e2:decide ((nth p.sections k).id=n)=true:=decide_eq_true e
   rw[if_pos e2]at hg
   skip
   (have hX:=@e2;(repeat' first|refine zaa [0,1,2,4,5,10,20] fun K hK=>?_|(refine hK.go ?_;clear hK K)|with_reducible exact wT|refine wA ?_|(refine wB (fun h=>?_) (fun h=>?_)<;>first|exact wN h|subst (h:(_:Bool)=_)|skip)|(refine wQ ?_;clear hQ hR hE hM)|fail);all_goals clear hX)
   all_goals first|rfl|exact hg|exact congrArg AV.n hg|(exfalso;contradiction)|(rw[<-hg];done)|(rw[<-hg];rfl)|(simp[*];done)
  ·have e2:decide ((nth p.sections k).id=n)=false:=decide_eq_false e
   rw[if_neg (by simp[e])]at hg
   (have hX:=@e2;(repeat' first|refine zaa [0,1,2,4,5,10,20] fun K hK=>?_|(refine hK.go ?_;clear hK K)|with_reducible exact wT|refine wA ?_|(refine wB (fun h=>?_) (fun h=>?_)<;>first|exact wN h|subst (h:(_:Bool)=_)|skip)|(refine wQ ?_;clear hQ hR hE hM)|fail);all_goals clear hX)
   all_goals first|(exfalso;contradiction)|exact ⟨k+1,by omega,⟨by omega,hg⟩,by omega⟩
 ·rw[List.drop_eq_nil_of_le hge,za3]at hg
  (repeat' first|refine zaa [0,1,2,4,5,10,20] fun K hK=>?_|(refine hK.go ?_;clear hK K)|with_reducible exact wT|refine wA ?_|(refine wB (fun h=>?_) (fun h=>?_)<;>first|exact wN h|subst (h:(_:Bool)=_)|skip)|(refine wQ ?_;clear hQ hR hE hM)|fail)
  all_goals first|exact hg|(rw[<-hg];done)
theorem zeL (hH:HasAll P inv) (p:Pln) (hl:p.points.length<=1000000000) (n:Int):PC P inv 294 [.agg p.c,.n n] (·=.n (za3 (fun x=>decide (Pnt.id x=n)) 0 p.points)):=by
 refine PC.fn hH cd294 fun w0 M Q hM hE hQ hR=>?_;dsimp only[cd294,qm,ql,qf,qi,qb,qc,qN,qt]at hQ |-
 (repeat' first|refine zaa [0,1,2,4,5,10,20] fun K hK=>?_|(refine hK.go ?_;clear hK K)|with_reducible exact wT|refine wA ?_|(refine wB (fun h=>?_) (fun h=>?_)<;>first|exact wN h|subst (h:(_:Bool)=_)|skip)|(refine wQ ?_;clear hQ hR hE hM)|fail)
 refine zam (ι:=Nat) [1,2,4,5] (fun z=>[(5,.n z)]) (fun _=>[]) (fun z=>z) (p.points.length) (fun z=>(za3 (fun x=>decide (Pnt.id x=n)) (z:Int) (p.points.drop z)=za3 (fun x=>decide (Pnt.id x=n)) 0 p.points)) (0) ?_;rintro k ⟨hk,hg⟩;(try dsimp only at hk hg |-);rcases Nat.lt_or_ge k p.points.length with hlt|hge
 ·rw[zaf hlt,za3]at hg
  by_cases e:(nth p.points k).id=n
  ·have e2:decide ((nth p.points k).id=n)=true:=decide_eq_true e
   rw[if_pos e2]at hg
   skip
   (have hX:=@e2;(repeat' first|refine zaa [0,1,2,4,5,10,20] fun K hK=>?_|(refine hK.go ?_;clear hK K)|with_reducible exact wT|refine wA ?_|(refine wB (fun h=>?_) (fun h=>?_)<;>first|exact wN h|subst (h:(_:Bool)=_)|skip)|(refine wQ ?_;clear hQ hR hE hM)|fail);all_goals clear hX)
   all_goals first|rfl|exact hg|exact congrArg AV.n hg|(exfalso;contradiction)|(rw[<-hg];done)|(rw[<-hg];rfl)|(simp[*];done)
  ·have e2:decide ((nth p.points k).id=n)=false:=decide_eq_false e
   rw[if_neg (by simp[e])]at hg
   (have hX:=@e2;(repeat' first|refine zaa [0,1,2,4,5,10,20] fun K hK=>?_|(refine hK.go ?_;clear hK K)|with_reducible exact wT|refine wA ?_|(refine wB (fun h=>?_) (fun h=>?_)<;>first|exact wN h|subst (h:(_:Bool)=_)|skip)|(refine wQ ?_;clear hQ hR hE hM)|fail);all_goals clear hX)
   all_goals first|(exfalso;contradiction)|exact ⟨k+1,by omega,⟨by omega,hg⟩,by omega⟩
 ·rw[List.drop_eq_nil_of_le hge,za3]at hg
  (repeat' first|refine zaa [0,1,2,4,5,10,20] fun K hK=>?_|(refine hK.go ?_;clear hK K)|with_reducible exact wT|refine wA ?_|(refine wB (fun h=>?_) (fun h=>?_)<;>first|exact wN h|subst (h:(_:Bool)=_)|skip)|(refine wQ ?_;clear hQ hR hE hM)|fail)
  all_goals first|exact hg|(rw[<-hg];done)
theorem zho (hH:HasAll P inv) (p:Pln) (hl:p.routes.length<=1000000000) (n:Int):PC P inv 334 [.agg p.c,.n n] (·=.n (za3 (fun x=>decide (Rte.id x=n)) 0 p.routes)):=by
 refine PC.fn hH cd334 fun w0 M Q hM hE hQ hR=>?_;dsimp only[cd334,qm,ql,qf,qi,qb,qc,qN,qt]at hQ |-
 (repeat' first|refine zaa [0,1,2,4,5,10,20] fun K hK=>?_|(refine hK.go ?_;clear hK K)|with_reducible exact wT|refine wA ?_|(refine wB (fun h=>?_) (fun h=>?_)<;>first|exact wN h|subst (h:(_:Bool)=_)|skip)|(refine wQ ?_;clear hQ hR hE hM)|fail)
 refine zam (ι:=Nat) [1,2,4,5] (fun z=>[(5,.n z)]) (fun _=>[]) (fun z=>z) (p.routes.length) (fun z=>(za3 (fun x=>decide (Rte.id x=n)) (z:Int) (p.routes.drop z)=za3 (fun x=>decide (Rte.id x=n)) 0 p.routes)) (0) ?_;rintro k ⟨hk,hg⟩;(try dsimp only at hk hg |-);rcases Nat.lt_or_ge k p.routes.length with hlt|hge
 ·rw[zaf hlt,za3]at hg
  by_cases e:(nth p.routes k).id=n
  ·have e2:decide ((nth p.routes k).id=n)=true:=decide_eq_true e
   rw[if_pos e2]at hg
   skip
   (have hX:=@e2;(repeat' first|refine zaa [0,1,2,4,5,10,20] fun K hK=>?_|(refine hK.go ?_;clear hK K)|with_reducible exact wT|refine wA ?_|(refine wB (fun h=>?_) (fun h=>?_)<;>first|exact wN h|subst (h:(_:Bool)=_)|skip)|(refine wQ ?_;clear hQ hR hE hM)|fail);all_goals clear hX)
   all_goals first|rfl|exact hg|exact congrArg AV.n hg|(exfalso;contradiction)|(rw[<-hg];done)|(rw[<-hg];rfl)|(simp[*];done)
  ·have e2:decide ((nth p.routes k).id=n)=false:=decide_eq_false e
   rw[if_neg (by simp[e])]at hg
   (have hX:=@e2;(repeat' first|refine zaa [0,1,2,4,5,10,20] fun K hK=>?_|(refine hK.go ?_;clear hK K)|with_reducible exact wT|refine wA ?_|(refine wB (fun h=>?_) (fun h=>?_)<;>first|exact wN h|subst (h:(_:Bool)=_)|skip)|(refine wQ ?_;clear hQ hR hE hM)|fail);all_goals clear hX)
   all_goals first|(exfalso;contradiction)|exact ⟨k+1,by omega,⟨by omega,hg⟩,by omega⟩
 ·rw[List.drop_eq_nil_of_le hge,za3]at hg
  (repeat' first|refine zaa [0,1,2,4,5,10,20] fun K hK=>?_|(refine hK.go ?_;clear hK K)|with_reducible exact wT|refine wA ?_|(refine wB (fun h=>?_) (fun h=>?_)<;>first|exact wN h|subst (h:(_:Bool)=_)|skip)|(refine wQ ?_;clear hQ hR hE hM)|fail)
  all_goals first|exact hg|(rw[<-hg];done)
theorem zpW (hH:HasAll P inv) (l:List Rte) (hl:l.length<=1000000000) (n:Int):PC P inv 310 [.sl 7 (l.map Rte.c),.n n] (·=.n (za3 (fun x=>decide (Rte.id x=n)) 0 l)):=by
 refine PC.fn hH cd310 fun w0 M Q hM hE hQ hR=>?_;dsimp only[cd310,qm,ql,qf,qi,qb,qc,qN,qt]at hQ |-
 (repeat' first|refine zaa [0,1,4,5,9,18] fun K hK=>?_|(refine hK.go ?_;clear hK K)|with_reducible exact wT|refine wA ?_|(refine wB (fun h=>?_) (fun h=>?_)<;>first|exact wN h|subst (h:(_:Bool)=_)|skip)|(refine wQ ?_;clear hQ hR hE hM)|fail)
 refine zam (ι:=Nat) [0,1,4,5] (fun z=>[(5,.n z)]) (fun _=>[]) (fun z=>z) (l.length) (fun z=>(za3 (fun x=>decide (Rte.id x=n)) (z:Int) (l.drop z)=za3 (fun x=>decide (Rte.id x=n)) 0 l)) (0) ?_;rintro k ⟨hk,hg⟩;(try dsimp only at hk hg |-);rcases Nat.lt_or_ge k l.length with hlt|hge
 ·rw[zaf hlt,za3]at hg
  by_cases e:(nth l k).id=n
  ·have e2:decide ((nth l k).id=n)=true:=decide_eq_true e
   rw[if_pos e2]at hg
   skip
   (have hX:=@e2;(repeat' first|refine zaa [0,1,4,5,9,18] fun K hK=>?_|(refine hK.go ?_;clear hK K)|with_reducible exact wT|refine wA ?_|(refine wB (fun h=>?_) (fun h=>?_)<;>first|exact wN h|subst (h:(_:Bool)=_)|skip)|(refine wQ ?_;clear hQ hR hE hM)|fail);all_goals clear hX)
   all_goals first|rfl|exact hg|exact congrArg AV.n hg|(exfalso;contradiction)|(rw[<-hg];done)|(rw[<-hg];rfl)|(simp[*];done)
  ·have e2:decide ((nth l k).id=n)=false:=decide_eq_false e
   rw[if_neg (by simp[e])]at hg
   (have hX:=@e2;(repeat' first|refine zaa [0,1,4,5,9,18] fun K hK=>?_|(refine hK.go ?_;clear hK K)|with_reducible exact wT|refine wA ?_|(refine wB (fun h=>?_) (fun h=>?_)<;>first|exact wN h|subst (h:(_:Bool)=_)|skip)|(refine wQ ?_;clear hQ hR hE hM)|fail);all_goals clear hX)
   all_goals first|(exfalso;contradiction)|exact ⟨k+1,by omega,⟨by omega,hg⟩,by omega⟩
 ·rw[List.drop_eq_nil_of_le hge,za3]at hg
  (repeat' first|refine zaa [0,1,4,5,9,18] fun K hK=>?_|(refine hK.go ?_;clear hK K)|with_reducible exact wT|refine wA ?_|(refine wB (fun h=>?_) (fun h=>?_)<;>first|exact wN h|subst (h:(_:Bool)=_)|skip)|(refine wQ ?_;clear hQ hR hE hM)|fail)
  all_goals first|exact hg|(rw[<-hg];done)
theorem zfJ (hH:HasAll P inv) (l:List Sgn) (hl:l.length<=1000000000) (n:Int):PC P inv 314 [.sl 3 (l.map Sgn.c),.n n] (·=.n (za3 (fun x=>decide (Sgn.id x=n)) 0 l)):=by
 refine PC.fn hH cd314 fun w0 M Q hM hE hQ hR=>?_;dsimp only[cd314,qm,ql,qf,qi,qb,qc,qN,qt]at hQ |-
 (repeat' first|refine zaa [0,1,4,5,9,18] fun K hK=>?_|(refine hK.go ?_;clear hK K)|with_reducible exact wT|refine wA ?_|(refine wB (fun h=>?_) (fun h=>?_)<;>first|exact wN h|subst (h:(_:Bool)=_)|skip)|(refine wQ ?_;clear hQ hR hE hM)|fail)
 refine zam (ι:=Nat) [0,1,4,5] (fun z=>[(5,.n z)]) (fun _=>[]) (fun z=>z) (l.length) (fun z=>(za3 (fun x=>decide (Sgn.id x=n)) (z:Int) (l.drop z)=za3 (fun x=>decide (Sgn.id x=n)) 0 l)) (0) ?_;rintro k ⟨hk,hg⟩;(try dsimp only at hk hg |-);rcases Nat.lt_or_ge k l.length with hlt|hge
 ·rw[zaf hlt,za3]at hg
  by_cases e:(nth l k).id=n
  ·have e2:decide ((nth l k).id=n)=true:=decide_eq_true e
   rw[if_pos e2]at hg
   skip
   (have hX:=@e2;(repeat' first|refine zaa [0,1,4,5,9,18] fun K hK=>?_|(refine hK.go ?_;clear hK K)|with_reducible exact wT|refine wA ?_|(refine wB (fun h=>?_) (fun h=>?_)<;>first|exact wN h|subst (h:(_:Bool)=_)|skip)|(refine wQ ?_;clear hQ hR hE hM)|fail);all_goals clear hX)
   all_goals first|rfl|exact hg|exact congrArg AV.n hg|(exfalso;contradiction)|(rw[<-hg];done)|(rw[<-hg];rfl)|(simp[*];done)
  ·have e2:decide ((nth l k).id=n)=false:=decide_eq_false e
   rw[if_neg (by simp[e])]at hg
   (have hX:=@e2;(repeat' first|refine zaa [0,1,4,5,9,18] fun K hK=>?_|(refine hK.go ?_;clear hK K)|with_reducible exact wT|refine wA ?_|(refine wB (fun h=>?_) (fun h=>?_)<;>first|exact wN h|subst (h:(_:Bool)=_)|skip)|(refine wQ ?_;clear hQ hR hE hM)|fail);all_goals clear hX)
   all_goals first|(exfalso;contradiction)|exact ⟨k+1,by omega,⟨by omega,hg⟩,by omega⟩
 ·rw[List.drop_eq_nil_of_le hge,za3]at hg
  (repeat' first|refine zaa [0,1,4,5,9,18] fun K hK=>?_|(refine hK.go ?_;clear hK K)|with_reducible exact wT|refine wA ?_|(refine wB (fun h=>?_) (fun h=>?_)<;>first|exact wN h|subst (h:(_:Bool)=_)|skip)|(refine wQ ?_;clear hQ hR hE hM)|fail)
  all_goals first|exact hg|(rw[<-hg];done)
theorem zqf (hH:HasAll P inv) (l:List Pnt) (hl:l.length<=1000000000) (n:Int):PC P inv 316 [.sl 2 (l.map Pnt.c),.n n] (·=.n (za3 (fun x=>decide (Pnt.id x=n)) 0 l)):=by
 refine PC.fn hH cd316 fun w0 M Q hM hE hQ hR=>?_;dsimp only[cd316,qm,ql,qf,qi,qb,qc,qN,qt]at hQ |-
 (repeat' first|refine zaa [0,1,4,5,9,18] fun K hK=>?_|(refine hK.go ?_;clear hK K)|with_reducible exact wT|refine wA ?_|(refine wB (fun h=>?_) (fun h=>?_)<;>first|exact wN h|subst (h:(_:Bool)=_)|skip)|(refine wQ ?_;clear hQ hR hE hM)|fail)
 refine zam (ι:=Nat) [0,1,4,5] (fun z=>[(5,.n z)]) (fun _=>[]) (fun z=>z) (l.length) (fun z=>(za3 (fun x=>decide (Pnt.id x=n)) (z:Int) (l.drop z)=za3 (fun x=>decide (Pnt.id x=n)) 0 l)) (0) ?_;rintro k ⟨hk,hg⟩;(try dsimp only at hk hg |-);rcases Nat.lt_or_ge k l.length with hlt|hge
 ·rw[zaf hlt,za3]at hg
  by_cases e:(nth l k).id=n
  ·have e2:decide ((nth l k).id=n)=true:=decide_eq_true e
   rw[if_pos e2]at hg
   skip
   (have hX:=@e2;(repeat' first|refine zaa [0,1,4,5,9,18] fun K hK=>?_|(refine hK.go ?_;clear hK K)|with_reducible exact wT|refine wA ?_|(refine wB (fun h=>?_) (fun h=>?_)<;>first|exact wN h|subst (h:(_:Bool)=_)|skip)|(refine wQ ?_;clear hQ hR hE hM)|fail);all_goals clear hX)
   all_goals first|rfl|exact hg|exact congrArg AV.n hg|(exfalso;contradiction)|(rw[<-hg];done)|(rw[<-hg];rfl)|(simp[*];done)
  ·have e2:decide ((nth l k).id=n)=false:=decide_eq_false e
   rw[if_neg (by simp[e])]at hg
   (have hX:=@e2;(repeat' first|refine zaa [0,1,4,5,9,18] fun K hK=>?_|(refine hK.go ?_;clear hK K)|with_reducible exact wT|refine wA ?_|(refine wB (fun h=>?_) (fun h=>?_)<;>first|exact wN h|subst (h:(_:Bool)=_)|skip)|(refine wQ ?_;clear hQ hR hE hM)|fail);all_goals clear hX)
   all_goals first|(exfalso;contradiction)|exact ⟨k+1,by omega,⟨by omega,hg⟩,by omega⟩
 ·rw[List.drop_eq_nil_of_le hge,za3]at hg
  (repeat' first|refine zaa [0,1,4,5,9,18] fun K hK=>?_|(refine hK.go ?_;clear hK K)|with_reducible exact wT|refine wA ?_|(refine wB (fun h=>?_) (fun h=>?_)<;>first|exact wN h|subst (h:(_:Bool)=_)|skip)|(refine wQ ?_;clear hQ hR hE hM)|fail)
  all_goals first|exact hg|(rw[<-hg];done)
def zor (p:Pln) (a b:Int):Int:=match p.signals.find? (fun x=>decide (x.sec=a)&&decide (x.ed=b)) with|some x=>x.id|none=>0
theorem at_ref (hH:HasAll P inv) (p:Pln) (hl:p.signals.length<=1000000000) (a b:Int):PC P inv 311 [.agg p.c,.n a,.n b] (·=.n (zor p a b)):=by
 unfold zor
 refine PC.fn hH cd311 fun w0 M Q hM hE hQ hR=>?_;dsimp only[cd311,qm,ql,qf,qi,qb,qc,qp,qN,qT,qt]at hQ |-
 (repeat' first|refine zaa [0,1,2,3,6,7,12,32] fun K hK=>?_|(refine hK.go ?_;clear hK K)|with_reducible exact wT|refine wA ?_|(refine wB (fun h=>?_) (fun h=>?_)<;>first|exact wN h|subst (h:(_:Bool)=_)|skip)|(refine wQ ?_;clear hQ hR hE hM)|fail)
 refine zam (ι:=Nat) [1,2,3,6,7] (fun z=>[(7,.n z)]) (fun _=>[]) (fun z=>z) (p.signals.length) (fun z=>((p.signals.drop z).find? (fun x=>decide (x.sec=a)&&decide (x.ed=b))=p.signals.find? (fun x=>decide (x.sec=a)&&decide (x.ed=b)))) (0) ?_;rintro k ⟨hk,hg⟩;(try dsimp only at hk hg |-);rcases Nat.lt_or_ge k p.signals.length with hlt|hge
 ·rw[zaf hlt,List.find?_cons]at hg
  by_cases e:(nth p.signals k).sec=a
  ·by_cases e3:(nth p.signals k).ed=b
   ·have e2:decide ((nth p.signals k).sec=a)=true:=decide_eq_true e
    have e4:decide ((nth p.signals k).ed=b)=true:=decide_eq_true e3
    rw[e2,e4]at hg
    skip
    (have hX:=zA @e2 @e4;(repeat' first|refine zaa [0,1,2,3,6,7,12,32] fun K hK=>?_|(refine hK.go ?_;clear hK K)|with_reducible exact wT|refine wA ?_|(refine wB (fun h=>?_) (fun h=>?_)<;>first|exact wN h|subst (h:(_:Bool)=_)|skip)|(refine wQ ?_;clear hQ hR hE hM)|fail);all_goals clear hX)
    all_goals first|rfl|exact hg|exact congrArg AV.n hg|(exfalso;contradiction)|(rw[<-hg];done)|(rw[<-hg];rfl)|(simp[*];done)
   ·have e2:decide ((nth p.signals k).sec=a)=true:=decide_eq_true e
    have e4:decide ((nth p.signals k).ed=b)=false:=decide_eq_false e3
    rw[e2,e4]at hg
    (have hX:=zA @e2 @e4;(repeat' first|refine zaa [0,1,2,3,6,7,12,32] fun K hK=>?_|(refine hK.go ?_;clear hK K)|with_reducible exact wT|refine wA ?_|(refine wB (fun h=>?_) (fun h=>?_)<;>first|exact wN h|subst (h:(_:Bool)=_)|skip)|(refine wQ ?_;clear hQ hR hE hM)|fail);all_goals clear hX)
    all_goals first|(exfalso;contradiction)|exact ⟨k+1,by omega,⟨by omega,hg⟩,by omega⟩
  ·have e2:decide ((nth p.signals k).sec=a)=false:=decide_eq_false e
   rw[e2]at hg
   (have hX:=@e2;(repeat' first|refine zaa [0,1,2,3,6,7,12,32] fun K hK=>?_|(refine hK.go ?_;clear hK K)|with_reducible exact wT|refine wA ?_|(refine wB (fun h=>?_) (fun h=>?_)<;>first|exact wN h|subst (h:(_:Bool)=_)|skip)|(refine wQ ?_;clear hQ hR hE hM)|fail);all_goals clear hX)
   all_goals first|(exfalso;contradiction)|exact ⟨k+1,by omega,⟨by omega,hg⟩,by omega⟩
 ·rw[List.drop_eq_nil_of_le hge,List.find?_nil]at hg
  (repeat' first|refine zaa [0,1,2,3,6,7,12,32] fun K hK=>?_|(refine hK.go ?_;clear hK K)|with_reducible exact wT|refine wA ?_|(refine wB (fun h=>?_) (fun h=>?_)<;>first|exact wN h|subst (h:(_:Bool)=_)|skip)|(refine wQ ?_;clear hQ hR hE hM)|fail)
  all_goals first|exact hg|(rw[<-hg];done)
theorem zj4 (hH:HasAll P inv) (r:Rte) (h1:r.path.length<=1000000) (h2:r.over.length<=1000000):PC P inv 315 [.agg r.c] (·=.sl 1 ((r.path++r.over).map zcG)):=by
 have f0:(r.path.map zcG).flatten++(r.over.map zcG).flatten=((r.path++r.over).map zcG).flatten:=by simp
 have f1:r.path.length+r.over.length=(r.path++r.over).length:=by simp
 generalize r.path++r.over=all at *
 refine PC.fn hH cd315 fun w0 M Q hM hE hQ hR=>?_;dsimp only[cd315,qm,ql,qf,qN,qt]at hQ |-
 (have hX:=zA @f0 @f1;(repeat' first|refine zaa [0,1,2,3] fun K hK=>?_|(refine hK.go ?_;clear hK K)|with_reducible exact wT|refine wA ?_|(refine wB (fun h=>?_) (fun h=>?_)<;>first|exact wN h|subst (h:(_:Bool)=_)|skip)|(refine wQ ?_;clear hQ hR hE hM)|fail);all_goals clear hX)
 all_goals first|rfl
theorem zqh (hH:HasAll P inv) (l:Lock) (x:Rte) (h:x.path.length<=1000000):PC P inv 313 [.agg l.c,.n x.path.length,.n x.timer] (·=.b (zax l x)):=by
 refine PC.fn hH cd313 fun w0 M Q hM hE hQ hR=>?_;dsimp only[cd313,qm,ql,qf,qb,qc,qp,qN,qT,qt]at hQ |-
 (repeat' first|refine zaa [0,1,2,3,6,7,18,19,30,46,56] fun K hK=>?_|(refine hK.go ?_;clear hK K)|with_reducible exact wT|refine wA ?_|(refine wB (fun h=>?_) (fun h=>?_)<;>first|exact wN h|subst (h:(_:Bool)=_)|skip)|(refine wQ ?_;clear hQ hR hE hM)|fail)
 all_goals (unfold zax;simp[*])
 all_goals first|omega
theorem zj9 {α:Type} [Inhabited α] (f:α->Int):∀ (l:List α),(l.map f).Pairwise (· < ·)↔∀ i,0<i->i<l.length->f (nth l (i-1))<f (nth l i)
 |[]=>by simp
 |[x]=>by
  simp
  intro i h1 h2
  omega
 |x::y::r=>by
  have ih:=zj9 f (y::r)
  rw[List.map_cons,List.pairwise_cons,ih]
  constructor
  ·rintro ⟨h1,h2⟩ i hi hl
   match i,hi with
   |1,_=>exact h1 (f y) (by simp)
   |i+2,_=>exact h2 (i+1) (by omega) (by simpa using hl)
  ·intro h
   have h2:∀ i,0<i->i<(y::r).length->f (nth (y::r) (i-1))<f (nth (y::r) i):=fun i hi hl=>by
    have:=h (i+1) (by omega) (by simpa using hl)
    match i,hi with
    |i+1,_=>exact this
   refine ⟨fun z hz=>?_,h2⟩
   have h3:f x<f y:=h 1 (by omega) (by simp)
   have h4:=ih.2 h2
   rw[List.map_cons,List.pairwise_cons]at h4
   rcases List.mem_cons.1 hz with rfl|hz
   ·exact h3
   ·have:=h4.1 z hz
    omega
theorem zgx:∀ (l:List Section) (a:List Int) (m:Int) (i:Nat),a.length=100->(∀ s∈l,s.pt<=99)->(∀ s∈l,0<s.pt->s.pt.toNat≠i)->nth (zma a m l).1 i=nth a i
 |[],_,_,_,_,_,_=>rfl
 |s::r,a,m,i,ha,h9,h=>by
  rw[zma]
  split
  ·rename_i h0
   have:=h9 s (by simp)
   rw[zgx r _ _ i (by simpa using ha) (fun t ht=>h9 t (by simp[ht])) (fun t ht=>h t (by simp[ht])),za7 _ _ _ _ (by omega),if_neg (fun e=>h s (by simp) h0 e.symm)]
  ·exact zgx r _ _ i ha (fun t ht=>h9 t (by simp[ht])) fun t ht=>h t (by simp[ht])
theorem zkg:∀ (l:List Section) (a:List Int) (m:Int),a.length=100->(∀ s∈l,s.pt<=99)->l.Pairwise Pw->∀ s∈l,0<s.pt->nth (zma a m l).1 s.pt.toNat=s.id
 |[],_,_,_,_,_,s,hs,_=>by cases hs
 |t::r,a,m,ha,h9,hp,s,hs,h0=>by
  rw[List.pairwise_cons]at hp
  have h9t:=h9 t (by simp)
  rw[zma]
  rcases List.mem_cons.1 hs with rfl|hs
  ·rw[if_pos h0,zgx r _ _ _ (by simpa using ha) (fun u hu=>h9 u (by simp[hu])) (fun u hu h1 e=>(hp.1 u hu).2 (by omega) (by omega)),za7 _ _ _ _ (by omega),if_pos rfl]
  ·split
   ·exact zkg r _ _ (by simpa using ha) (fun u hu=>h9 u (by simp[hu])) hp.2 s hs h0
   ·exact zkg r _ _ ha (fun u hu=>h9 u (by simp[hu])) hp.2 s hs h0
structure PtsP (p:Pln):Prop where
 id:∀ x∈p.points,1<=x.id/\x.id<=99
 up:∀ i,0<i->i<p.points.length->(nth p.points (i-1)).id<(nth p.points i).id
 sec:∀ x∈p.points,∃ s∈p.sections,s.id=x.sec/\s.pt=x.id
 len:(p.points.length:Int)<=6
 many:((p.sections.filter fun s=>decide (0<s.pt)).length:Int)=p.points.length
theorem znF {p:Pln} (h:zcg p.sections=true):points p=true↔PtsP p:=by
 have hs:=zbh h
 have hm:=(zgX _).1 h
 have h9:∀ s∈p.sections,s.pt<=99:=fun s hs'=>(hs s hs').2.2.2.1
 have hlen:(List.replicate 100 (0:Int)).length=100:=by simp
 unfold points
 simp only[Bool.and_eq_true,zdq,decide_eq_true_eq,Bool.not_eq_true',List.any_eq_false]
 unfold pts
 rw[zeK,zj9]
 constructor
 ·rintro ⟨⟨h1,h2,h3⟩,h4,h5⟩
  refine ⟨fun x hx=>h1 x.id (List.mem_map_of_mem hx),h2,fun x hx=>?_,by simpa using h3,by omega⟩
  have h6:=h5 x hx
  unfold zki at h6
  simp only[Bool.or_eq_true,Bool.not_eq_true',decide_eq_true_eq,decide_eq_false_iff_not,not_or,Classical.not_not]at h6
  have hx1:=h1 x.id (List.mem_map_of_mem hx)
  rcases zkh p.sections (List.replicate 100 0) 0 x.id.toNat h9 hlen with h7|⟨s,hs1,hs2,hs3,hs4⟩
  ·rw[h6.2,zdz _ _ _ (by omega)]at h7
   exact absurd h7 h6.1
  ·exact ⟨s,hs1,by rw[hs4,h6.2],by omega⟩
 ·rintro ⟨h1,h2,h3,h4,h5⟩
  refine ⟨⟨fun n hn=>?_,h2,by simpa using h4⟩,by omega,fun x hx=>?_⟩
  ·obtain ⟨x,hx,rfl⟩:=List.mem_map.1 hn
   exact h1 x hx
  ·obtain ⟨s,hs1,hs2,hs3⟩:=h3 x hx
   have h6:=zkg p.sections (List.replicate 100 0) 0 hlen h9 hm.pw s hs1 (by have:=h1 x hx;omega)
   have h7:=(hs s hs1).1
   unfold zki
   rw[<-hs3,h6,<-hs2]
   simp
   omega
def rpF (p:Pln):Bool :=
 zaL (fun i (m:Int) za5=>cond (!decide ((nth p.sections i).pt=0)) (za5 (m+1)) (za5 m))
  (fun m=>zaL (fun i _ za5=>cond (decide ((nth p.points i).id<1)||(decide (99<(nth p.points i).id)||(decide ((0:Int)<i)&&decide ((nth p.points i).id<=(nth p.points (i-1)).id)||(decide (zdR (nth p.points i).sec 0 p.sections<0)||!decide ((nth p.sections (zdR (nth p.points i).sec 0 p.sections).toNat).pt=(nth p.points i).id))))) false (za5 ()))
   (fun _=>decide ((p.points.length:Int)<=6)&&decide (m=(p.points.length:Int))) p.points.length 0 ()) p.sections.length 0 0
theorem rpF_eq {p:Pln} (h:zcg p.sections=true):rpF p=points p:=by
 have hs:=zbh h
 have hm:=(zgX _).1 h
 have hso:zeb p.sections:=zdG h
 generalize hX:points p=X
 have hiff:X=true↔PtsP p:=by rw[<-hX];exact znF h
 have good1:∀ {b:Bool},(b=true↔PtsP p)->b=X:=fun hb=>by rw[Bool.eq_iff_iff,hb,hiff]
 unfold rpF
 refine zaN (·=X) (fun k m=>m=((((p.sections.take k).filter fun s=>decide (0<s.pt)).length:Nat):Int)) rfl ?_ ?_
 ·rintro k m za5 hk rfl hn
  have h1:=hs _ (zab hk)
  have h2:(p.sections.take (k+1)).filter (fun s=>decide (0<s.pt))=(p.sections.take k).filter (fun s=>decide (0<s.pt))++(if 0<(nth p.sections k).pt then [nth p.sections k] else []):=by
   rw[<-zhA hk,List.filter_append]
   congr 1
   by_cases e:0<(nth p.sections k).pt
   ·simp[e]
   ·simp[e]
  by_cases e:(nth p.sections k).pt=0
  ·rw[decide_eq_true e,Bool.not_true,cond_false]
   refine hn _ ?_
   rw[h2,if_neg (by omega),List.append_nil]
  ·rw[decide_eq_false e,Bool.not_false,cond_true]
   refine hn _ ?_
   rw[h2,if_pos (by omega),List.length_append]
   simp
 ·rintro m rfl
  rw[List.take_of_length_le (Nat.le_refl _)]
  refine zaN (·=X) (fun k _=>∀ i,i<k->(1<=(nth p.points i).id/\(nth p.points i).id<=99)/\(0<i->(nth p.points (i-1)).id<(nth p.points i).id)/\∃ s∈p.sections,s.id=(nth p.points i).sec/\s.pt=(nth p.points i).id) (fun i hi=>by omega) ?_ ?_
  ·intro k _ za5 hk hK hn
   by_cases hok:(1<=(nth p.points k).id/\(nth p.points k).id<=99)/\(0<k->(nth p.points (k-1)).id<(nth p.points k).id)/\∃ s∈p.sections,s.id=(nth p.points k).sec/\s.pt=(nth p.points k).id
   ·obtain ⟨h1,h2,s,hs1,hs2,hs3⟩:=hok
    have h4:=zdF hso hs1
    rw[hs2]at h4
    have:(decide ((nth p.points k).id<1)||(decide (99<(nth p.points k).id)||(decide ((0:Int)<k)&&decide ((nth p.points k).id<=(nth p.points (k-1)).id)||(decide (zdR (nth p.points k).sec 0 p.sections<0)||!decide ((nth p.sections (zdR (nth p.points k).sec 0 p.sections).toNat).pt=(nth p.points k).id)))))=false:=by
     rw[h4.1,hs3]
     simp only[Bool.or_eq_false_iff,Bool.and_eq_false_imp,decide_eq_false_iff_not,decide_eq_true_eq,Bool.not_eq_false']
     refine ⟨by omega,by omega,fun h=>?_,by omega,trivial⟩
     have:=h2 (by omega)
     omega
    rw[this,cond_false]
    refine hn () fun i hi=>?_
    rcases Nat.lt_or_ge i k with h|h
    ·exact hK i h
    ·obtain rfl:i=k:=by omega
     exact ⟨h1,h2,s,hs1,hs2,hs3⟩
   ·have:(decide ((nth p.points k).id<1)||(decide (99<(nth p.points k).id)||(decide ((0:Int)<k)&&decide ((nth p.points k).id<=(nth p.points (k-1)).id)||(decide (zdR (nth p.points k).sec 0 p.sections<0)||!decide ((nth p.sections (zdR (nth p.points k).sec 0 p.sections).toNat).pt=(nth p.points k).id)))))=true:=by
     rw[<-Bool.not_eq_false]
     intro hf
     simp only[Bool.or_eq_false_iff,Bool.and_eq_false_imp,decide_eq_false_iff_not,decide_eq_true_eq,Bool.not_eq_false']at hf
     obtain ⟨h1,h2,h3,h4,h5⟩:=hf
     refine hok ⟨⟨by omega,by omega⟩,fun h=>?_, ?_⟩
     ·have:=h3 (by omega)
      omega
     ·rcases zcW (nth p.points k).sec p.sections 0 with ⟨e,_⟩|⟨q,hq,e,e2⟩
      ·rw[e]at h4;exact absurd (by decide) h4
      ·have e3:(zdR (nth p.points k).sec 0 p.sections).toNat=q:=by omega
       rw[e3]at h5
       exact ⟨_,zab hq,e2,h5⟩
    rw[this,cond_true]
    refine good1 ⟨fun h=>(by cases h),fun hp=>absurd ?_ hok⟩
    exact ⟨hp.id _ (zab hk),fun h=>hp.up k h hk,hp.sec _ (zab hk)⟩
  ·intro _ hK
   refine good1 ?_
   simp only[Bool.and_eq_true,decide_eq_true_eq]
   constructor
   ·rintro ⟨h1,h2⟩
    refine ⟨fun x hx=>?_,fun i h0 hi=>(hK i hi).2.1 h0,fun x hx=>?_,h1,h2⟩
    ·obtain ⟨i,hi,rfl⟩:=zbN hx
     exact (hK i hi).1
    ·obtain ⟨i,hi,rfl⟩:=zbN hx
     exact (hK i hi).2.2
   ·intro hp
    exact ⟨hp.len,hp.many⟩
theorem zje {sec:List Int} (h3:∀ i,nth sec i<=3) {x y:Sgn} (hx:zb5 sec x.sec=true/\0<=x.ed/\x.ed<nth sec x.sec.toNat) (hy:zb5 sec y.sec=true/\0<=y.ed/\y.ed<nth sec y.sec.toNat):zcP x=zcP y↔x.sec=y.sec/\x.ed=y.ed:=by
 have h4:=h3 x.sec.toNat
 have h5:=h3 y.sec.toNat
 have h6:0<=x.sec/\x.sec<=99:=by have:=hx.1;simp only[zb5,Bool.and_eq_true,decide_eq_true_eq]at this;omega
 have h7:0<=y.sec/\y.sec<=99:=by have:=hy.1;simp only[zb5,Bool.and_eq_true,decide_eq_true_eq]at this;omega
 unfold zcP
 constructor
 ·intro h;omega
 ·rintro ⟨h1,h2⟩;rw[h1,h2]
theorem zhH {sec:List Int} (h3:∀ i,nth sec i<=3) {x:Sgn} (hx:zb5 sec x.sec=true/\0<=x.ed/\x.ed<nth sec x.sec.toNat):zcP x<300:=by
 have h4:=h3 x.sec.toNat
 have h6:0<=x.sec/\x.sec<=99:=by have:=hx.1;simp only[zb5,Bool.and_eq_true,decide_eq_true_eq]at this;omega
 unfold zcP
 omega
theorem zk3 {sec:List Int} (h3:∀ i,nth sec i<=3):∀ (l:List Sgn) (m:List Bool),m.length=300->(zhG sec m l=true↔(∀ x∈l,(zb5 sec x.sec=true/\0<=x.ed/\x.ed<nth sec x.sec.toNat)/\nth m (zcP x)=false)/\l.Pairwise fun x y=>zcP x≠zcP y)
 |[],m,_=>by simp[zhG]
 |x::r,m,hm=>by
  have ih:=zk3 h3 r (m.set (zcP x) true) (by simpa using hm)
  rw[zhG,Bool.and_eq_true,ih,List.pairwise_cons]
  have hb:(!zdp sec m x)=true↔(zb5 sec x.sec=true/\0<=x.ed/\x.ed<nth sec x.sec.toNat)/\nth m (zcP x)=false:=by
   unfold zdp
   simp only[Bool.not_eq_true',Bool.or_eq_false_iff,Bool.not_eq_false',decide_eq_false_iff_not]
   constructor
   ·rintro ⟨h1,h2,h4,h5⟩;exact ⟨⟨h1,by omega,by omega⟩,h5⟩
   ·rintro ⟨⟨h1,h2,h4⟩,h5⟩;exact ⟨h1,by omega,by omega,h5⟩
  rw[hb]
  constructor
  ·rintro ⟨h1,h2,h4⟩
   have hl:=zhH h3 h1.1
   refine ⟨fun y hy=>?_,fun y hy e=>?_,h4⟩
   ·rcases List.mem_cons.1 hy with rfl|hy
    ·exact h1
    ·have h5:=h2 y hy
     refine ⟨h5.1, ?_⟩
     have h6:=h5.2
     rw[za7 _ _ _ _ (by omega)]at h6
     split at h6
     ·cases h6
     ·exact h6
   ·have h6:=(h2 y hy).2
    rw[za7 _ _ _ _ (by omega),if_pos e.symm]at h6
    cases h6
  ·rintro ⟨h1,h2,h4⟩
   have h0:=h1 x (by simp)
   have hl:=zhH h3 h0.1
   refine ⟨h0,fun y hy=>?_,h4⟩
   have h5:=h1 y (by simp[hy])
   refine ⟨h5.1, ?_⟩
   rw[za7 _ _ _ _ (by omega),if_neg (fun e=>h2 y hy e.symm)]
   exact h5.2
structure SgsP (p:Pln):Prop where
 id:∀ x∈p.signals,1<=x.id/\x.id<=99
 up:∀ i,i<p.signals.length->∀ m,m<i->(nth p.signals m).id<(nth p.signals i).id
 apart:∀ i,i<p.signals.length->∀ m,m<i->¬((nth p.signals m).sec=(nth p.signals i).sec/\(nth p.signals m).ed=(nth p.signals i).ed)
 sec:∀ x∈p.signals,∃ s∈p.sections,s.id=x.sec/\0<=x.ed/\x.ed<s.ends.length
 len:(p.signals.length:Int)<=10
theorem zfU {α:Type} [Inhabited α] {R:α->α->Prop} {l:List α}:l.Pairwise R↔∀ i,i<l.length->∀ m,m<i->R (nth l m) (nth l i):=by
 rw[List.pairwise_iff_getElem]
 constructor
 ·intro h i hi m hm
  have:=h m i (by omega) hi hm
  rw[<-zaK (by omega),<-zaK hi]at this
  exact this
 ·intro h i j hi hj hij
  have:=h j hj i hij
  rw[zaK hi,zaK hj]at this
  exact this
theorem zkI {p:Pln} (h:zcg p.sections=true) (x:Sgn):(zb5 (ends p.sections) x.sec=true/\0<=x.ed/\x.ed<nth (ends p.sections) x.sec.toNat)↔∃ s∈p.sections,s.id=x.sec/\0<=x.ed/\x.ed<s.ends.length:=by
 rw[zem h]
 constructor
 ·rintro ⟨⟨s,hs,e⟩,h1,h2⟩
  rw[<-e,ziA h hs]at h2
  exact ⟨s,hs,e,h1,h2⟩
 ·rintro ⟨s,hs,e,h1,h2⟩
  exact ⟨⟨s,hs,e⟩,h1,by rw[<-e,ziA h hs];exact h2⟩
theorem zfG {p:Pln} (h:zcg p.sections=true):signals p (ends p.sections)=true↔SgsP p:=by
 have h3:=zrh h
 unfold signals
 rw[Bool.and_eq_true,zdq,zk3 h3 _ _ List.length_replicate]
 have hpw:(p.signals.map Sgn.id).Pairwise (· < ·)↔∀ i,i<p.signals.length->∀ m,m<i->(nth p.signals m).id<(nth p.signals i).id:=by
  rw[List.pairwise_map,zfU]
 rw[hpw,zfU]
 constructor
 ·rintro ⟨⟨h1,h2,h4⟩,h5,h6⟩
  refine ⟨fun x hx=>h1 x.id (List.mem_map_of_mem hx),h2,fun i hi m hm e=>?_,fun x hx=>(zkI h x).1 (h5 x hx).1,by simpa using h4⟩
  exact h6 i hi m hm ((zje h3 (h5 _ (zab (by omega))).1 (h5 _ (zab hi)).1).2 e)
 ·rintro ⟨h1,h2,h4,h5,h6⟩
  refine ⟨⟨fun n hn=>?_,h2,by simpa using h6⟩,fun x hx=>?_,fun i hi m hm e=>?_⟩
  ·obtain ⟨x,hx,rfl⟩:=List.mem_map.1 hn
   exact h1 x hx
  ·have h7:=(zkI h x).2 (h5 x hx)
   exact ⟨h7,zdz _ _ _ (zhH h3 h7)⟩
  ·exact h4 i hi m hm ((zje h3 ((zkI h _).2 (h5 _ (zab (by omega)))) ((zkI h _).2 (h5 _ (zab hi)))).1 e)
def zoz (p:Pln) (x:Sgn):Bool:=decide (x.id<1)||(decide (99<x.id)||(decide (zdR x.sec 0 p.sections<0)||(decide (x.ed<0)||decide (((nth p.sections (zdR x.sec 0 p.sections).toNat).ends.length:Int)<=x.ed))))
def rsF (p:Pln):Bool :=
 zaL (fun i _ za5=>cond (zoz p (nth p.signals i)) false
   (zaL (fun m _ next2=>cond (decide ((nth p.signals i).id<=(nth p.signals m).id)||(decide ((nth p.signals m).sec=(nth p.signals i).sec)&&decide ((nth p.signals m).ed=(nth p.signals i).ed))) false (next2 ())) (fun _=>za5 ()) i 0 ()))
  (fun _=>decide ((p.signals.length:Int)<=10)) p.signals.length 0 ()
theorem zhR {p:Pln} (h:zcg p.sections=true) (x:Sgn):zoz p x=false↔(1<=x.id/\x.id<=99)/\∃ s∈p.sections,s.id=x.sec/\0<=x.ed/\x.ed<s.ends.length:=by
 have hso:zeb p.sections:=zdG h
 unfold zoz
 simp only[Bool.or_eq_false_iff,decide_eq_false_iff_not]
 constructor
 ·rintro ⟨h1,h2,h3,h4,h5⟩
  refine ⟨by omega, ?_⟩
  rcases zcW x.sec p.sections 0 with ⟨e,_⟩|⟨q,hq,e,e2⟩
  ·rw[e]at h3;exact absurd (by decide) h3
  ·have e3:(zdR x.sec 0 p.sections).toNat=q:=by omega
   rw[e3]at h5
   exact ⟨_,zab hq,e2,by omega,by omega⟩
 ·rintro ⟨h1,s,hs1,hs2,h3,h4⟩
  have h5:=zdF hso hs1
  rw[hs2]at h5
  rw[h5.1]
  refine ⟨by omega,by omega,by omega,by omega,by omega⟩
theorem rsF_eq {p:Pln} (h:zcg p.sections=true):rsF p=signals p (ends p.sections):=by
 generalize hX:signals p (ends p.sections)=X
 have hiff:X=true↔SgsP p:=by rw[<-hX];exact zfG h
 have good1:∀ {b:Bool},(b=true↔SgsP p)->b=X:=fun hb=>by rw[Bool.eq_iff_iff,hb,hiff]
 unfold rsF
 refine zaN (·=X) (fun k _=>∀ i,i<k->zoz p (nth p.signals i)=false/\∀ m,m<i->(nth p.signals m).id<(nth p.signals i).id/\¬((nth p.signals m).sec=(nth p.signals i).sec/\(nth p.signals m).ed=(nth p.signals i).ed)) (fun i hi=>by omega) ?_ ?_
 ·intro k _ za5 hk hK hn
  cases hb:zoz p (nth p.signals k) with
  |true =>
   rw[cond_true]
   refine good1 ⟨fun h=>(by cases h),fun hp=>?_⟩
   have:=(zhR h (nth p.signals k)).2 ⟨hp.id _ (zab hk),hp.sec _ (zab hk)⟩
   rw[hb]at this
   cases this
  |false =>
   rw[cond_false]
   refine zaN (·=X) (fun m _=>∀ j,j<m->(nth p.signals j).id<(nth p.signals k).id/\¬((nth p.signals j).sec=(nth p.signals k).sec/\(nth p.signals j).ed=(nth p.signals k).ed)) (fun j hj=>by omega) ?_ ?_
   ·intro m _ next2 hm hM hn2
    by_cases e:(nth p.signals m).id<(nth p.signals k).id/\¬((nth p.signals m).sec=(nth p.signals k).sec/\(nth p.signals m).ed=(nth p.signals k).ed)
    ·have:(decide ((nth p.signals k).id<=(nth p.signals m).id)||(decide ((nth p.signals m).sec=(nth p.signals k).sec)&&decide ((nth p.signals m).ed=(nth p.signals k).ed)))=false:=by
      simp only[Bool.or_eq_false_iff,Bool.and_eq_false_imp,decide_eq_false_iff_not,decide_eq_true_eq]
      exact ⟨by omega,fun h1 h2=>e.2 ⟨h1,h2⟩⟩
     rw[this,cond_false]
     refine hn2 () fun j hj=>?_
     rcases Nat.lt_or_ge j m with h1|h1
     ·exact hM j h1
     ·obtain rfl:j=m:=by omega
      exact e
    ·have:(decide ((nth p.signals k).id<=(nth p.signals m).id)||(decide ((nth p.signals m).sec=(nth p.signals k).sec)&&decide ((nth p.signals m).ed=(nth p.signals k).ed)))=true:=by
      rw[<-Bool.not_eq_false]
      intro hf
      simp only[Bool.or_eq_false_iff,Bool.and_eq_false_imp,decide_eq_false_iff_not,decide_eq_true_eq]at hf
      exact e ⟨by omega,fun h1=>hf.2 h1.1 h1.2⟩
     rw[this,cond_true]
     refine good1 ⟨fun h=>(by cases h),fun hp=>absurd ?_ e⟩
     exact ⟨hp.up k hk m hm,hp.apart k hk m hm⟩
   ·intro _ hM
    refine hn () fun i hi=>?_
    rcases Nat.lt_or_ge i k with h1|h1
    ·exact hK i h1
    ·obtain rfl:i=k:=by omega
     exact ⟨hb,hM⟩
 ·intro _ hK
  refine good1 ?_
  rw[decide_eq_true_eq]
  constructor
  ·intro hl
   refine ⟨fun x hx=>?_,fun i hi m hm=>((hK i hi).2 m hm).1,fun i hi m hm=>((hK i hi).2 m hm).2,fun x hx=>?_,hl⟩
   ·obtain ⟨i,hi,rfl⟩:=zbN hx
    exact ((zhR h _).1 (hK i hi).1).1
   ·obtain ⟨i,hi,rfl⟩:=zbN hx
    exact ((zhR h _).1 (hK i hi).1).2
  ·exact fun hp=>hp.len
theorem zht {α:Type} [Inhabited α] (f:α->Int) (n:Int) (d:α) (l:List α):(za3 (fun x=>decide (f x=n)) 0 l=-1/\l.find? (fun x=>decide (f x=n))=none)\/∃ i:Nat,i<l.length/\za3 (fun x=>decide (f x=n)) 0 l=(i:Int)/\f (nth l i)=n/\l.find? (fun x=>decide (f x=n))=some (nth l i):=by
 rcases zb7 (fun x:α=>decide (f x=n)) l 0 with ⟨h1,h2⟩|⟨i,h1,h2,h3⟩
 ·exact .inl ⟨h1,h2⟩
 ·exact .inr ⟨i,h1,by omega,(zf6 (f:=f) h3).2,h3⟩
structure RteP (p:Pln) (r:Rte):Prop where
 ent:∃ x∈p.signals,x.id=r.entry
 ex:¬r.exit=0->(∃ x∈p.signals,x.id=r.exit)/\¬r.exit=r.entry
 ov:r.exit=0->r.over.length=0
 lens:1<=r.path.length/\r.path.length<=6/\r.over.length<=2/\r.flanks.length<=3/\1<=r.timer/\r.timer<=9
 secs:∀ x∈r.path++r.over,(∃ s∈p.sections,s.id=x)/\¬x=((p.signals.find? fun x=>decide (x.id=r.entry)).getD Sgn.z).sec
 nd:(r.path++r.over).Nodup
 flk:∀ i,i<r.flanks.length->(∃ x∈p.points,x.id=(nth r.flanks i).pnt)/\(0<i->(nth r.flanks (i-1)).pnt<(nth r.flanks i).pnt)/\((nth r.flanks i).lie=1\/(nth r.flanks i).lie=2)
theorem zdg {α:Type} (f:α->Int) (n:Int) (l:List α):(l.find? fun x=>decide (f x=n)).isSome=true↔∃ x∈l,f x=n:=by
 rw[List.find?_isSome]
 constructor
 ·rintro ⟨x,hx,e⟩;exact ⟨x,hx,by simpa using e⟩
 ·rintro ⟨x,hx,e⟩;exact ⟨x,hx,by simpa using e⟩
def FlkOk (p:Pln) (pr:Option Int) (f:Flk):Prop:=(∃ x∈p.points,x.id=f.pnt)/\(∀ y,pr=some y->y<f.pnt)/\(f.lie=1\/f.lie=2)
theorem zo3 (p:Pln) (pr:Option Int) (f:Flk):zlG p.points pr f=false↔FlkOk p pr f:=by
 unfold zlG FlkOk
 rw[Bool.or_eq_false_iff,Bool.or_eq_false_iff,Bool.not_eq_false',zdg Pnt.id]
 refine and_congr Iff.rfl (and_congr ?_ ?_)
 ·cases pr with
  |none=>simp
  |some y=>simp
 ·by_cases h:f.lie=1
  ·simp[h]
  ·simp[h]
theorem zn2 (p:Pln):∀ (l:List Flk) (pr:Option Int),zo2 p.points pr l=true↔∀ i,i<l.length->FlkOk p (if i=0 then pr else some (nth l (i-1)).pnt) (nth l i)
 |[],pr=>by simp[zo2]
 |f::r,pr=>by
  rw[zo2,Bool.and_eq_true,Bool.not_eq_true',zo3,zn2 p r]
  constructor
  ·rintro ⟨h1,h2⟩ i hi
   match i with
   |0=>rw[if_pos rfl];exact h1
   |1=>exact h2 0 (by simpa using hi)
   |i+2 =>
    have:=h2 (i+1) (by simp at hi;omega)
    rw[if_neg (by omega)]at this |-
    exact this
  ·intro h
   refine ⟨by have:=h 0 (by simp);rw[if_pos rfl]at this;exact this,fun i hi=>?_⟩
   have:=h (i+1) (by simpa using hi)
   rw[if_neg (by omega)]at this
   match i with
   |0=>exact this
   |i+1=>rw[if_neg (by omega)];exact this
theorem zms {p:Pln} (h:zcg p.sections=true) (hg:SgsP p) (r:Rte):zcR p r (ends p.sections)=true↔RteP p r:=by
 unfold zcR
 rw[Bool.and_eq_true,Bool.and_eq_true,Bool.and_eq_true,Bool.and_eq_true]
 unfold zj6 zgs zeH zhQ
 rw[zkn _ _ _ (by rw[List.length_set,List.length_replicate]),zn2]
 have hent:(p.signals.find? fun x=>decide (x.id=r.entry)).isSome=true->0<=((p.signals.find? fun x=>decide (x.id=r.entry)).getD Sgn.z).sec/\((p.signals.find? fun x=>decide (x.id=r.entry)).getD Sgn.z).sec<=99:=fun h1=>by
  obtain ⟨x,hx⟩:=Option.isSome_iff_exists.1 h1
  rw[hx]
  obtain ⟨s,hs,e,_⟩:=hg.sec x (List.mem_of_find?_eq_some hx)
  have:=zbh h s hs
  show 0<=x.sec/\x.sec<=99
  omega
 have hmark:(p.signals.find? fun x=>decide (x.id=r.entry)).isSome=true->∀ x:Int,0<=x/\x<=99->(nth ((List.replicate 100 false).set ((p.signals.find? fun x=>decide (x.id=r.entry)).getD Sgn.z).sec.toNat true) x.toNat=false↔¬x=((p.signals.find? fun x=>decide (x.id=r.entry)).getD Sgn.z).sec):=fun h1 x hx=>by
  have h2:=hent h1
  rw[za7 _ _ _ _ (by rw[List.length_replicate];omega)]
  by_cases e:x=((p.signals.find? fun x=>decide (x.id=r.entry)).getD Sgn.z).sec
  ·rw[if_pos (by rw[e])];simp[e]
  ·rw[if_neg (by omega),zdz _ _ _ (by omega)];simp[e]
 have hth:∀ x:Int,zb5 (ends p.sections) x=true->0<=x/\x<=99:=fun x hx=>by
  obtain ⟨s,hs,e⟩:=(zem h x).1 hx
  have:=zbh h s hs
  omega
 constructor
 ·rintro ⟨h1,h2,h3,⟨h4,h5⟩,h6⟩
  simp only[Bool.and_eq_true,Bool.not_eq_true',Bool.and_eq_false_imp,Bool.or_eq_false_iff,Bool.not_eq_false',decide_eq_true_eq,decide_eq_false_iff_not]at h1 h2 h3
  obtain ⟨h7,h8,h9⟩:=h1
  refine ⟨(zdg Sgn.id _ _).1 h7,fun e=>?_,fun e=>?_,by omega,fun x hx=>?_,h5,fun i hi=>?_⟩
  ·have:=h8 e
   exact ⟨(zdg Sgn.id _ _).1 this.1,this.2⟩
  ·have:=h9 e;omega
  ·obtain ⟨h10,h11⟩:=h4 x hx
   exact ⟨(zem h x).1 h10,(hmark h7 x (hth x h10)).1 h11⟩
  ·have:=h6 i hi
   refine ⟨this.1,fun h0=>?_,this.2.2⟩
   exact this.2.1 _ (by rw[if_neg (by omega)])
 ·intro hr
  have h7:=(zdg Sgn.id _ _).2 hr.ent
  refine ⟨?_, ?_, ?_,⟨fun x hx=>?_,hr.nd⟩,fun i hi=>?_⟩
  ·simp only[Bool.and_eq_true,Bool.not_eq_true',Bool.and_eq_false_imp,Bool.or_eq_false_iff,Bool.not_eq_false',decide_eq_true_eq,decide_eq_false_iff_not]
   refine ⟨h7,fun e=>⟨(zdg Sgn.id _ _).2 (hr.ex e).1,(hr.ex e).2⟩,fun e=>?_⟩
   have:=hr.ov e
   omega
  ·have:=hr.lens
   simp only[Bool.and_eq_true,Bool.not_eq_true',decide_eq_false_iff_not]
   omega
  ·have:=hr.lens
   simp only[Bool.and_eq_true,Bool.not_eq_true',decide_eq_false_iff_not]
   omega
  ·obtain ⟨h10,h11⟩:=hr.secs x hx
   have h12:=(zem h x).2 h10
   exact ⟨h12,(hmark h7 x (hth x h12)).2 h11⟩
  ·obtain ⟨h10,h11,h12⟩:=hr.flk i hi
   refine ⟨h10,fun y hy=>?_,h12⟩
   by_cases h0:i=0
   ·rw[if_pos h0]at hy;cases hy
   ·rw[if_neg h0]at hy
    cases hy
    exact h11 (by omega)
def rrT1 (p:Pln) (r:Rte) (k kx:Int):Bool:=decide (k<0)||(!decide (r.exit=0)&&(decide (kx<0)||decide (r.exit=r.entry))||decide (r.exit=0)&&!decide ((r.over.length:Int)=0))
def rrT2 (r:Rte):Bool:=decide ((r.path.length:Int)<1)||(decide (6<(r.path.length:Int))||(decide (2<(r.over.length:Int))||(decide (3<(r.flanks.length:Int))||(decide (r.timer<1)||decide (9<r.timer)))))
def rrS (p:Pln) (k n:Int):Bool:=decide (zdR n 0 p.sections<0)||decide (n=(nth p.signals k.toNat).sec)
def rrK (p:Pln) (r:Rte) (i:Nat):Bool:=decide (za3 (fun x=>decide (Pnt.id x=(nth r.flanks i).pnt)) 0 p.points<0)||(decide ((0:Int)<i)&&decide ((nth r.flanks i).pnt<=(nth r.flanks (i-1)).pnt)||(decide ((nth r.flanks i).lie<1)||decide (2<(nth r.flanks i).lie)))
def rrF (p:Pln) (r:Rte) (k kx:Int) (all:List Int):Bool :=
 cond (rrT1 p r k kx) false (cond (rrT2 r) false
  (zaL (fun i _ za5=>cond (rrS p k (nth all i)) false (zaL (fun m _ next2=>cond (decide (nth all m=nth all i)) false (next2 ())) (fun _=>za5 ()) i 0 ()))
   (fun _=>zaL (fun i _ za5=>cond (rrK p r i) false (za5 ())) (fun _=>true) r.flanks.length 0 ()) all.length 0 ()))
theorem zig {l:List Int}:l.Nodup↔∀ i,i<l.length->∀ m,m<i->¬nth l m=nth l i:=by
 rw[List.nodup_iff_pairwise_ne,zfU]
theorem rrF_eq {p:Pln} (h:zcg p.sections=true) (hg:SgsP p) (r:Rte):rrF p r (za3 (fun x=>decide (Sgn.id x=r.entry)) 0 p.signals) (za3 (fun x=>decide (Sgn.id x=r.exit)) 0 p.signals) (r.path++r.over)=zcR p r (ends p.sections):=by
 generalize hX:zcR p r (ends p.sections)=X
 have hiff:X=true↔RteP p r:=by rw[<-hX];exact zms h hg r
 have good1:∀ {b:Bool},(b=true↔RteP p r)->b=X:=fun hb=>by rw[Bool.eq_iff_iff,hb,hiff]
 have bad:¬RteP p r->false=X:=fun hb=>good1 ⟨fun h=>(by cases h),fun hr=>absurd hr hb⟩
 have hso:zeb p.sections:=zdG h
 unfold rrF
 cases h1:rrT1 p r (za3 (fun x=>decide (Sgn.id x=r.entry)) 0 p.signals) (za3 (fun x=>decide (Sgn.id x=r.exit)) 0 p.signals) with
 |true =>
  rw[cond_true]
  refine bad fun hr=>?_
  have hent:=hr.ent
  have:rrT1 p r (za3 (fun x=>decide (Sgn.id x=r.entry)) 0 p.signals) (za3 (fun x=>decide (Sgn.id x=r.exit)) 0 p.signals)=false:=by
   unfold rrT1
   simp only[Bool.or_eq_false_iff,Bool.and_eq_false_imp,decide_eq_false_iff_not,decide_eq_true_eq,Bool.not_eq_true',Bool.not_eq_false']
   refine ⟨?_,fun e=>?_,fun e=>?_⟩
   ·rcases zht Sgn.id r.entry Sgn.z p.signals with ⟨_,e2⟩|⟨i,_,e2,_⟩
    ·obtain ⟨x,hx,ex⟩:=hent
     have:=List.find?_eq_none.1 e2 x hx
     simp[ex]at this
    ·omega
   ·refine ⟨?_,(hr.ex e).2⟩
    rcases zht Sgn.id r.exit Sgn.z p.signals with ⟨_,e2⟩|⟨i,_,e2,_⟩
    ·obtain ⟨x,hx,ex⟩:=(hr.ex e).1
     have:=List.find?_eq_none.1 e2 x hx
     simp[ex]at this
    ·omega
   ·have:=hr.ov e
    omega
  rw[this]at h1
  cases h1
 |false =>
  rw[cond_false]
  unfold rrT1 at h1
  simp only[Bool.or_eq_false_iff,Bool.and_eq_false_imp,decide_eq_false_iff_not,decide_eq_true_eq,Bool.not_eq_true',Bool.not_eq_false']at h1
  obtain ⟨h1a,h1b,h1c⟩:=h1
  rcases zht Sgn.id r.entry Sgn.z p.signals with ⟨e,_⟩|⟨k,hk,e,ek,ef⟩
  ·rw[e]at h1a;exact absurd (by decide) h1a
  ·rw[e]
   have hsec:((p.signals.find? fun x=>decide (x.id=r.entry)).getD Sgn.z).sec=(nth p.signals k).sec:=by rw[ef];rfl
   cases h2:rrT2 r with
   |true =>
    rw[cond_true]
    refine bad fun hr=>?_
    have:=hr.lens
    have:rrT2 r=false:=by
     unfold rrT2
     simp only[Bool.or_eq_false_iff,decide_eq_false_iff_not]
     omega
    rw[this]at h2
    cases h2
   |false =>
    rw[cond_false]
    unfold rrT2 at h2
    simp only[Bool.or_eq_false_iff,decide_eq_false_iff_not]at h2
    have hS:∀ n:Int,rrS p (k:Int) n=false↔(∃ s∈p.sections,s.id=n)/\¬n=(nth p.signals k).sec:=fun n=>by
     unfold rrS
     rw[Int.toNat_natCast,Bool.or_eq_false_iff,decide_eq_false_iff_not,decide_eq_false_iff_not]
     refine and_congr ?_ Iff.rfl
     constructor
     ·intro h3
      rcases zcW n p.sections 0 with ⟨e3,_⟩|⟨q,hq,e3,e4⟩
      ·rw[e3]at h3;exact absurd (by decide) h3
      ·exact ⟨_,zab hq,e4⟩
     ·rintro ⟨s,hs,e3⟩
      have:=(zdF hso hs).2
      rw[e3]at this
      omega
    have hK:∀ i,rrK p r i=false↔(∃ x∈p.points,x.id=(nth r.flanks i).pnt)/\(0<i->(nth r.flanks (i-1)).pnt<(nth r.flanks i).pnt)/\((nth r.flanks i).lie=1\/(nth r.flanks i).lie=2):=fun i=>by
     unfold rrK
     simp only[Bool.or_eq_false_iff,Bool.and_eq_false_imp,decide_eq_false_iff_not,decide_eq_true_eq]
     refine and_congr ?_ (and_congr ?_ ?_)
     ·rcases zat Pnt.id (nth r.flanks i).pnt p.points with ⟨e3,e4⟩|⟨q,hq,e3,e4⟩
      ·rw[e3]
       constructor
       ·intro h3;exact absurd (by decide) h3
       ·rintro ⟨x,hx,ex⟩;exact absurd ex (e4 x hx)
      ·rw[e3]
       exact ⟨fun _=>⟨_,zab hq,e4⟩,fun _=>by omega⟩
     ·constructor
      ·intro h3 h4;have:=h3 (by omega);omega
      ·intro h3 h4;have:=h3 (by omega);omega
     ·omega
    refine zaN (·=X) (fun i _=>∀ j,j<i->((∃ s∈p.sections,s.id=nth (r.path++r.over) j)/\¬nth (r.path++r.over) j=(nth p.signals k).sec)/\∀ m,m<j->¬nth (r.path++r.over) m=nth (r.path++r.over) j) (fun j hj=>by omega) ?_ ?_
    ·intro i _ za5 hi hI hn
     cases h3:rrS p (k:Int) (nth (r.path++r.over) i) with
     |true =>
      rw[cond_true]
      refine bad fun hr=>?_
      have:=hr.secs _ (zab hi)
      rw[hsec]at this
      rw[(hS _).2 this]at h3
      cases h3
     |false =>
      rw[cond_false]
      refine zaN (·=X) (fun m _=>∀ j,j<m->¬nth (r.path++r.over) j=nth (r.path++r.over) i) (fun j hj=>by omega) ?_ ?_
      ·intro m _ next2 hm hM hn2
       by_cases e4:nth (r.path++r.over) m=nth (r.path++r.over) i
       ·rw[decide_eq_true e4,cond_true]
        exact bad fun hr=>zig.1 hr.nd i hi m hm e4
       ·rw[decide_eq_false e4,cond_false]
        refine hn2 () fun j hj=>?_
        rcases Nat.lt_or_ge j m with h5|h5
        ·exact hM j h5
        ·obtain rfl:j=m:=by omega
         exact e4
      ·intro _ hM
       refine hn () fun j hj=>?_
       rcases Nat.lt_or_ge j i with h5|h5
       ·exact hI j h5
       ·obtain rfl:j=i:=by omega
        exact ⟨(hS _).1 h3,hM⟩
    ·intro _ hI
     refine zaN (·=X) (fun i _=>∀ j,j<i->rrK p r j=false) (fun j hj=>by omega) ?_ ?_
     ·intro i _ za5 hi hJ hn
      cases h3:rrK p r i with
      |true =>
       rw[cond_true]
       refine bad fun hr=>?_
       rw[(hK i).2 (hr.flk i hi)]at h3
       cases h3
      |false =>
       rw[cond_false]
       refine hn () fun j hj=>?_
       rcases Nat.lt_or_ge j i with h5|h5
       ·exact hJ j h5
       ·obtain rfl:j=i:=by omega
        exact h3
     ·intro _ hJ
      refine good1 ⟨fun _=>?_,fun _=>rfl⟩
      refine ⟨⟨_,zab hk,ek⟩,fun e4=>?_,fun e4=>?_,by omega,fun x hx=>?_,zig.2 fun i hi m hm=>(hI i hi).2 m hm,fun i hi=>(hK i).1 (hJ i hi)⟩
      ·have:=h1b e4
       refine ⟨?_,this.2⟩
       rcases zht Sgn.id r.exit Sgn.z p.signals with ⟨e5,_⟩|⟨q,hq,e5,e6,_⟩
       ·rw[e5]at this;exact absurd (by decide) this.1
       ·exact ⟨_,zab hq,e6⟩
      ·have:=h1c e4;omega
      ·obtain ⟨i,hi,rfl⟩:=zbN hx
       rw[hsec]
       exact (hI i hi).1
def rmT (p:Pln):Bool:=decide (p.version<1)||(decide (2147483647<p.version)||(decide (p.parent<0)||(decide (p.version<=p.parent)||decide (16<(p.routes.length:Int)))))
def rmR (p:Pln) (rt:Rte->Bool) (i:Nat):Bool:=decide ((nth p.routes i).id<1)||(decide (99<(nth p.routes i).id)||(decide ((0:Int)<i)&&decide ((nth p.routes i).id<=(nth p.routes (i-1)).id)||!rt (nth p.routes i)))
def rmF (p:Pln) (m pts sgs:Bool) (rt:Rte->Bool):Bool :=
 cond (rmT p) false (cond (!m||(!pts||!sgs)) false (zaL (fun i _ za5=>cond (rmR p rt i) false (za5 ())) (fun _=>true) p.routes.length 0 ()))
theorem rmF_eq (p:Pln):rmF p (zcg p.sections) (points p) (signals p (ends p.sections)) (fun r=>zcR p r (ends p.sections))=zb1 p:=by
 have key:∀ X:Bool,zb1 p=X->rmF p (zcg p.sections) (points p) (signals p (ends p.sections)) (fun r=>zcR p r (ends p.sections))=X:=by
  intro X hX
  have hiff:X=true↔rmT p=false/\(zcg p.sections=true/\points p=true/\signals p (ends p.sections)=true)/\∀ i,i<p.routes.length->rmR p (fun r=>zcR p r (ends p.sections)) i=false:=by
   rw[<-hX]
   unfold zb1 rmT rmR
   simp only[Bool.and_eq_true,Bool.not_eq_true',Bool.or_eq_false_iff,Bool.and_eq_false_imp,decide_eq_false_iff_not,decide_eq_true_eq,Bool.not_eq_false',zdq,zj9,List.all_eq_true]
   constructor
   ·rintro ⟨⟨h1,h2,h3,h4,h5⟩,h6,h7,⟨h8,h9,h10⟩,h11⟩
    refine ⟨⟨h1,h2,h3,h4,by simp only[List.length_map]at h10;omega⟩,⟨h5,h6,h7⟩,fun i hi=>?_⟩
    have:=h8 (nth p.routes i).id (List.mem_map_of_mem (zab hi))
    refine ⟨by omega,by omega,fun h=>?_,h11 _ (zab hi)⟩
    have:=h9 i (by omega) hi
    omega
   ·rintro ⟨⟨h1,h2,h3,h4,h10⟩,⟨h5,h6,h7⟩,h8⟩
    refine ⟨⟨h1,h2,h3,h4,h5⟩,h6,h7,⟨fun n hn=>?_,fun i h0 hi=>?_,by simp only[List.length_map];omega⟩,fun r hr=>?_⟩
    ·obtain ⟨r,hr,rfl⟩:=List.mem_map.1 hn
     obtain ⟨i,hi,rfl⟩:=zbN hr
     have:=h8 i hi
     omega
    ·have:=(h8 i hi).2.2.1 (by omega)
     omega
    ·obtain ⟨i,hi,rfl⟩:=zbN hr
     exact (h8 i hi).2.2.2
  have bad:¬(rmT p=false/\(zcg p.sections=true/\points p=true/\signals p (ends p.sections)=true)/\∀ i,i<p.routes.length->rmR p (fun r=>zcR p r (ends p.sections)) i=false)->false=X:=fun h=>by
   cases X with
   |false=>rfl
   |true=>exact absurd (hiff.1 rfl) h
  unfold rmF
  cases h1:rmT p with
  |true=>rw[cond_true];exact bad fun h=>by rw[h1]at h;cases h.1
  |false =>
   rw[cond_false]
   by_cases h2:zcg p.sections=true/\points p=true/\signals p (ends p.sections)=true
   ·rw[h2.1,h2.2.1,h2.2.2,Bool.not_true,Bool.or_false,Bool.or_false,cond_false]
    refine zaN (·=X) (fun i _=>∀ j,j<i->rmR p (fun r=>zcR p r (ends p.sections)) j=false) (fun j hj=>by omega) ?_ ?_
    ·intro i _ za5 hi hI hn
     cases h3:rmR p (fun r=>zcR p r (ends p.sections)) i with
     |true=>rw[cond_true];exact bad fun h=>by have:=h.2.2 i hi;rw[h3]at this;cases this
     |false =>
      rw[cond_false]
      refine hn () fun j hj=>?_
      rcases Nat.lt_or_ge j i with h5|h5
      ·exact hI j h5
      ·obtain rfl:j=i:=by omega
       exact h3
    ·intro _ hI
     exact (hiff.2 ⟨h1,h2,hI⟩).symm
   ·have:(!zcg p.sections||(!points p||!signals p (ends p.sections)))=true:=by
     rw[<-Bool.not_eq_false]
     intro h
     simp only[Bool.or_eq_false_iff,Bool.not_eq_false']at h
     exact h2 h
    rw[this,cond_true]
    exact bad fun h=>h2 h.2.1
 exact key _ rfl
def zdx (p:Pln) (n:Int):Section:=nth p.sections (zdR n 0 p.sections).toNat
def zl9 (p:Pln) (r:Rte) (all:List Int) (i:Nat) (s:Section) (e:Int) (j:Join):Bool :=
 if (i:Int)=(r.path.length:Int)-1 then (decide (r.exit=0)&&decide (j.to=0)||!decide (r.exit=0)&&decide (zor p s.id e=r.exit)) else decide (j.to=nth all (i+1))
def outW (p:Pln) (r:Rte) (all:List Int) (i:Nat) (s:Section) (f:Int):Option (Nat×Join×Int):=zaV s f (zl9 p r all i s) 0 s.ends
def zhj (p:Pln) (r:Rte) (all:List Int):Nat->Join->List Int->List Int->List Int->Option (List Int×List Int)
 |_,_,ins,outs,[]=>some (ins,outs)
 |i,j,ins,outs,n::l =>
  if j.to=n then (if i+1=all.length/\0<r.over.length then some (ins++[j.ed],outs++[-1]) else
   match outW p r all i (zdx p n) j.ed with
   |none=>none
   |some v=>zhj p r all (i+1) v.2.1 (ins++[j.ed]) (outs++[(v.1:Int)]) l)
  else none
def zrL (p:Pln) (i:Nat) (n a b:Int):List AskR :=
 if (zdx p n).pt=0 then [] else if 0<(if 0<=b then zh4 (zdx p n) a b else a) then [⟨(zdx p n).pt,(if 0<=b then zh4 (zdx p n) a b else a),i⟩] else []
def zii (p:Pln):Nat->List Int->List Int->List Int->List AskR
 |i,n::l,a::I,b::O=>zrL p i n a b++zii p (i+1) l I O
 |_,_,_,_=>[]
def outG:List Int->List Int->List Join
 |n::l,b::O=>(if 0<=b then [⟨n,b⟩] else [])++outG l O
 |_,_=>[]
theorem zjP {p:Pln} {w:Wk} {s i:Int} {R:Int->Join->Bool} (h:w.lost=true):(zaD p w s i R).lost=true:=by
 unfold zaD
 rw[if_pos h]
 exact h
theorem zon {p:Pln} {w:Wk} {s i:Int} (h:w.lost=true):(zec p w s i).lost=true:=by
 unfold zec
 split
 ·rfl
 ·rw[if_neg (by rw[h];simp)]
  exact h
theorem zfg {p:Pln} {r:Rte} {y:Sgn} {all:List Int}:∀ (l:List Int) (i:Nat) (w:Wk),w.lost=true->(zbK p r y all i w l).lost=true
 |[],_,_,h=>h
 |s::l,i,w,h=>by
  rw[zbK]
  refine zfg l _ _ ?_
  unfold zen
  repeat' split
  all_goals first|exact zjP h|exact zon h
theorem zfT {s:Section} {f:Int} {R R':Int->Join->Bool}:∀ (l:List Join) (e:Nat),(∀ k,k<l.length->R ((e+k:Nat):Int) (nth l k)=R' ((e+k:Nat):Int) (nth l k))->zaV s f R e l=zaV s f R' e l
 |[],_,_=>rfl
 |j::r,e,h=>by
  have h0:R (e:Int) j=R' (e:Int) j:=h 0 (by simp)
  have ih:=zfT (s:=s) (f:=f) (R:=R) (R':=R') r (e+1) fun k hk=>by
   have:=h (k+1) (by simpa using hk)
   rw[show e+(k+1)=e+1+k by omega]at this
   exact this
  rw[zaV,zaV,ih,h0]
theorem zeM {s:Section} {f:Int} {R:Int->Join->Bool}:∀ (l:List Join) (e:Nat) {v:Nat×Join×Int},zaV s f R e l=some v->e<=v.1/\v.1<e+l.length/\v.2.1=nth l (v.1-e)/\(zbc s f v.1).2=0/\v.2.2=(zbc s f v.1).1
 |[],_,v,h=>by simp[zaV]at h
 |j::r,e,v,h=>by
  rw[zaV]at h
  split at h
  ·rename_i h1
   simp only[Option.some.injEq]at h
   subst h
   exact ⟨Nat.le_refl _,by simp,by rw[Nat.sub_self];rfl,h1.1,rfl⟩
  ·obtain ⟨h1,h2,h3,h4⟩:=zeM r (e+1) h
   refine ⟨by omega,by simp;omega, ?_,h4⟩
   rw[h3,show v.1-e=(v.1-(e+1))+1 by omega]
   rfl
section
variable {p:Pln} (hs:zcg p.sections=true)
include hs
theorem zfh {n:Int} (h:∃ s∈p.sections,s.id=n):zdx p n∈p.sections/\(zdx p n).id=n/\p.sections.find? (fun s=>decide (s.id=n))=some (zdx p n):=by
 obtain ⟨s,hs1,e⟩:=h
 have h1:=zdF (zdG hs) hs1
 rw[e]at h1
 have h2:zdx p n=s:=h1.1
 rw[h2]
 have:=zkC Section.id (zeQ (zk7 hs)) hs1
 rw[e]at this
 exact ⟨hs1,e,this⟩
theorem zk2 {s:Section} (h:s∈p.sections):zbD s=true:=((zgX _).1 hs).one s h |>.2.2
theorem join_0 {s:Section} (h:s∈p.sections) {e:Nat} (he:e<s.ends.length):(nth s.ends e).to=0↔nth s.ends e=⟨0,0⟩:=by
 constructor
 ·intro h0
  rcases ((zgX _).1 hs).join s h e he with h1|⟨_,_,s',hs',e1,_⟩
  ·cases hj:nth s.ends e with
   |mk a b =>
    rw[hj]at h1
    obtain ⟨h2,h3⟩:=h1
    dsimp only at h2 h3
    rw[h2,h3]
  ·have:=(zbh hs s' hs').1
   omega
 ·intro h0;rw[h0]
end
theorem zpJ {p:Pln} (h:SgsP p):(p.signals.map Sgn.id).Nodup:=by
 rw[List.nodup_iff_pairwise_ne,List.pairwise_map,zfU]
 intro i hi m hm
 have:=h.up i hi m hm
 omega
theorem zno (n:Int):∀ (l:List Sgn) (o:Sgn),(∀ x∈l,x.id≠n)->zop n o l=o
 |[],_,_=>rfl
 |x::r,o,h=>by rw[zop,if_neg (h x (by simp))];exact zno n r o fun y hy=>h y (by simp[hy])
theorem zml (n:Int):∀ (l:List Sgn) (o:Sgn),(l.map Sgn.id).Nodup->∀ x∈l,x.id=n->zop n o l=x
 |[],_,_,x,hx,_=>by cases hx
 |y::r,o,hn,x,hx,e=>by
  simp only[List.map_cons,List.nodup_cons]at hn
  rw[zop]
  rcases List.mem_cons.1 hx with rfl|hx
  ·rw[if_pos e]
   exact zno n r x fun z hz e2=>hn.1 (by rw[e,<-e2];exact List.mem_map_of_mem hz)
  ·split
   ·exact zml n r _ hn.2 x hx e
   ·exact zml n r _ hn.2 x hx e
theorem znn {p:Pln} (h:SgsP p) {x:Sgn} (hx:x∈p.signals):sig p x.id=x:=zml _ _ _ (zpJ h) x hx rfl
theorem znW (x:Sgn):∀ (l:List Section) (j:Join),(∀ s∈l,s.id≠x.sec)->zjs x j l=j
 |[],_,_=>rfl
 |s::r,j,h=>by rw[zjs,if_neg (h s (by simp))];exact znW x r j fun y hy=>h y (by simp[hy])
theorem zqX (x:Sgn):∀ (l:List Section) (j:Join),(l.map Section.id).Nodup->∀ s∈l,s.id=x.sec->zjs x j l=nth s.ends x.ed.toNat
 |[],_,_,s,hs,_=>by cases hs
 |t::r,j,hn,s,hs,e=>by
  simp only[List.map_cons,List.nodup_cons]at hn
  rw[zjs]
  rcases List.mem_cons.1 hs with rfl|hs
  ·rw[if_pos e]
   exact znW x r _ fun z hz e2=>hn.1 (by rw[e,<-e2];exact List.mem_map_of_mem hz)
  ·exact zqX x r _ hn.2 s hs e
theorem znr {p:Pln} (h:SgsP p) {a b n:Int} (hn:¬n=0):zor p a b=n↔∃ x∈p.signals,x.id=n/\x.sec=a/\x.ed=b:=by
 unfold zor
 constructor
 ·intro e
  cases hf:p.signals.find? (fun x=>decide (x.sec=a)&&decide (x.ed=b)) with
  |none=>rw[hf]at e;exact absurd e.symm hn
  |some x =>
   rw[hf]at e
   have h1:=List.find?_some hf
   simp only[Bool.and_eq_true,decide_eq_true_eq]at h1
   exact ⟨x,List.mem_of_find?_eq_some hf,e,h1⟩
 ·rintro ⟨x,hx,e1,e2,e3⟩
  cases hf:p.signals.find? (fun x=>decide (x.sec=a)&&decide (x.ed=b)) with
  |none =>
   have:=List.find?_eq_none.1 hf x hx
   simp[e2,e3]at this
  |some z =>
   have h1:=List.find?_some hf
   simp only[Bool.and_eq_true,decide_eq_true_eq]at h1
   obtain ⟨i,hi,rfl⟩:=zbN hx
   obtain ⟨k,hk,rfl⟩:=zbN (List.mem_of_find?_eq_some hf)
   show (nth p.signals k).id=n
   rcases Nat.lt_trichotomy i k with hlt|rfl|hlt
   ·exact absurd ⟨e2.trans h1.1.symm,e3.trans h1.2.symm⟩ (h.apart k hk i hlt)
   ·exact e1
   ·exact absurd ⟨h1.1.trans e2.symm,h1.2.trans e3.symm⟩ (h.apart i hi k hlt)
theorem zpK {p:Pln} (h:SgsP p) {a b:Int}:zor p a b=0↔∀ x∈p.signals,¬(x.sec=a/\x.ed=b):=by
 unfold zor
 cases hf:p.signals.find? (fun x=>decide (x.sec=a)&&decide (x.ed=b)) with
 |none =>
  refine ⟨fun _ x hx e=>?_,fun _=>rfl⟩
  have:=List.find?_eq_none.1 hf x hx
  simp[e.1,e.2]at this
 |some z =>
  have h1:=List.find?_some hf
  simp only[Bool.and_eq_true,decide_eq_true_eq]at h1
  have hz:=List.mem_of_find?_eq_some hf
  refine ⟨fun e=>?_,fun e=>absurd h1 (e z hz)⟩
  have:=h.id z hz
  have e:z.id=0:=e
  omega
section
variable {p:Pln} (hs:zcg p.sections=true) (hg:SgsP p) {r:Rte} (hr:RteP p r)
include hs hg hr
theorem zkU {all:List Int} (hall:all=r.path++r.over) {i:Nat} (hi:i<all.length) (hst:¬(i+1=all.length/\0<r.over.length)) (w:Wk) (hw:w.lost=false) (hj:w.inn.to=nth all i) :
  zen p r (sig p r.exit) all i (nth all i) w=match outW p r all i (zdx p (nth all i)) w.inn.ed with
   |none=>{ w with lost:=true }
   |some v=>⟨v.2.1,zi9 (zdx p (nth all i)).pt v.2.2 i w.asks,w.outs++[⟨nth all i,v.1⟩],false⟩:=by
 have hsec:=(hr.secs (nth all i) (by rw[<-hall];exact zab hi)).1
 obtain ⟨hm,hid,hf⟩:=zfh hs hsec
 have hlen:=hr.lens
 have hal:all.length=r.path.length+r.over.length:=by rw[hall,List.length_append]
 have key:∀ R:Int->Join->Bool,(∀ k,k<(zdx p (nth all i)).ends.length->R ((0+k:Nat):Int) (nth (zdx p (nth all i)).ends k)=zl9 p r all i (zdx p (nth all i)) ((0+k:Nat):Int) (nth (zdx p (nth all i)).ends k)) ->
   zaD p w (nth all i) i R=match outW p r all i (zdx p (nth all i)) w.inn.ed with
    |none=>{ w with lost:=true }
    |some v=>⟨v.2.1,zi9 (zdx p (nth all i)).pt v.2.2 i w.asks,w.outs++[⟨nth all i,v.1⟩],false⟩:=by
  intro R hR
  unfold zaD outW zhb
  rw[if_neg (by rw[hw];simp),if_pos hj,hf,<-zfT _ _ hR]
  dsimp only
  cases zaV (zdx p (nth all i)) w.inn.ed R 0 (zdx p (nth all i)).ends with
  |none=>rfl
  |some v=>rfl
 unfold zen
 by_cases h1:(i:Int)=(r.path.length:Int)-1
 ·by_cases h2:r.exit=0
  ·rw[if_pos ⟨h1,h2⟩]
   refine key _ fun k hk=>?_
   unfold zl9
   rw[if_pos h1,decide_eq_true h2,Bool.not_true,Bool.false_and,Bool.or_false,Bool.true_and,Bool.eq_iff_iff,decide_eq_true_eq,decide_eq_true_eq]
   exact (join_0 hs hm hk).symm
  ·rw[if_neg (fun h=>h2 h.2),if_pos h1]
   refine key _ fun k hk=>?_
   unfold zl9
   rw[if_pos h1,decide_eq_false h2,Bool.false_and,Bool.false_or,Bool.not_false,Bool.true_and,hid,Bool.eq_iff_iff,Bool.and_eq_true,decide_eq_true_eq,decide_eq_true_eq,decide_eq_true_eq,znr hg h2]
   obtain ⟨x,hx,ex⟩:=(hr.ex h2).1
   have hsx:sig p r.exit=x:=by rw[<-ex];exact znn hg hx
   rw[hsx]
   constructor
   ·rintro ⟨e1,e2⟩;exact ⟨x,hx,ex,e1.symm,e2.symm⟩
   ·rintro ⟨y,hy,e1,e2,e3⟩
    have:x=y:=by rw[<-znn hg hx,<-znn hg hy,ex,e1]
    subst this
    exact ⟨e2.symm,e3.symm⟩
 ·have h3:¬(i:Int)=(all.length:Int)-1:=fun h=>by
   rcases Nat.eq_zero_or_pos r.over.length with h0|h0
   ·omega
   ·exact hst ⟨by omega,h0⟩
  rw[if_neg (fun h=>h1 h.1),if_neg h1,if_neg h3]
  refine key _ fun k hk=>?_
  unfold zl9
  rw[if_neg h1]
theorem zjB {all:List Int} (hall:all=r.path++r.over):∀ (l:List Int) (i:Nat) (j:Join) (asks:List AskR) (outs:List Join) (I O:List Int),all.drop i=l->i<=all.length ->
  match zhj p r all i j I O l with
  |none=>(zbK p r (sig p r.exit) all i ⟨j,asks,outs,false⟩ l).lost=true
  |some v=>(zbK p r (sig p r.exit) all i ⟨j,asks,outs,false⟩ l).lost=false/\∃ I' O':List Int,v=(I++I',O++O')/\I'.length=l.length/\O'.length=l.length /\
    (zbK p r (sig p r.exit) all i ⟨j,asks,outs,false⟩ l).asks=asks++zii p i l I' O'/\(zbK p r (sig p r.exit) all i ⟨j,asks,outs,false⟩ l).outs=outs++outG l O'
 |[],i,j,asks,outs,I,O,_,_=>⟨rfl,[],[],by simp,rfl,rfl,by simp[zbK,zii],by simp[zbK,outG]⟩
 |n::l,i,j,asks,outs,I,O,hd,hi=>by
  have hil:i<all.length:=by
   rcases Nat.lt_or_ge i all.length with h|h
   ·exact h
   ·rw[List.drop_eq_nil_of_le h]at hd;cases hd
  have hn:nth all i=n/\all.drop (i+1)=l:=by
   rw[zaf hil]at hd
   simp only[List.cons.injEq]at hd
   exact hd
  obtain ⟨hn1,hn2⟩:=hn
  have hsec:=(hr.secs n (by rw[<-hall,<-hn1];exact zab hil)).1
  obtain ⟨hm,hid,hf⟩:=zfh hs hsec
  have hpt:0<=(zdx p n).pt:=(zbh hs _ hm).2.2.1
  have hsh:=zk2 hs hm
  rw[zhj,zbK]
  by_cases hj:j.to=n
  ·rw[if_pos hj]
   by_cases hst:i+1=all.length/\0<r.over.length
   ·rw[if_pos hst]
    have hl:l=[]:=by rw[<-hn2];exact List.drop_eq_nil_of_le (by omega)
    subst hl
    have hal:all.length=r.path.length+r.over.length:=by rw[hall,List.length_append]
    have hW:zen p r (sig p r.exit) all i n ⟨j,asks,outs,false⟩=⟨j,zi9 (zdx p n).pt (if 0<j.ed then j.ed else 0) i asks,outs,false⟩:=by
     unfold zen
     rw[if_neg (by omega),if_neg (by omega),if_pos (by omega)]
     unfold zec zhb
     rw[if_pos hj,hf]
     dsimp only
     by_cases h0:0<j.ed
     ·rw[if_pos ⟨rfl,h0⟩,if_pos h0]
     ·rw[if_neg (fun h=>h0 h.2),if_neg h0]
      unfold zi9
      rw[if_neg (by omega)]
    rw[hW,zbK]
    refine ⟨rfl,[j.ed],[-1],rfl,rfl,rfl, ?_, ?_⟩
    ·dsimp only
     rw[show zii p i [n] [j.ed] [-1]=zrL p i n j.ed (-1) by simp[zii]]
     unfold zi9 zrL
     rw[if_neg (show ¬(0:Int)<=-1 by decide)]
     by_cases h0:0<j.ed
     ·rw[if_pos h0,if_pos h0]
      by_cases h1:(zdx p n).pt=0
      ·rw[if_neg (by omega),if_pos h1];simp
      ·rw[if_pos ⟨by omega,h0⟩,if_neg h1]
     ·rw[if_neg h0,if_neg h0,if_neg (by omega)]
      simp
    ·rw[show outG [n] [-1]=[] by simp[outG]];simp
   ·rw[if_neg hst]
    have hT:=zkU hs hg hr hall hil hst ⟨j,asks,outs,false⟩ rfl (by rw[hn1];exact hj)
    rw[hn1]at hT
    rw[hT]
    dsimp only
    cases ho:outW p r all i (zdx p n) j.ed with
    |none=>exact zfg l _ _ rfl
    |some v =>
     dsimp only
     have hpe:=zeM (zdx p n).ends 0 ho
     have ih:=zjB hall l (i+1) v.2.1 (zi9 (zdx p n).pt v.2.2 i asks) (outs++[⟨n,v.1⟩]) (I++[j.ed]) (O++[(v.1:Int)]) hn2 hil
     cases he:zhj p r all (i+1) v.2.1 (I++[j.ed]) (O++[(v.1:Int)]) l with
     |none=>rw[he]at ih;exact ih
     |some u =>
      rw[he]at ih
      obtain ⟨h1,I',O',h2,h3,h4,h5,h6⟩:=ih
      refine ⟨h1,j.ed::I',(v.1:Int)::O',by rw[h2];simp,by simp[h3],by simp[h4], ?_, ?_⟩
      ·rw[h5,zii]
       have hlie:v.2.2=zh4 (zdx p n) j.ed v.1/\0<=zh4 (zdx p n) j.ed v.1:=by
        have h7:=hpe.2.2.2.1
        have h8:=hpe.2.2.2.2
        unfold zbc at h7 h8
        rw[if_pos hsh]at h7 h8
        split at h7
        ·cases h7
        ·rename_i h9
         rw[if_neg h9]at h8
         exact ⟨h8,by omega⟩
       rw[<-List.append_assoc]
       congr 1
       unfold zi9 zrL
       rw[if_pos (show (0:Int)<=(v.1:Int) by omega),hlie.1]
       by_cases h1:(zdx p n).pt=0
       ·rw[if_neg (by omega),if_pos h1];simp
       ·rw[if_neg h1]
        by_cases h0:0<zh4 (zdx p n) j.ed v.1
        ·rw[if_pos ⟨by omega,h0⟩,if_pos h0]
        ·rw[if_neg (by omega),if_neg h0];simp
      ·rw[h6,outG,if_pos (show (0:Int)<=(v.1:Int) by omega)]
       simp
  ·rw[if_neg hj]
   refine zfg l _ _ ?_
   have h0:zhb p ⟨j,asks,outs,false⟩ n=none:=by
    unfold zhb
    rw[if_neg hj]
   unfold zen
   repeat' split
   all_goals first
    |(unfold zaD;rw[if_neg (by simp),h0])
    |(unfold zec;rw[h0])
end
theorem zfS {s:Section} {f:Int} {R:Int->Join->Bool}:∀ (l:List Join) (e:Nat) {v:Nat×Join×Int},zaV s f R e l=some v->R v.1 v.2.1=true
 |[],_,v,h=>by simp[zaV]at h
 |j::r,e,v,h=>by
  rw[zaV]at h
  split at h
  ·rename_i h1
   simp only[Option.some.injEq]at h
   subst h
   exact h1.2
  ·exact zfS r (e+1) h
def EndOk (p:Pln) (r:Rte) (all:List Int) (k:Nat) (b:Int):Prop :=
 (0<=b/\zl9 p r all k (zdx p (nth all k)) b (nth (zdx p (nth all k)).ends b.toNat)=true)\/(b=-1/\k+1=all.length/\0<r.over.length)
theorem zkH {p:Pln} {r:Rte} {all:List Int}:∀ (l:List Int) (i:Nat) (j:Join) (I O:List Int) (v:List Int×List Int),all.drop i=l->zhj p r all i j I O l=some v ->
  ∃ O':List Int,v.2=O++O'/\O'.length=l.length/\∀ k,k<O'.length->EndOk p r all (i+k) (nth O' k)
 |[],i,j,I,O,v,_,h=>by
  rw[zhj]at h
  simp only[Option.some.injEq]at h
  subst h
  exact ⟨[],by simp,rfl,fun k hk=>by simp at hk⟩
 |n::l,i,j,I,O,v,hd,h=>by
  have hil:i<all.length:=by
   rcases Nat.lt_or_ge i all.length with h1|h1
   ·exact h1
   ·rw[List.drop_eq_nil_of_le h1]at hd;cases hd
  have hn:nth all i=n/\all.drop (i+1)=l:=by
   rw[zaf hil]at hd
   simp only[List.cons.injEq]at hd
   exact hd
  obtain ⟨hn1,hn2⟩:=hn
  rw[zhj]at h
  split at h
  ·split at h
   ·rename_i hst
    simp only[Option.some.injEq]at h
    subst h
    have hl:l=[]:=by rw[<-hn2];exact List.drop_eq_nil_of_le (by omega)
    subst hl
    refine ⟨[-1],rfl,rfl,fun k hk=>.inr ?_⟩
    have:k=0:=by simpa using hk
    subst this
    exact ⟨rfl,hst.1,hst.2⟩
   ·split at h
    ·cases h
    ·rename_i u hu
     obtain ⟨O',h1,h2,h3⟩:=zkH l (i+1) _ _ _ v hn2 h
     refine ⟨(u.1:Int)::O',by rw[h1];simp,by simp[h2],fun k hk=>?_⟩
     match k with
     |0 =>
      have h4:=zfS _ _ hu
      have h5:=zeM _ _ hu
      refine .inl ⟨by show (0:Int)<=(u.1:Int);omega, ?_⟩
      rw[Nat.add_zero,hn1]
      show zl9 p r all i (zdx p n) (u.1:Int) (nth (zdx p n).ends ((u.1:Int)).toNat)=true
      rw[Int.toNat_natCast]
      rw[Nat.sub_zero]at h5
      rw[<-h5.2.2.1]
      exact h4
     |k+1 =>
      have:=h3 k (by simpa using hk)
      rw[show i+(k+1)=i+1+k by omega]
      exact this
  ·cases h
def zjA (p:Pln) (r:Rte):Join:=nth (zdx p (nth p.signals (za3 (fun x=>decide (Sgn.id x=r.entry)) 0 p.signals).toNat).sec).ends (nth p.signals (za3 (fun x=>decide (Sgn.id x=r.entry)) 0 p.signals).toNat).ed.toNat
def zi5 (p:Pln) (r:Rte):Option (List Int×List Int):=zhj p r (r.path++r.over) 0 (zjA p r) [] [] (r.path++r.over)
theorem zlF:∀ (f:List Flk) (l:List AskR),(∀ x∈f,0<x.pnt/\0<x.lie)->zgE l f=l++f.map fun x=>⟨x.pnt,x.lie,-1⟩
 |[],l,_=>by simp[zgE]
 |x::f,l,h=>by
  rw[zgE,zlF f _ fun y hy=>h y (by simp[hy])]
  unfold zi9
  rw[if_pos (h x (by simp))]
  simp
def asksV (p:Pln) (r:Rte) (I O:List Int):List AskR:=zii p 0 (r.path++r.over) I O++r.flanks.map fun x=>⟨x.pnt,x.lie,-1⟩
section
variable {p:Pln} (hs:zcg p.sections=true) (hg:SgsP p) (hp:PtsP p) {r:Rte} (hr:RteP p r)
include hs hg hr
theorem zga:∃ k:Nat,k<p.signals.length/\za3 (fun x=>decide (Sgn.id x=r.entry)) 0 p.signals=(k:Int)/\(nth p.signals k).id=r.entry/\sig p r.entry=nth p.signals k:=by
 rcases zat Sgn.id r.entry p.signals with ⟨_,h4⟩|⟨k,hk,h4,h5⟩
 ·obtain ⟨x,hx,ex⟩:=hr.ent
  exact absurd ex (h4 x hx)
 ·exact ⟨k,hk,h4,h5,by rw[<-h5];exact znn hg (zab hk)⟩
theorem zjy:zjA p r=zjs (sig p r.entry) ⟨0,0⟩ p.sections:=by
 obtain ⟨k,hk,h1,h2,h3⟩:=zga hs hg hr
 obtain ⟨s,hs1,e,_⟩:=hg.sec _ (zab hk)
 have h4:=zfh hs ⟨s,hs1,e⟩
 unfold zjA
 rw[h1,Int.toNat_natCast,h3]
 exact (zqX (nth p.signals k) p.sections ⟨0,0⟩ (zeQ (zk7 hs)) _ h4.1 h4.2.1).symm
include hp
theorem zhw:match zi5 p r with
  |none=>(zah p r).2.2=90
  |some v=>v.1.length=(r.path++r.over).length/\v.2.length=(r.path++r.over).length/\zah p r=(⟨r.path,r.over,asksV p r v.1 v.2,(sig p r.entry).sec⟩,outG (r.path++r.over) v.2,0):=by
 have h1:=zjB hs hg hr (all:=r.path++r.over) rfl (r.path++r.over) 0 (zjA p r) [] [] [] [] rfl (Nat.zero_le _)
 rw[zjy hs hg hr]at h1
 unfold zi5
 rw[zjy hs hg hr]
 cases he:zhj p r (r.path++r.over) 0 (zjs (sig p r.entry) ⟨0,0⟩ p.sections) [] [] (r.path++r.over) with
 |none =>
  rw[he]at h1
  dsimp only
  unfold zah zhy
  rw[if_pos h1]
 |some v =>
  rw[he]at h1
  obtain ⟨h2,I',O',h3,h4,h5,h6,h7⟩:=h1
  simp only[List.nil_append]at h3 h6 h7
  subst h3
  dsimp only
  refine ⟨h4,h5, ?_⟩
  have hfl:∀ x∈r.flanks,0<x.pnt/\0<x.lie:=fun x hx=>by
   obtain ⟨i,hi,rfl⟩:=zbN hx
   obtain ⟨⟨y,hy,ey⟩,_,h8⟩:=hr.flk i hi
   have:=hp.id y hy
   omega
  unfold zah zhy
  rw[if_neg (by rw[h2];simp),h6,h7,zlF _ _ hfl]
  rfl
end
theorem zjD {p:Pln} {r:Rte}:∀ (m:Nat) (l O:List Int) (i:Nat),m<=l.length->l.length=O.length->(∀ k,k<m->0<=nth O k)->(zgc p r (i:Int) ((outG l O).take m)=true↔∀ k,k<m->p.signals.any (zhI r ((i+k:Nat):Int) ⟨nth l k,nth O k⟩)=false)
 |0,l,O,i,_,_,_=>by simp[zgc]
 |m+1,[],O,i,h,_,_=>by simp at h
 |m+1,n::l,[],i,_,h,_=>by simp at h
 |m+1,n::l,b::O,i,h,hl,h0=>by
  have hb:0<=b:=h0 0 (by omega)
  have ih:=zjD (p:=p) (r:=r) m l O (i+1) (by simpa using h) (by simpa using hl) fun k hk=>h0 (k+1) (by omega)
  rw[outG,if_pos hb,List.singleton_append,List.take_succ_cons,zgc,Bool.and_eq_true,Bool.not_eq_true']
  have e:((i:Int)+1)=((i+1:Nat):Int):=by omega
  rw[e,ih]
  constructor
  ·rintro ⟨h1,h2⟩ k hk
   match k with
   |0=>exact h1
   |k+1 =>
    have:=h2 k (by omega)
    rw[show i+(k+1)=i+1+k by omega]
    exact this
  ·intro h1
   refine ⟨h1 0 (by omega),fun k hk=>?_⟩
   have:=h1 (k+1) (by omega)
   rw[show i+(k+1)=i+1+k by omega]at this
   exact this
def sndT (p:Pln) (r:Rte) (O:List Int) (i:Nat):Bool:=!decide (zor p (nth r.path i) (nth O i)=0)&&decide ((i:Int)<(r.path.length:Int)-1)||decide ((i:Int)=(r.path.length:Int)-1)&&!decide (zor p (nth r.path i) (nth O i)=r.exit)
def sndF (p:Pln) (r:Rte) (asks:List AskR) (O:List Int):Bool :=
 zaL (fun i _ za5=>zaL (fun k _ next2=>cond (decide ((nth asks k).pnt=(nth asks i).pnt)) false (next2 ())) (fun _=>za5 ()) i 0 ())
  (fun _=>zaL (fun i _ za5=>cond (sndT p r O i) false (za5 ())) (fun _=>true) r.path.length 0 ()) asks.length 0 ()
theorem zls {l m:List Int} {k:Nat} (h:k<l.length):nth (l++m) k=nth l k:=by
 rw[zaK (by rw[List.length_append];omega),zaK h,List.getElem_append_left h]
section
variable {p:Pln} (h:OkP p) (hs:zcg p.sections=true) (hg:SgsP p) (hp:PtsP p) {r:Rte} (hrr:r∈p.routes) (hr:RteP p r)
include h hs hg hp hrr hr
theorem sndT_iff {v:List Int×List Int} (hv:zi5 p r=some v) {k:Nat} (hk:k<r.path.length):sndT p r v.2 k=false↔p.signals.any (zhI r (k:Int) ⟨nth (r.path++r.over) k,nth v.2 k⟩)=false:=by
 obtain ⟨O',h1,h2,h3⟩:=zkH (r.path++r.over) 0 _ [] [] v rfl hv
 rw[List.nil_append]at h1
 subst h1
 have hk2:k<v.2.length:=by rw[h2,List.length_append];omega
 have h4:=h3 k hk2
 rw[Nat.zero_add]at h4
 rw[zls hk]
 have hsec:=(hr.secs (nth r.path k) (List.mem_append.2 (.inl (zab hk)))).1
 obtain ⟨hm,hid,_⟩:=zfh hs hsec
 have hany:p.signals.any (zhI r (k:Int) ⟨nth r.path k,nth v.2 k⟩)=false↔∀ x∈p.signals,x.sec=nth r.path k->x.ed=nth v.2 k->¬((k:Int)<(r.path.length:Int)-1\/¬x.id=r.exit):=by
  rw[List.any_eq_false]
  refine forall_congr' fun x=>forall_congr' fun _=>?_
  unfold zhI
  simp only[Bool.and_eq_true,Bool.or_eq_true,decide_eq_true_eq,Bool.not_eq_true',decide_eq_false_iff_not]
  constructor
  ·intro h5 h6 h7 h8;exact h5 ⟨h6,h7,h8⟩
  ·rintro h5 ⟨h6,h7,h8⟩;exact h5 h6 h7 h8
 rw[hany]
 unfold sndT
 simp only[Bool.or_eq_false_iff,Bool.and_eq_false_imp,Bool.not_eq_true',decide_eq_false_iff_not,decide_eq_true_eq,Bool.not_eq_false']
 by_cases hl:(k:Int)=(r.path.length:Int)-1
 ·have hrg:0<=nth v.2 k/\zl9 p r (r.path++r.over) k (zdx p (nth r.path k)) (nth v.2 k) (nth (zdx p (nth r.path k)).ends (nth v.2 k).toNat)=true:=by
   rcases h4 with h4|h4
   ·rw[zls hk]at h4;exact h4
   ·have:=h4.2.1
    rw[List.length_append]at this
    omega
  have hrg:=hrg.2
  unfold zl9 at hrg
  rw[if_pos hl,hid]at hrg
  simp only[Bool.or_eq_true,Bool.and_eq_true,decide_eq_true_eq,Bool.not_eq_true',decide_eq_false_iff_not]at hrg
  constructor
  ·rintro ⟨_,h6⟩ x hx e1 e2 e3
   have h7:=h6 hl
   have h8:=hg.id x hx
   have h9:=(znr hg (n:=x.id) (a:=nth r.path k) (b:=nth v.2 k) (by omega)).2 ⟨x,hx,rfl,e1,e2⟩
   rw[h9]at h7
   omega
  ·intro h5
   refine ⟨fun _=>by omega,fun _=>?_⟩
   rcases hrg with ⟨e0,_⟩|⟨_,e1⟩
   ·rw[e0,zpK hg]
    rintro x hx ⟨e1,e2⟩
    refine h5 x hx e1 e2 (.inr ?_)
    have:=hg.id x hx
    omega
   ·exact e1
 ·constructor
  ·rintro ⟨h6,_⟩ x hx e1 e2 _
   by_cases h0:zor p (nth r.path k) (nth v.2 k)=0
   ·exact (zpK hg).1 h0 x hx ⟨e1,e2⟩
   ·have:=h6 h0
    omega
  ·intro h5
   refine ⟨fun h0=>?_,fun e=>absurd e hl⟩
   exact absurd ((zpK hg).2 fun x hx e=>h5 x hx e.1 e.2 (.inl (by omega))) h0
theorem snd_eq {v:List Int×List Int} (hv:zi5 p r=some v):sndF p r (zah p r).1.asks v.2=zbF p r:=by
 have hw:=zhw hs hg hp hr
 rw[hv]at hw
 obtain ⟨h1,h2,h3⟩:=hw
 have hout:(zah p r).2.1=outG (r.path++r.over) v.2:=by rw[h3]
 obtain ⟨O',h4,h5,h6⟩:=zkH (r.path++r.over) 0 _ [] [] v rfl hv
 rw[List.nil_append]at h4
 subst h4
 have hpos:∀ k,k<r.path.length->0<=nth v.2 k:=fun k hk=>by
  rcases h6 k (by rw[h5,List.length_append];omega) with h7|h7
  ·exact h7.1
  ·have h8:=h7.2.1
   rw[List.length_append]at h8
   omega
 have hcl:zgI p r (zah p r).2.1=true↔∀ k,k<r.path.length->sndT p r v.2 k=false:=by
  unfold zgI
  rw[hout]
  have:=zjD (p:=p) (r:=r) r.path.length (r.path++r.over) v.2 0 (by rw[List.length_append];omega) h2.symm hpos
  simp only[Nat.zero_add]at this
  rw[show ((0:Nat):Int)=0 from rfl]at this
  rw[this]
  exact forall_congr' fun k=>forall_congr' fun hk=>(sndT_iff h hs hg hp hrr hr hv hk).symm
 have honce:once (zah p r).1.asks=true↔((zah p r).1.asks.map AskR.pnt).Nodup:=znJ fun a ha=>by have:=zbC h hrr ha;omega
 generalize hX:zbF p r=X
 have hiff:X=true↔((zah p r).1.asks.map AskR.pnt).Nodup/\∀ k,k<r.path.length->sndT p r v.2 k=false:=by
  rw[<-hX]
  unfold zbF
  rw[Bool.and_eq_true,hcl,honce]
 have bad:¬(((zah p r).1.asks.map AskR.pnt).Nodup/\∀ k,k<r.path.length->sndT p r v.2 k=false)->false=X:=fun h=>by
  cases X with
  |false=>rfl
  |true=>exact absurd (hiff.1 rfl) h
 have hnd:((zah p r).1.asks.map AskR.pnt).Nodup↔∀ i,i<(zah p r).1.asks.length->∀ m,m<i->¬(nth (zah p r).1.asks m).pnt=(nth (zah p r).1.asks i).pnt:=by
  rw[List.nodup_iff_pairwise_ne,List.pairwise_map,zfU]
 unfold sndF
 generalize (zah p r).1.asks=asks at *
 refine zaN (·=X) (fun i _=>∀ j,j<i->∀ m,m<j->¬(nth asks m).pnt=(nth asks j).pnt) (fun j hj=>by omega) ?_ ?_
 ·intro i _ za5 hi hI hn
  refine zaN (·=X) (fun m _=>∀ j,j<m->¬(nth asks j).pnt=(nth asks i).pnt) (fun j hj=>by omega) ?_ ?_
  ·intro m _ next2 hm hM hn2
   by_cases e:(nth asks m).pnt=(nth asks i).pnt
   ·rw[decide_eq_true e,cond_true]
    exact bad fun h=>hnd.1 h.1 i hi m hm e
   ·rw[decide_eq_false e,cond_false]
    refine hn2 () fun j hj=>?_
    rcases Nat.lt_or_ge j m with h1|h1
    ·exact hM j h1
    ·obtain rfl:j=m:=by omega
     exact e
  ·intro _ hM
   refine hn () fun j hj=>?_
   rcases Nat.lt_or_ge j i with h1|h1
   ·exact hI j h1
   ·obtain rfl:j=i:=by omega
    exact hM
 ·intro _ hI
  refine zaN (·=X) (fun i _=>∀ j,j<i->sndT p r v.2 j=false) (fun j hj=>by omega) ?_ ?_
  ·intro i _ za5 hi hJ hn
   cases h7:sndT p r v.2 i with
   |true =>
    rw[cond_true]
    exact bad fun h=>by have:=h.2 i hi;rw[h7]at this;cases this
   |false =>
    rw[cond_false]
    refine hn () fun j hj=>?_
    rcases Nat.lt_or_ge j i with h1|h1
    ·exact hJ j h1
    ·obtain rfl:j=i:=by omega
     exact h7
  ·intro _ hJ
   exact (hiff.2 ⟨hnd.2 hI,hJ⟩).symm
end
theorem zoH (hH:HasAll P inv) (p:Pln) (hp:Sm p) (h:zcg p.sections=true):PC P inv 305 [.agg p.c] (·=.b (points p)):=by
 have hl1:=hp.sec
 have hl2:=hp.pts
 obtain ⟨X,hF⟩:∃ X,rpF p=X:=⟨_,rfl⟩
 rw[<-rpF_eq h,hF]
 have cA:=fun i=>zl2 hH p.sections (nth p.points i).sec (by omega)
 have hb:=fun i=>zkP (nth p.points i).sec p.sections 0
 clear h
 unfold rpF at hF
 refine PC.fn hH cd305 fun w0 M Q hM hE hQ hR=>?_;dsimp only[cd305,qm,ql,qf,qi,qb,qc,qp,qv,qN,qT,qF,qt]at hQ |-
 skip
 (repeat' first|refine zaa [0,1,2,3,4,5,6,7,12,21,28,79] fun K hK=>?_|(refine hK.go ?_;clear hK K)|with_reducible exact wT|refine wA ?_|(refine wE (fun h0 h=>?_) (fun h0 h=>?_)<;>first|exact wN h|((try replace hF:=wX hF);clear h0;first|exact hF.elim|((try subst (h:(_:Bool)=_));try replace hF:=wX hF)))|(refine wQ ?_;clear hQ hR hE hM)|fail)
 refine zaR hF fun Bd Ed hBd hEd hF=>?_
 refine zam (ι:=Nat×Int) [1,2,3,4] (fun z=>[(3,.n z.2),(4,.n z.1)]) (fun _=>[]) (fun z=>z.1) (p.sections.length) (fun z=>(zaL Bd Ed (p.sections.length-z.1) z.1 z.2=X)/\(0<=z.2/\z.2<=z.1)) (0,0) ?_;rintro ⟨i,m⟩ ⟨hk,hF,hm⟩;(try dsimp only at hk hF hm |-);rcases Nat.lt_or_ge i p.sections.length with hlt|hge
 ·rw[zav hBd hlt]at hF;(try dsimp only at hF)
  (repeat' first|refine zaa [0,1,2,3,4,5,6,7,12,21,28,79] fun K hK=>?_|(refine hK.go ?_;clear hK K)|with_reducible exact wT|refine wA ?_|(refine wE (fun h0 h=>?_) (fun h0 h=>?_)<;>first|exact wN h|((try replace hF:=wX hF);clear h0;first|exact hF.elim|((try subst (h:(_:Bool)=_));try replace hF:=wX hF)))|(refine wQ ?_;clear hQ hR hE hM)|fail)
  all_goals first|(exact nY (i+1,m+1) ⟨by (try dsimp only);omega,hF,by (try dsimp only);omega⟩;done)|(exact nY (i+1,m) ⟨by (try dsimp only);omega,hF,by (try dsimp only);omega⟩;done)
 ·rw[zaQ hge,hEd]at hF;(try dsimp only at hF)
  (repeat' first|refine zaa [0,1,2,3,4,5,6,7,12,21,28,79] fun K hK=>?_|(refine hK.go ?_;clear hK K)|with_reducible exact wT|refine wA ?_|(refine wE (fun h0 h=>?_) (fun h0 h=>?_)<;>first|exact wN h|((try replace hF:=wX hF);clear h0;first|exact hF.elim|((try subst (h:(_:Bool)=_));try replace hF:=wX hF)))|(refine wQ ?_;clear hQ hR hE hM)|fail)
  refine zaR hF fun Bd Ed hBd hEd hF=>?_;refine zam (ι:=Nat) [1,2,3,5] (fun z=>[(5,.n z)]) (fun _=>[]) (fun z=>z) (p.points.length) (fun z=>(zaL Bd Ed (p.points.length-z) z ()=X)) (0) ?_;rintro k ⟨hk,hF⟩;(try dsimp only at hk hF |-);rcases Nat.lt_or_ge k p.points.length with hlt|hge
  ·rw[zav hBd hlt]at hF;(try dsimp only at hF)
   have c1:=cA k
   have hb1:=hb k
   generalize zdR (nth p.points k).sec 0 p.sections=a at *
   have hk1:((k:Int)-1).toNat=k-1:=by omega
   (have hX:=@hk1;(repeat' first|refine zaa [0,1,2,3,4,5,6,7,12,21,28,79] fun K hK=>?_|(refine hK.go ?_;clear hK K)|with_reducible exact wT|refine wA ?_|(refine wE (fun h0 h=>?_) (fun h0 h=>?_)<;>first|exact wN h|((try replace hF:=wX hF);clear h0;first|exact hF.elim|((try subst (h:(_:Bool)=_));try replace hF:=wX hF)))|(refine wQ ?_;clear hQ hR hE hM)|refine wC c1 ?_|fail);all_goals clear hX)
   all_goals first|exact hF|(exfalso;contradiction)|exact nX (k+1)
  ·rw[zaQ hge,hEd]at hF;(try dsimp only at hF)
   (repeat' first|refine zaa [0,1,2,3,4,5,6,7,12,21,28,79] fun K hK=>?_|(refine hK.go ?_;clear hK K)|with_reducible exact wT|refine wA ?_|(refine wE (fun h0 h=>?_) (fun h0 h=>?_)<;>first|exact wN h|((try replace hF:=wX hF);clear h0;first|exact hF.elim|((try subst (h:(_:Bool)=_));try replace hF:=wX hF)))|(refine wQ ?_;clear hQ hR hE hM)|fail)
   all_goals first|exact hF|(exact congrArg AV.b hF)|(rw[<-hF];done)
theorem zmk (hH:HasAll P inv) (p:Pln) (hp:Sm p) (h:zcg p.sections=true):PC P inv 306 [.agg p.c] (·=.b (signals p (ends p.sections))):=by
 have hl1:=hp.sec
 have hl2:=hp.sgn
 have hE3:∀ a:Nat,(nth p.sections a).ends.length<=1000000:=fun a=>by
  rcases Nat.lt_or_ge a p.sections.length with h1|h1
  ·have:=(zbh h _ (zab h1)).2.2.2.2
   omega
  ·have:nth p.sections a=default:=by unfold nth;first|rw[getElem!_neg _ _ (by omega)]|simp[h1]|simp[List.getElem?_eq_none h1]
   rw[this]
   decide
 obtain ⟨X,hF⟩:∃ X,rsF p=X:=⟨_,rfl⟩
 rw[<-rsF_eq h,hF]
 have cA:=fun i=>zl2 hH p.sections (nth p.signals i).sec (by omega)
 have hb:=fun i=>zkP (nth p.signals i).sec p.sections 0
 clear h
 unfold rsF zoz at hF
 refine PC.fn hH cd306 fun w0 M Q hM hE hQ hR=>?_;dsimp only[cd306,qm,ql,qf,qi,qb,qc,qp,qv,qN,qT,qF,qt]at hQ |-
 skip
 (repeat' first|refine zaa [0,1,2,3,4,5,6,7,12,53,56,82] fun K hK=>?_|(refine hK.go ?_;clear hK K)|with_reducible exact wT|refine wA ?_|(refine wE (fun h0 h=>?_) (fun h0 h=>?_)<;>first|exact wN h|((try replace hF:=wX hF);clear h0;first|exact hF.elim|((try subst (h:(_:Bool)=_));try replace hF:=wX hF)))|(refine wQ ?_;clear hQ hR hE hM)|fail)
 refine zaR hF fun Bd Ed hBd hEd hF=>?_;refine zam (ι:=Nat) [1,2,3] (fun z=>[(3,.n z)]) (fun _=>[]) (fun z=>z) (p.signals.length) (fun z=>(zaL Bd Ed (p.signals.length-z) z ()=X)) (0) ?_;rintro i ⟨hk,hF⟩;(try dsimp only at hk hF |-);rcases Nat.lt_or_ge i p.signals.length with hlt|hge
 ·rw[zav hBd hlt]at hF;(try dsimp only at hF)
  have c1:=cA i
  have hb1:=hb i
  generalize zdR (nth p.signals i).sec 0 p.sections=a at *
  have h3:=hE3 a.toNat
  (repeat' first|refine zaa [0,1,2,3,4,5,6,7,12,53,56,82] fun K hK=>?_|(refine hK.go ?_;clear hK K)|with_reducible exact wT|refine wA ?_|(refine wE (fun h0 h=>?_) (fun h0 h=>?_)<;>first|exact wN h|((try replace hF:=wX hF);clear h0;first|exact hF.elim|((try subst (h:(_:Bool)=_));try replace hF:=wX hF)))|(refine wQ ?_;clear hQ hR hE hM)|refine wC c1 ?_|fail)
  all_goals first|exact hF|(exfalso;contradiction)|skip
  refine zaR hF fun Bd Ed hBd hEd hF=>?_;refine zam (ι:=Nat) [1,2,3,4,6] (fun z=>[(6,.n z)]) (fun _=>[]) (fun z=>z) (i) (fun z=>(zaL Bd Ed (i-z) z ()=X)) (0) ?_;rintro m ⟨hk,hF⟩;(try dsimp only at hk hF |-);rcases Nat.lt_or_ge m i with hlt|hge
  ·rw[zav hBd hlt]at hF;(try dsimp only at hF)
   (repeat' first|refine zaa [0,1,2,3,4,5,6,7,12,53,56,82] fun K hK=>?_|(refine hK.go ?_;clear hK K)|with_reducible exact wT|refine wA ?_|(refine wE (fun h0 h=>?_) (fun h0 h=>?_)<;>first|exact wN h|((try replace hF:=wX hF);clear h0;first|exact hF.elim|((try subst (h:(_:Bool)=_));try replace hF:=wX hF)))|(refine wQ ?_;clear hQ hR hE hM)|fail)
   all_goals first|exact hF|(exfalso;contradiction)|exact nX (m+1)
  ·rw[zaQ hge,hEd]at hF;(try dsimp only at hF)
   (repeat' first|refine zaa [0,1,2,3,4,5,6,7,12,53,56,82] fun K hK=>?_|(refine hK.go ?_;clear hK K)|with_reducible exact wT|refine wA ?_|(refine wE (fun h0 h=>?_) (fun h0 h=>?_)<;>first|exact wN h|((try replace hF:=wX hF);clear h0;first|exact hF.elim|((try subst (h:(_:Bool)=_));try replace hF:=wX hF)))|(refine wQ ?_;clear hQ hR hE hM)|fail)
   all_goals exact nX (i+1)
 ·rw[zaQ hge,hEd]at hF;(try dsimp only at hF)
  (repeat' first|refine zaa [0,1,2,3,4,5,6,7,12,53,56,82] fun K hK=>?_|(refine hK.go ?_;clear hK K)|with_reducible exact wT|refine wA ?_|(refine wE (fun h0 h=>?_) (fun h0 h=>?_)<;>first|exact wN h|((try replace hF:=wX hF);clear h0;first|exact hF.elim|((try subst (h:(_:Bool)=_));try replace hF:=wX hF)))|(refine wQ ?_;clear hQ hR hE hM)|fail)
  all_goals first|exact hF|(exact congrArg AV.b hF)|(rw[<-hF];done)
end Go.Lev
