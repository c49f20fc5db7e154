/-
  A part of the engine that walks the functions' codes, and of the functions' contracts. Conditions: those that each theorem names.
-/
import Derived.Test.YtcpgcgandpofiaaGreatL2
import Derived.IntWalk
set_option linter.unusedSimpArgs false
set_option linter.unusedVariables false
set_option linter.unusedSectionVars false
namespace Go.Lev
open Go.Eng
set_option maxRecDepth 10000
set_option maxHeartbeats 4000000
variable {P:Program} {inv:Nat→Option Nat}
def rClash (s x:Section):Bool:=decide (s.id≤x.id)||(!decide (s.pt=0)&&decide (x.pt=s.pt))
def rOk (pre:List Section) (s:Section):Bool:=!(decide (s.id<1)||decide (99<s.id)||!zb9 s)&&pre.all fun x=>!rClash s x
def zjB (pre:List Section):List Section→Bool
 |[]=>true
 |s::r=>rOk pre s&&zjB (pre++[s]) r
def znH (l:List Section):Bool:=l.all fun s=>zb1 (zgP l s) 0 s.ends.length
def zja (l:List Section):Bool:=!decide (16<(l.length:Int))&&zjB [] l&&znH l
end Go.Lev
namespace Go.Lev
open Go.Eng
set_option maxRecDepth 10000
set_option maxHeartbeats 4000000
variable {P:Program} {inv:Nat→Option Nat}
theorem zeL {s:Section} (h:zcn s=true):0≤s.pt∧s.pt≤99∧s.ends.length≤3:=by
 unfold zcn zbW at h
 simp at h
 omega
theorem zlH {l:List Section} {id:Int} (h:(zao l id).2=true):(zao l id).1<l.length:=by
 unfold zao at h ⊢
 simp at h
 exact h.1
def zh8 (l:List Section) (k:Nat) (pts:List Bool) (s:Section):Bool:=!zbW s.id||!zcn s||(decide (0<(k:Int))&&decide (s.id≤(nth l ((k:Int)-1).toNat).id))||nth pts s.pt.toNat
def ck1 (l:List Section) (k:Nat) (pts:List Bool):List Section→Bool
 |[]=>true
 |s::r=>!zh8 l k pts s&&ck1 l (k+1) (pts.set s.pt.toNat (decide (0<s.pt))) r
def zhP (l:List Section) (s:Section) (e:Nat):Bool :=
 if (nth s.ends e).to=0∧(nth s.ends e).ed=0 then true
 else !(!(zao l (nth s.ends e).to).2||(decide ((nth s.ends e).to=s.id)&&decide ((nth s.ends e).ed=(e:Int)))||decide ((nth s.ends e).ed<0)||decide (((nth l (zao l (nth s.ends e).to).1).ends.length:Int)≤(nth s.ends e).ed)
  || !(decide ((nth (nth l (zao l (nth s.ends e).to).1).ends (nth s.ends e).ed.toNat).to=s.id)&&decide ((nth (nth l (zao l (nth s.ends e).to).1).ends (nth s.ends e).ed.toNat).ed=(e:Int))))
def ck2 (l:List Section):Bool:=l.all fun s=>zb1 (zhP l s) 0 s.ends.length
def zdy (l:List Section):Int:=if 16<(l.length:Int) then 8 else if ck1 l 0 (List.replicate 100 false) l&&ck2 l then 0 else 8
theorem check_pc (hH:HasAll P inv) (l:List Section) (hl:l.length≤1000000000) (he:∀ s∈l,s.ends.length≤9223372036854775807):PC P inv 26 [.sl 3 (l.map Section.c)] (·=.n (zdy l)):=by
 refine zae (F:=cd26) (hH.has _ _ rfl) (Nat.le_of_ble_eq_true rfl) fun w0 M Q hM hQ hR=>?_;have hE:=hH.callable;dsimp only[cd26,qm,ql,qf,qi,qb,qc,qp,qv,qN,qT,qF,qt]at hQ ⊢
 repeat' (first|refine zaa [0,2,3,4,5,7,8,9,10,11,12,15,16,17,18,19,25,29,52,60,61,62,63,67,68,69,70,76,123] fun K hK=>?_|refine AWp.block ?_|(refine hK.go ?_;clear hK K)|refine Cont.go (by assumption) ?_|(refine cnd2 rfl (fun h=>?_) (fun h=>?_)<;>(try first|exact h.elim|obtain rfl:(_:Bool)=true:=h|obtain rfl:(_:Bool)=false:=h)<;>first|(exfalso;omega)|skip)|((first|refine AWp.reg hE hM ?_|refine AWp.regd hE hM ?_|refine AWp.ret ?_|refine AWp.skip ?_|refine AWp.exit ?_|(refine pk2 (fun h=>?_) (fun h=>?_)<;>(try first|exact h.elim|obtain rfl:(_:Bool)=true:=h|obtain rfl:(_:Bool)=false:=h))|refine zab (fun h=>?_) ?_|(refine hQ _ _ _ rfl ?_;clear hQ hR hE hM)|(refine hR _ _ (hQ _ _ _ rfl ?_);clear hQ hR hE hM)|(refine zaf ?_ ?_;focus first|omega|(refine zad ?_;(refine no_implicit_lambda% (st ?_);try with_reducible exact True.intro);done)))<;>try (refine no_implicit_lambda% (st ?_);try with_reducible exact True.intro)))
 ·simp[zdy,h]
 refine zaW (ι:=Nat×List Bool) (fun k=>[(0,.sl 3 (l.map Section.c)),(3,.ptr 0 100 0),(16,.sl 3 (l.map Section.c)),(17,.n l.length),(18,.n k.1)]) (fun k=>[(0,.cells (k.2.map .b) true)]) (fun k=>k.1≤l.length∧k.2.length=100∧ck1 l k.1 k.2 (l.drop k.1)=ck1 l 0 (List.replicate 100 false) l) (fun k=>l.length-k.1) (0,List.replicate 100 false) ⟨Nat.zero_le _,by simp,rfl⟩ (by (try dsimp only);(refine no_implicit_lambda% (st ?_);try with_reducible exact True.intro)<;>omega) ?_ ?_
 ·(refine no_implicit_lambda% (st ?_);try with_reducible exact True.intro)
  simp
 ·rintro ⟨k,pts⟩ ⟨hk,hp,hg⟩
  dsimp only at hk hp hg ⊢
  rcases Nat.lt_or_ge k l.length with hlt|hge
  ·rw[zap hlt]at hg
   rw[ck1]at hg
   have hs:=he _ (zal hlt)
   have c:=zjn hH (nth l k)
   cases hsh:zcn (nth l k)<;>rw[hsh]at c
   ·repeat' (first|refine zaa [0,2,3,4,5,7,8,9,10,11,12,15,16,17,18,19,25,29,52,60,61,62,63,67,68,69,70,76,123] fun K hK=>?_|refine AWp.block ?_|(refine hK.go ?_;clear hK K)|refine Cont.go (by assumption) ?_|(refine cnd2 rfl (fun h=>?_) (fun h=>?_)<;>(try first|exact h.elim|obtain rfl:(_:Bool)=true:=h|obtain rfl:(_:Bool)=false:=h)<;>first|(exfalso;omega)|skip)|((first|refine AWp.reg hE hM ?_|refine AWp.regd hE hM ?_|refine AWp.ret ?_|refine AWp.skip ?_|refine AWp.exit ?_|(refine pk2 (fun h=>?_) (fun h=>?_)<;>(try first|exact h.elim|obtain rfl:(_:Bool)=true:=h|obtain rfl:(_:Bool)=false:=h))|refine zab (fun h=>?_) ?_|refine zac hM (zey hH _) ?_|refine zac hM (c) ?_|(refine hQ _ _ _ rfl ?_;clear hQ hR hE hM)|(refine hR _ _ (hQ _ _ _ rfl ?_);clear hQ hR hE hM)|(refine zaf ?_ ?_;focus first|omega|(refine zad ?_;(refine no_implicit_lambda% (st ?_);try with_reducible exact True.intro);done)))<;>try (refine no_implicit_lambda% (st ?_);try with_reducible exact True.intro)))
    all_goals (grind[zdy,zh8])
   ·have hbd:=zeL hsh
    repeat' (first|refine zaa [0,2,3,4,5,7,8,9,10,11,12,15,16,17,18,19,25,29,52,60,61,62,63,67,68,69,70,76,123] fun K hK=>?_|refine AWp.block ?_|(refine hK.go ?_;clear hK K)|refine Cont.go (by assumption) ?_|(refine cnd2 rfl (fun h=>?_) (fun h=>?_)<;>(try first|exact h.elim|obtain rfl:(_:Bool)=true:=h|obtain rfl:(_:Bool)=false:=h)<;>first|(exfalso;omega)|skip)|((first|refine AWp.reg hE hM ?_|refine AWp.regd hE hM ?_|refine AWp.ret ?_|refine AWp.skip ?_|refine AWp.exit ?_|(refine pk2 (fun h=>?_) (fun h=>?_)<;>(try first|exact h.elim|obtain rfl:(_:Bool)=true:=h|obtain rfl:(_:Bool)=false:=h))|refine zab (fun h=>?_) ?_|refine zac hM (zey hH _) ?_|refine zac hM (c) ?_|(refine hQ _ _ _ rfl ?_;clear hQ hR hE hM)|(refine hR _ _ (hQ _ _ _ rfl ?_);clear hQ hR hE hM)|(refine zaf ?_ ?_;focus first|omega|(refine zad ?_;(refine no_implicit_lambda% (st ?_);try with_reducible exact True.intro);done)))<;>try simp -dsimp -implicitDefEqProofs (disch:=omega) only[go_sem,reduceIte,↓reduceIte,Nat.reduceEqDiff,Nat.reduceLT,Nat.reduceLeDiff,Nat.reduceAdd,Nat.reduceSub,Nat.reduceMul,Int.reduceToNat,Int.reduceLT,Int.reduceLE,Int.reduceEq,Int.reduceNeg,Int.reduceNe,reduceCtorEq,hp]))
    all_goals (first
     |(refine ⟨(k+1,pts.set (nth l k).pt.toNat (decide (0<(nth l k).pt))),by dsimp only;omega,⟨by dsimp only;omega,by simp[hp],by grind[zh8]⟩,by simp,by simp[List.map_set]⟩)
     |(grind[zdy,zh8]))
  ·rw[List.drop_eq_nil_of_le hge,ck1]at hg
   repeat' (first|refine zaa [0,2,3,4,5,7,8,9,10,11,12,15,16,17,18,19,25,29,52,60,61,62,63,67,68,69,70,76,123] fun K hK=>?_|refine AWp.block ?_|(refine hK.go ?_;clear hK K)|refine Cont.go (by assumption) ?_|(refine cnd2 rfl (fun h=>?_) (fun h=>?_)<;>(try first|exact h.elim|obtain rfl:(_:Bool)=true:=h|obtain rfl:(_:Bool)=false:=h)<;>first|(exfalso;omega)|skip)|((first|refine AWp.reg hE hM ?_|refine AWp.regd hE hM ?_|refine AWp.ret ?_|refine AWp.skip ?_|refine AWp.exit ?_|(refine pk2 (fun h=>?_) (fun h=>?_)<;>(try first|exact h.elim|obtain rfl:(_:Bool)=true:=h|obtain rfl:(_:Bool)=false:=h))|refine zab (fun h=>?_) ?_|(refine hQ _ _ _ rfl ?_;clear hQ hR hE hM)|(refine hR _ _ (hQ _ _ _ rfl ?_);clear hQ hR hE hM)|(refine zaf ?_ ?_;focus first|omega|(refine zad ?_;(refine no_implicit_lambda% (st ?_);try with_reducible exact True.intro);done)))<;>try (refine no_implicit_lambda% (st ?_);try with_reducible exact True.intro)))
   refine zaW (fun k:Nat=>[(0,.sl 3 (l.map Section.c)),(60,.sl 3 (l.map Section.c)),(61,.n l.length),(62,.n k)]) (fun k:Nat=>[]) (fun k:Nat=>k≤l.length∧(l.drop k).all (fun s=>zb1 (zhP l s) 0 s.ends.length)=ck2 l) (fun k=>l.length-k) 0 ⟨Nat.zero_le _,by first|rfl|simp⟩ (by (try dsimp only);(refine no_implicit_lambda% (st ?_);try with_reducible exact True.intro)<;>omega) (by (try dsimp only);(refine no_implicit_lambda% (st ?_);try with_reducible exact True.intro)<;>omega) ?_;rintro k ⟨hk,hg⟩;rcases Nat.lt_or_ge k l.length with hlt|hge
   ·rw[zap hlt]at hg
    rw[List.all_cons]at hg
    have hs:=he _ (zal hlt)
    repeat' (first|refine zaa [0,2,3,4,5,7,8,9,10,11,12,15,16,17,18,19,25,29,52,60,61,62,63,67,68,69,70,76,123] fun K hK=>?_|refine AWp.block ?_|(refine hK.go ?_;clear hK K)|refine Cont.go (by assumption) ?_|(refine cnd2 rfl (fun h=>?_) (fun h=>?_)<;>(try first|exact h.elim|obtain rfl:(_:Bool)=true:=h|obtain rfl:(_:Bool)=false:=h)<;>first|(exfalso;omega)|skip)|((first|refine AWp.reg hE hM ?_|refine AWp.regd hE hM ?_|refine AWp.ret ?_|refine AWp.skip ?_|refine AWp.exit ?_|(refine pk2 (fun h=>?_) (fun h=>?_)<;>(try first|exact h.elim|obtain rfl:(_:Bool)=true:=h|obtain rfl:(_:Bool)=false:=h))|refine zab (fun h=>?_) ?_|(refine hQ _ _ _ rfl ?_;clear hQ hR hE hM)|(refine hR _ _ (hQ _ _ _ rfl ?_);clear hQ hR hE hM)|(refine zaf ?_ ?_;focus first|omega|(refine zad ?_;(refine no_implicit_lambda% (st ?_);try with_reducible exact True.intro);done)))<;>try (refine no_implicit_lambda% (st ?_);try with_reducible exact True.intro)))
    refine zaW (fun j:Nat=>[(0,.sl 3 (l.map Section.c)),(60,.sl 3 (l.map Section.c)),(61,.n l.length),(62,.n k),(7,.ptr 0 3 0),(67,.sl 2 ((nth l k).ends.map Join.c)),(68,.n (nth l k).ends.length),(69,.n j)]) (fun _=>[(0,.cells (nth l k).c true)]) (fun j=>j≤(nth l k).ends.length∧zb1 (zhP l (nth l k)) j ((nth l k).ends.length-j)=zb1 (zhP l (nth l k)) 0 (nth l k).ends.length) (fun j=>(nth l k).ends.length-j) 0 ⟨Nat.zero_le _,rfl⟩ (by (try dsimp only);(refine no_implicit_lambda% (st ?_);try with_reducible exact True.intro)<;>omega) (by (try dsimp only);(refine no_implicit_lambda% (st ?_);try with_reducible exact True.intro)<;>omega) ?_
    rintro j ⟨hj,hi⟩
    rcases Nat.lt_or_ge j (nth l k).ends.length with hjk|hjk
    ·rw[zkl hjk]at hi
     have c:=place_pc hH l (nth (nth l k).ends j).to hl
     cases hpl:(zao l (nth (nth l k).ends j).to).2<;>rw[hpl]at c
     ·repeat' (first|refine zaa [0,2,3,4,5,7,8,9,10,11,12,15,16,17,18,19,25,29,52,60,61,62,63,67,68,69,70,76,123] fun K hK=>?_|refine AWp.block ?_|(refine hK.go ?_;clear hK K)|refine Cont.go (by assumption) ?_|(refine cnd2 rfl (fun h=>?_) (fun h=>?_)<;>(try first|exact h.elim|obtain rfl:(_:Bool)=true:=h|obtain rfl:(_:Bool)=false:=h)<;>first|(exfalso;omega)|skip)|((first|refine AWp.reg hE hM ?_|refine AWp.regd hE hM ?_|refine AWp.ret ?_|refine AWp.skip ?_|refine AWp.exit ?_|(refine pk2 (fun h=>?_) (fun h=>?_)<;>(try first|exact h.elim|obtain rfl:(_:Bool)=true:=h|obtain rfl:(_:Bool)=false:=h))|refine zab (fun h=>?_) ?_|refine zac hM (c) ?_|(refine hQ _ _ _ rfl ?_;clear hQ hR hE hM)|(refine hR _ _ (hQ _ _ _ rfl ?_);clear hQ hR hE hM)|(refine zaf ?_ ?_;focus first|omega|(refine zad ?_;(refine no_implicit_lambda% (st ?_);try with_reducible exact True.intro);done)))<;>try (refine no_implicit_lambda% (st ?_);try with_reducible exact True.intro)))
      all_goals (first|(refine ⟨j+1,by omega,⟨by omega,by grind[zdy,zhP]⟩,(by (try dsimp only);(first|omega|(simp;done)|(simp;omega)))⟩)|(grind[zdy,zhP]))
     ·have hpt:=zlH hpl
      have hs2:=he _ (zal hpt)
      repeat' (first|refine zaa [0,2,3,4,5,7,8,9,10,11,12,15,16,17,18,19,25,29,52,60,61,62,63,67,68,69,70,76,123] fun K hK=>?_|refine AWp.block ?_|(refine hK.go ?_;clear hK K)|refine Cont.go (by assumption) ?_|(refine cnd2 rfl (fun h=>?_) (fun h=>?_)<;>(try first|exact h.elim|obtain rfl:(_:Bool)=true:=h|obtain rfl:(_:Bool)=false:=h)<;>first|(exfalso;omega)|skip)|((first|refine AWp.reg hE hM ?_|refine AWp.regd hE hM ?_|refine AWp.ret ?_|refine AWp.skip ?_|refine AWp.exit ?_|(refine pk2 (fun h=>?_) (fun h=>?_)<;>(try first|exact h.elim|obtain rfl:(_:Bool)=true:=h|obtain rfl:(_:Bool)=false:=h))|refine zab (fun h=>?_) ?_|refine zac hM (c) ?_|(refine hQ _ _ _ rfl ?_;clear hQ hR hE hM)|(refine hR _ _ (hQ _ _ _ rfl ?_);clear hQ hR hE hM)|(refine zaf ?_ ?_;focus first|omega|(refine zad ?_;(refine no_implicit_lambda% (st ?_);try with_reducible exact True.intro);done)))<;>try (refine no_implicit_lambda% (st ?_);try with_reducible exact True.intro)))
      all_goals (first|(refine ⟨j+1,by omega,⟨by omega,by grind[zdy,zhP]⟩,(by (try dsimp only);(first|omega|(simp;done)|(simp;omega)))⟩)|(grind[zdy,zhP]))
    ·rw[zlf hjk]at hi
     repeat' (first|refine zaa [0,2,3,4,5,7,8,9,10,11,12,15,16,17,18,19,25,29,52,60,61,62,63,67,68,69,70,76,123] fun K hK=>?_|refine AWp.block ?_|(refine hK.go ?_;clear hK K)|refine Cont.go (by assumption) ?_|(refine cnd2 rfl (fun h=>?_) (fun h=>?_)<;>(try first|exact h.elim|obtain rfl:(_:Bool)=true:=h|obtain rfl:(_:Bool)=false:=h)<;>first|(exfalso;omega)|skip)|((first|refine AWp.reg hE hM ?_|refine AWp.regd hE hM ?_|refine AWp.ret ?_|refine AWp.skip ?_|refine AWp.exit ?_|(refine pk2 (fun h=>?_) (fun h=>?_)<;>(try first|exact h.elim|obtain rfl:(_:Bool)=true:=h|obtain rfl:(_:Bool)=false:=h))|refine zab (fun h=>?_) ?_|(refine hQ _ _ _ rfl ?_;clear hQ hR hE hM)|(refine hR _ _ (hQ _ _ _ rfl ?_);clear hQ hR hE hM)|(refine zaf ?_ ?_;focus first|omega|(refine zad ?_;(refine no_implicit_lambda% (st ?_);try with_reducible exact True.intro);done)))<;>try (refine no_implicit_lambda% (st ?_);try with_reducible exact True.intro)))
     all_goals (first|(refine ⟨k+1,by omega,⟨by omega,by grind[zdy]⟩,(by (try dsimp only);(first|omega|(simp;done)|(simp;omega)))⟩)|(grind[zdy]))
   ·rw[List.drop_eq_nil_of_le hge,List.all_nil]at hg
    repeat' (first|refine zaa [0,2,3,4,5,7,8,9,10,11,12,15,16,17,18,19,25,29,52,60,61,62,63,67,68,69,70,76,123] fun K hK=>?_|refine AWp.block ?_|(refine hK.go ?_;clear hK K)|refine Cont.go (by assumption) ?_|(refine cnd2 rfl (fun h=>?_) (fun h=>?_)<;>(try first|exact h.elim|obtain rfl:(_:Bool)=true:=h|obtain rfl:(_:Bool)=false:=h)<;>first|(exfalso;omega)|skip)|((first|refine AWp.reg hE hM ?_|refine AWp.regd hE hM ?_|refine AWp.ret ?_|refine AWp.skip ?_|refine AWp.exit ?_|(refine pk2 (fun h=>?_) (fun h=>?_)<;>(try first|exact h.elim|obtain rfl:(_:Bool)=true:=h|obtain rfl:(_:Bool)=false:=h))|refine zab (fun h=>?_) ?_|(refine hQ _ _ _ rfl ?_;clear hQ hR hE hM)|(refine hR _ _ (hQ _ _ _ rfl ?_);clear hQ hR hE hM)|(refine zaf ?_ ?_;focus first|omega|(refine zad ?_;(refine no_implicit_lambda% (st ?_);try with_reducible exact True.intro);done)))<;>try (refine no_implicit_lambda% (st ?_);try with_reducible exact True.intro)))
    all_goals (first|rfl|(grind[zdy])|(simp[zdy, *];done)|(simp_all [zdy];done)|(simp_all [zdy]<;>first|omega|((repeat' split)<;>first|rfl|(exfalso;omega))))
end Go.Lev
namespace Go.Lev
open Go.Eng
set_option maxRecDepth 10000
set_option maxHeartbeats 4000000
variable {P:Program} {inv:Nat→Option Nat}
def zgQ (l:List Section):Int:=if zja l=true then 0 else 8
def ze0:Section:=⟨0,0,[]⟩
def rFind (l:List Section) (id:Int):Section×Int:=if zja l=true then (if zkr id 0 l<0 then (ze0,6) else (nth l (zkr id 0 l).toNat,0)) else (ze0,8)
def find (l:List Section) (id:Int):Section×Int:=if zdy l=0 then (if (zao l id).2=true then (nth l (zao l id).1,0) else (ze0,6)) else (ze0,zdy l)
end Go.Lev
namespace Go.Lev
open Go.Eng
def okAt (l:List Section) (j:Nat):Prop:=1≤(nth l j).id∧(nth l j).id≤99∧zb9 (nth l j)=true∧(0<j→(nth l (j-1)).id<(nth l j).id)∧∀ i,i<j→(nth l j).pt≠0→(nth l i).pt≠(nth l j).pt
def okAt' (l:List Section) (j:Nat):Prop:=1≤(nth l j).id∧(nth l j).id≤99∧zb9 (nth l j)=true∧∀ i,i<j→(nth l i).id<(nth l j).id∧((nth l j).pt≠0→(nth l i).pt≠(nth l j).pt)
theorem zd1 (s:Section):zcn s=zb9 s:=by
 unfold zcn zb9 zbW
 by_cases h:s.pt=0<;>simp[h]
def Marks (l:List Section) (pts:List Bool) (k:Nat):Prop:=pts.length=100∧∀ p,p<100→(nth pts p=true↔0<p∧∃ i,i<k∧(nth l i).pt=(p:Int))
theorem zbD {α:Type} [Inhabited α] (l:List α) (i j:Nat) (x:α) (h:i<l.length):nth (l.set i x) j=if j=i then x else nth l j:=by
 unfold nth
 by_cases e:j=i
 ·subst e;simp[h]
 ·simp[e,List.getElem?_set,Ne.symm e]
theorem zi2 (l:List Section):∀ (r:List Section) (k:Nat) (pts:List Bool),l.drop k=r→Marks l pts k→(ck1 l k pts r=true↔∀ j,k≤j→j<l.length→okAt l j)
 |[],k,pts,hr,_=>by
  have:l.length≤k:=by simpa using hr
  simp[ck1];intro j h1 h2;omega
 |s::r,k,pts,hr,hm=>by
  have hk:k<l.length:=by
   rcases Nat.lt_or_ge k l.length with h|h
   ·exact h
   ·rw[List.drop_eq_nil_of_le h]at hr;cases hr
  rw[zap hk,List.cons.injEq]at hr
  obtain ⟨rfl,hr⟩:=hr
  simp only[ck1,Bool.and_eq_true,Bool.not_eq_true']
  have hb:zh8 l k pts (nth l k)=false↔okAt l k:=by
   unfold zh8 okAt zbW
   rw[zd1]
   cases hs:zb9 (nth l k) with
   |false=>simp
   |true =>
    have hbd:=zeL (by rw[zd1];exact hs)
    have hp:=hm.2 (nth l k).pt.toNat (by omega)
    have e1:(((k:Int)-1).toNat)=k-1:=by omega
    rw[e1]
    have hpf:nth pts (nth l k).pt.toNat=false↔∀ i,i<k→(nth l k).pt≠0→(nth l i).pt≠(nth l k).pt:=by
     rw[←Bool.not_eq_true,hp]
     constructor
     ·intro h i hi h0 he
      exact h ⟨by omega,i,hi,by omega⟩
     ·rintro h ⟨h0,i,hi,he⟩
      exact h i hi (by omega) (by omega)
    simp only[Bool.or_eq_false_iff,Bool.and_eq_false_iff,Bool.not_eq_false',Bool.and_eq_true,decide_eq_true_eq,decide_eq_false_iff_not,hpf]
    constructor
    ·rintro ⟨⟨⟨⟨h1,h2⟩,_⟩,h3⟩,h4⟩
     exact ⟨h1,h2,trivial,fun h0=>by rcases h3 with h3|h3<;>omega,h4⟩
    ·rintro ⟨h1,h2,_,h3,h4⟩
     refine ⟨⟨⟨⟨h1,h2⟩,trivial⟩, ?_⟩,h4⟩
     rcases Nat.eq_zero_or_pos k with h0|h0
     ·left;omega
     ·right;have:=h3 h0;omega
  rw[hb]
  constructor
  ·rintro ⟨h1,h2⟩ j hj hlt
   have hbd:=zeL (by rw[zd1];exact h1.2.2.1)
   have hm':Marks l (pts.set (nth l k).pt.toNat (decide (0<(nth l k).pt))) (k+1):=by
    refine ⟨by simp[hm.1],fun p hp=>?_⟩
    rw[zbD _ _ _ _ (by rw[hm.1];omega)]
    split
    ·rename_i e
     constructor
     ·intro h;simp at h;exact ⟨by omega,k,by omega,by omega⟩
     ·rintro ⟨h0,_⟩;simp;omega
    ·rename_i e
     rw[hm.2 p hp]
     constructor
     ·rintro ⟨h0,i,hi,he⟩;exact ⟨h0,i,by omega,he⟩
     ·rintro ⟨h0,i,hi,he⟩
      refine ⟨h0,i, ?_,he⟩
      rcases Nat.lt_or_ge i k with h|h
      ·exact h
      ·obtain rfl:i=k:=by omega
       omega
   rcases Nat.lt_or_ge k j with h|h
   ·exact (zi2 l r (k+1) _ hr hm').1 h2 j (by omega) hlt
   ·obtain rfl:j=k:=by omega
    exact h1
  ·intro h
   have h1:=h k (Nat.le_refl _) hk
   refine ⟨h1, ?_⟩
   have hbd:=zeL (by rw[zd1];exact h1.2.2.1)
   have hm':Marks l (pts.set (nth l k).pt.toNat (decide (0<(nth l k).pt))) (k+1):=by
    refine ⟨by simp[hm.1],fun p hp=>?_⟩
    rw[zbD _ _ _ _ (by rw[hm.1];omega)]
    split
    ·rename_i e
     constructor
     ·intro h;simp at h;exact ⟨by omega,k,by omega,by omega⟩
     ·rintro ⟨h0,_⟩;simp;omega
    ·rename_i e
     rw[hm.2 p hp]
     constructor
     ·rintro ⟨h0,i,hi,he⟩;exact ⟨h0,i,by omega,he⟩
     ·rintro ⟨h0,i,hi,he⟩
      refine ⟨h0,i, ?_,he⟩
      rcases Nat.lt_or_ge i k with h|h
      ·exact h
      ·obtain rfl:i=k:=by omega
       omega
   exact (zi2 l r (k+1) _ hr hm').2 fun j hj hlt=>h j (by omega) hlt
theorem marks0 (l:List Section):Marks l (List.replicate 100 false) 0:=by
 refine ⟨by simp,fun p hp=>?_⟩
 rw[zaV (by simpa using hp),List.getElem_replicate]
 constructor
 ·intro h;cases h
 ·rintro ⟨_,i,h,_⟩;exact absurd h (Nat.not_lt_zero _)
theorem zgO (l:List Section):∀ (r:List Section) (k:Nat),l.drop k=r→(zjB (l.take k) r=true↔∀ j,k≤j→j<l.length→okAt' l j)
 |[],k,hr=>by
  have:l.length≤k:=by simpa using hr
  simp[zjB];intro j h1 h2;omega
 |s::r,k,hr=>by
  have hk:k<l.length:=by
   rcases Nat.lt_or_ge k l.length with h|h
   ·exact h
   ·rw[List.drop_eq_nil_of_le h]at hr;cases hr
  rw[zap hk,List.cons.injEq]at hr
  obtain ⟨rfl,hr⟩:=hr
  rw[zjB,znf hk,Bool.and_eq_true,zgO l r (k+1) hr]
  have hb:rOk (l.take k) (nth l k)=true↔okAt' l k:=by
   unfold rOk okAt' rClash
   simp only[Bool.and_eq_true,Bool.not_eq_true',Bool.or_eq_false_iff,decide_eq_false_iff_not,Bool.not_eq_false',List.all_eq_true,Bool.and_eq_false_iff,decide_eq_true_eq]
   constructor
   ·rintro ⟨⟨⟨h1,h2⟩,h3⟩,h4⟩
    refine ⟨by omega,by omega,h3,fun i hi=>?_⟩
    have:=h4 (nth l i) (by rw[←zlr hi];exact zal (by simp;omega))
    refine ⟨by omega,fun h0 he=>?_⟩
    rcases this.2 with h|h
    ·exact h0 h
    ·exact h he
   ·rintro ⟨h1,h2,h3,h4⟩
    refine ⟨⟨⟨by omega,by omega⟩,h3⟩,fun x hx=>?_⟩
    obtain ⟨i,hi,rfl⟩:=List.mem_iff_getElem.1 hx
    have hik:i<k:=by simp at hi;omega
    have:=h4 i hik
    have e:(l.take k)[i]=nth l i:=by rw[←zaV hi,zlr hik]
    rw[e]
    refine ⟨by omega, ?_⟩
    by_cases h0:(nth l k).pt=0
    ·exact .inl h0
    ·exact .inr (this.2 h0)
  rw[hb]
  constructor
  ·rintro ⟨h1,h2⟩ j hj hlt
   rcases Nat.lt_or_ge k j with h|h
   ·exact h2 j (by omega) hlt
   ·obtain rfl:j=k:=by omega
    exact h1
  ·intro h
   exact ⟨h k (Nat.le_refl _) hk,fun j hj hlt=>h j (by omega) hlt⟩
def zfl (l:List Section):Prop:=∀ i j,i<j→j<l.length→(nth l i).id<(nth l j).id
theorem zg1 {l:List Section} (h:∀ j,j<l.length→okAt l j):zfl l:=by
 intro i j hij hj
 obtain ⟨d,rfl⟩:=Nat.exists_eq_add_of_lt hij
 clear hij
 induction d with
 |zero=>exact (h (i+0+1) hj).2.2.2.1 (by omega)
 |succ d ih =>
  have h1:=ih (by omega)
  have h2:=(h (i+(d+1)+1) hj).2.2.2.1 (by omega)
  have e:i+(d+1)+1-1=i+d+1:=by omega
  rw[e]at h2
  omega
theorem zgm (l:List Section):ck1 l 0 (List.replicate 100 false) l=zjB [] l:=by
 have h1:=zi2 l l 0 _ rfl (marks0 l)
 have h2:=zgO l l 0 rfl
 rw[List.take_zero]at h2
 rw[Bool.eq_iff_iff,h1,h2]
 constructor
 ·intro h j _ hj
  have hs:=zg1 fun j hj=>h j (Nat.zero_le _) hj
  have:=h j (Nat.zero_le _) hj
  exact ⟨this.1,this.2.1,this.2.2.1,fun i hi=>⟨hs i j hi hj,this.2.2.2.2 i hi⟩⟩
 ·intro h j _ hj
  have:=h j (Nat.zero_le _) hj
  exact ⟨this.1,this.2.1,this.2.2.1,fun h0=>(this.2.2.2 (j-1) (by omega)).1,fun i hi=>(this.2.2.2 i hi).2⟩
theorem zgs {l:List Section} (h:ck1 l 0 (List.replicate 100 false) l=true):zfl l :=
 zg1 fun j hj=>(zi2 l l 0 _ rfl (marks0 l)).1 h j (Nat.zero_le _) hj
theorem zoO {a b:Int}:zj9 a b<0↔a<b:=by unfold zj9;split<;>(try split)<;>omega
theorem zoP {a b:Int}:zj9 a b=0↔a=b:=by unfold zj9;split<;>(try split)<;>omega
theorem zhy {l:List Section} {id:Int} (hs:zfl l):∀ (n i j:Nat),j-i≤n→i≤j→j≤l.length→(∀ x,x<i→(nth l x).id<id)→(∀ x,j≤x→x<l.length→id≤(nth l x).id) →
  (∀ x,x<zgn l id i j→(nth l x).id<id)∧(∀ x,zgn l id i j≤x→x<l.length→id≤(nth l x).id)
 |0,i,j,hn,hij,hj,h1,h2=>by
  obtain rfl:i=j:=by omega
  rw[zi6];exact ⟨h1,h2⟩
 |n+1,i,j,hn,hij,hj,h1,h2=>by
  rcases Nat.lt_or_ge i j with hlt|hge
  ·rw[zkc hlt]
   split
   ·rename_i hc
    rw[zoO]at hc
    refine zhy hs n _ _ (by omega) (by omega) hj (fun x hx=>?_) h2
    rcases Nat.lt_or_ge x ((i+j) / 2) with h|h
    ·have:=hs x ((i+j) / 2) h (by omega);omega
    ·obtain rfl:x=(i+j) / 2:=by omega
     exact hc
   ·rename_i hc
    rw[zoO]at hc
    refine zhy hs n _ _ (by omega) (by omega) (by omega) h1 (fun x hx hxl=>?_)
    rcases Nat.lt_or_ge ((i+j) / 2) x with h|h
    ·have:=hs ((i+j) / 2) x h hxl;omega
    ·obtain rfl:x=(i+j) / 2:=by omega
     omega
  ·obtain rfl:i=j:=by omega
   rw[zi6];exact ⟨h1,h2⟩
theorem zfi (id:Int):∀ (l:List Section) (k:Nat),(zkr id k l=-1∧∀ i,i<l.length→(nth l i).id≠id)∨∃ p,p<l.length∧zkr id k l=(k:Int)+p∧(nth l p).id=id
 |[],k=>.inl ⟨rfl,fun i h=>by simp at h⟩
 |x::r,k=>by
  unfold zkr
  split
  ·rename_i h
   exact .inr ⟨0,by simp,by simp,by simpa [nth] using h⟩
  ·rename_i h
   rcases zfi id r (k+1) with ⟨h1,h2⟩|⟨p,h1,h2,h3⟩
   ·refine .inl ⟨h1,fun i hi=>?_⟩
    cases i with
    |zero=>simpa [nth] using h
    |succ i=>simpa [nth] using h2 i (by simpa using hi)
   ·exact .inr ⟨p+1,by simpa using h1,by rw[h2];omega,by simpa [nth] using h3⟩
theorem place_at {l:List Section} (hs:zfl l) (id:Int):((zao l id).2=false∧zkr id 0 l=-1)∨((zao l id).2=true∧zkr id 0 l=(zao l id).1):=by
 have hb:=zhy (id:=id) hs l.length 0 l.length (by omega) (by omega) (Nat.le_refl _) (fun x h=>absurd h (Nat.not_lt_zero _)) (fun x h1 h2=>absurd h1 (by omega))
 have hle:=zoW l id l.length 0 l.length (by omega) (by omega)
 unfold zao
 rcases zfi id l 0 with ⟨h1,h2⟩|⟨p,h1,h2,h3⟩
 ·left
  refine ⟨?_,h1⟩
  simp only[Bool.and_eq_false_iff,decide_eq_false_iff_not]
  rcases Nat.lt_or_ge (zgn l id 0 l.length) l.length with h|h
  ·right;rw[zoP];exact h2 _ h
  ·left;omega
 ·right
  have hp:zgn l id 0 l.length=p:=by
   rcases Nat.lt_trichotomy (zgn l id 0 l.length) p with h|h|h
   ·have a:=hb.2 _ (Nat.le_refl _) (by omega)
    have b:=hs _ _ h h1
    omega
   ·exact h
   ·have:=hb.1 p h;omega
  rw[hp]
  refine ⟨?_,by rw[h2];omega⟩
  simp only[Bool.and_eq_true,decide_eq_true_eq,zoP]
  exact ⟨h1,h3⟩
theorem end_eq {l:List Section} (hs:zfl l) (s:Section) (e:Nat):zhP l s e=zgP l s e:=by
 unfold zhP zgP
 split
 ·rfl
 ·rcases place_at hs (nth s.ends e).to with ⟨h1,h2⟩|⟨h1,h2⟩
  ·rw[h1,h2];simp
  ·have h3:=zlH h1
   rw[h1,h2]
   simp only[Int.toNat_natCast]
   split
   ·rename_i h
    rcases h with h|h|h|h
    ·omega
    ·simp[h]
    ·simp[h]
    ·simp[h.1,h.2]
   ·rename_i h
    simp only[not_or]at h
    obtain ⟨_,h4,h5,h6⟩:=h
    simp only[h4,h5,decide_false,Bool.not_true,Bool.false_or,Bool.or_false]
    by_cases h7:(nth s.ends e).to=s.id
    ·by_cases h8:(nth s.ends e).ed=(e:Int)
     ·exact absurd ⟨h7,h8⟩ h6
     ·simp[h8]
    ·simp[h7]
theorem check_eq (l:List Section):zdy l=zgQ l:=by
 unfold zdy zgQ zja
 by_cases h16:16<(l.length:Int)
 ·simp[h16]
 ·rw[if_neg h16,zgm]
  cases h1:zjB [] l with
  |false=>simp
  |true =>
   have hs:=zgs ((zgm l).trans h1)
   have e2:ck2 l=znH l:=by
    unfold ck2 znH
    congr 1
    funext s
    congr 1
    funext e
    exact end_eq hs s e
   simp[h16,e2]
theorem zmh {l:List Section} (h:zja l=true):zfl l:=by
 unfold zja at h
 simp only[Bool.and_eq_true]at h
 exact zgs ((zgm l).trans h.1.2)
end Go.Lev
namespace Go.Lev
open Go.Eng
set_option maxRecDepth 10000
set_option maxHeartbeats 4000000
variable {P:Program} {inv:Nat→Option Nat}
def SecOK (l:List Section):Prop:=∀ s∈l,1≤s.id∧s.id≤99∧0≤s.pt∧s.pt≤99∧s.ends.length≤3
theorem zoD {φ:AF} {σ:AS} {t l ver:Nat} {cs:List AV} {b:Bool} (hf:zbh φ t=.ptr l ver 0) (hs:zaF σ l=some (.cells cs b)) (hl:cs.length=ver) (hv:0<ver):zeg φ σ [.cell t (some ver)]=some (.agg cs):=by
 subst hl
 have h:zcJ cs 0 (some cs.length)=some (.agg cs):=by
  rw[al_s,if_pos (by omega)]
  simp[seg]
 simp[zeg,zhB,ares,hf,zcK,hs,h]
def zhp:List Int→List Section→List Int
 |a,[]=>a
 |a,s::r=>zhp (a.set s.id.toNat s.ends.length) r
theorem zj1:∀ (l:List Section) (a:List Int),(zhp a l).length=a.length
 |[],a=>rfl
 |s::r,a=>by rw[zhp,zj1 r];simp
def ends (l:List Section):List Int:=zhp (List.replicate 100 0) l
theorem zlZ (l:List Section):(ends l).length=100:=by rw[ends,zj1];simp
theorem ends_pc (hH:HasAll P inv) (l:List Section) (hl:l.length≤1000000000) (hs:SecOK l):PC P inv 122 [.sl 3 (l.map Section.c)] (·=.agg ((ends l).map AV.n)):=by
 refine zae (F:=cd122) (hH.has _ _ rfl) (Nat.le_of_ble_eq_true rfl) fun w0 M Q hM hQ hR=>?_;have hE:=hH.callable;dsimp only[cd122,qm,ql,qf,qi,qb,qc,qp,qv,qN,qT,qF,qt]at hQ ⊢
 repeat' (first|refine zaa [0,2,4,5,6,7,8] fun K hK=>?_|refine AWp.block ?_|(refine hK.go ?_;clear hK K)|refine Cont.go (by assumption) ?_|(refine cnd2 rfl (fun h=>?_) (fun h=>?_)<;>(try first|exact h.elim|obtain rfl:(_:Bool)=true:=h|obtain rfl:(_:Bool)=false:=h)<;>first|(exfalso;omega)|skip)|((first|refine AWp.reg hE hM ?_|refine AWp.regd hE hM ?_|refine AWp.ret ?_|refine AWp.skip ?_|refine AWp.exit ?_|(refine pk2 (fun h=>?_) (fun h=>?_)<;>(try first|exact h.elim|obtain rfl:(_:Bool)=true:=h|obtain rfl:(_:Bool)=false:=h))|refine zab (fun h=>?_) ?_|(refine hQ _ _ _ rfl ?_;clear hQ hR hE hM)|(refine hR _ _ (hQ _ _ _ rfl ?_);clear hQ hR hE hM)|(refine zaf ?_ ?_;focus first|omega|(refine zad ?_;(refine no_implicit_lambda% (st ?_);try with_reducible exact True.intro);done)))<;>try (refine no_implicit_lambda% (st ?_);try with_reducible exact True.intro)))
 refine zah (ι:=Nat×(List Int)) [2,5,6,7] (fun zz=>[(7,.n zz.1)]) (fun zz=>[(0,.cells (zz.2.map AV.n) true)]) (fun zz=>zz.1≤l.length∧(zz.2.length=100)∧(zhp zz.2 (l.drop zz.1)=ends l)) (fun zz=>l.length-zz.1) (0,List.replicate 100 0) ⟨Nat.zero_le _,(by first|rfl|assumption|omega|(simp;done)|(simp;omega)|grind),(by first|rfl|assumption|omega|(simp;done)|(simp;omega)|grind)⟩ (by (try dsimp only);(refine no_implicit_lambda% (st ?_);try with_reducible exact True.intro)<;>first|omega|(simp;done)) (by (try dsimp only);(refine no_implicit_lambda% (st ?_);try with_reducible exact True.intro)<;>first|omega|(simp;done)) ?_;rintro ⟨k,a⟩ ⟨hk,hp,hg⟩;(try dsimp only at hk hp hg ⊢);rcases Nat.lt_or_ge k l.length with hlt|hge
 ·rw[zap hlt]at hg
  rw[zhp]at hg
  have hb:=hs _ (zal hlt)
  repeat' (first|refine zaa [0,2,4,5,6,7,8] fun K hK=>?_|refine AWp.block ?_|(refine hK.go ?_;clear hK K)|refine Cont.go (by assumption) ?_|(refine cnd2 rfl (fun h=>?_) (fun h=>?_)<;>(try first|exact h.elim|obtain rfl:(_:Bool)=true:=h|obtain rfl:(_:Bool)=false:=h)<;>first|(exfalso;omega)|skip)|((first|refine AWp.reg hE hM ?_|refine AWp.regd hE hM ?_|refine AWp.ret ?_|refine AWp.skip ?_|refine AWp.exit ?_|(refine pk2 (fun h=>?_) (fun h=>?_)<;>(try first|exact h.elim|obtain rfl:(_:Bool)=true:=h|obtain rfl:(_:Bool)=false:=h))|refine zab (fun h=>?_) ?_|(refine hQ _ _ _ rfl ?_;clear hQ hR hE hM)|(refine hR _ _ (hQ _ _ _ rfl ?_);clear hQ hR hE hM)|(refine zaf ?_ ?_;focus first|omega|(refine zad ?_;(refine no_implicit_lambda% (st ?_);try with_reducible exact True.intro);done)))<;>try simp -dsimp -implicitDefEqProofs (disch:=omega) only[go_sem,reduceIte,↓reduceIte,Nat.reduceEqDiff,Nat.reduceLT,Nat.reduceLeDiff,Nat.reduceAdd,Nat.reduceSub,Nat.reduceMul,Int.reduceToNat,Int.reduceLT,Int.reduceLE,Int.reduceEq,Int.reduceNeg,Int.reduceNe,reduceCtorEq,hp]))
  refine ⟨(k+1,a.set (nth l k).id.toNat (nth l k).ends.length),by (try dsimp only);omega,⟨by (try dsimp only);omega,by (try dsimp only);simp[hp],hg⟩, ?_⟩;(try dsimp only);(first|omega|(simp;done)|(simp;omega)|((refine no_implicit_lambda% (st ?_);try with_reducible exact True.intro);done)|(simp[List.map_set, *];done)|(simp[List.map_set, *];rfl)|((refine no_implicit_lambda% (st ?_);try with_reducible exact True.intro);simp[List.map_set, *];done)|((try (refine no_implicit_lambda% (st ?_);try with_reducible exact True.intro));(repeat' refine And.intro ?_ ?_)<;>first|omega|rfl|(simp;done)|(simp;omega)|(simp;rfl)|(simp[List.map_set, *];done)|(simp[List.map_set, *];rfl)))
 ·rw[List.drop_eq_nil_of_le hge,zhp]at hg
  repeat' (first|refine zaa [0,2,4,5,6,7,8] fun K hK=>?_|refine AWp.block ?_|(refine hK.go ?_;clear hK K)|refine Cont.go (by assumption) ?_|(refine cnd2 rfl (fun h=>?_) (fun h=>?_)<;>(try first|exact h.elim|obtain rfl:(_:Bool)=true:=h|obtain rfl:(_:Bool)=false:=h)<;>first|(exfalso;omega)|skip)|((first|refine AWp.reg hE hM ?_|refine AWp.regd hE hM ?_|refine AWp.ret ?_|refine AWp.skip ?_|refine AWp.exit ?_|(refine pk2 (fun h=>?_) (fun h=>?_)<;>(try first|exact h.elim|obtain rfl:(_:Bool)=true:=h|obtain rfl:(_:Bool)=false:=h))|refine zab (fun h=>?_) ?_|(refine hQ _ _ _ rfl ?_;clear hQ hR hE hM)|(refine hR _ _ (hQ _ _ _ rfl ?_);clear hQ hR hE hM)|(refine zaf ?_ ?_;focus first|omega|(refine zad ?_;(refine no_implicit_lambda% (st ?_);try with_reducible exact True.intro);done)))<;>try simp -dsimp -implicitDefEqProofs (disch:=omega) only[go_sem,reduceIte,↓reduceIte,Nat.reduceEqDiff,Nat.reduceLT,Nat.reduceLeDiff,Nat.reduceAdd,Nat.reduceSub,Nat.reduceMul,Int.reduceToNat,Int.reduceLT,Int.reduceLE,Int.reduceEq,Int.reduceNeg,Int.reduceNe,reduceCtorEq,hp]))
  subst hg
  refine hQ _ _ (.agg ((ends l).map AV.n)) (zoD (l:=0) (b:=true) rfl rfl (by simp[hp]) (by omega)) ?_
  simp only[zeK,ziq]
def zm1:List Int→Int→List Section→List Int×Int
 |a,m,[]=>(a,m)
 |a,m,s::r=>if 0<s.pt then zm1 (a.set s.pt.toNat s.id) (m+1) r else zm1 a m r
def zkK (a:List Int) (x:Pnt):Bool:=decide (x.sec=0)||!decide (nth a x.id.toNat=x.sec)
def pts (l:List Section):List Int×Int:=zm1 (List.replicate 100 0) 0 l
def points (p:Pln):Bool:=rise (p.points.map Pnt.id) 6&&(decide ((pts p.sections).2=p.points.length)&&!p.points.any (zkK (pts p.sections).1))
theorem ptBad_pc (hH:HasAll P inv) (a:List Int) (ha:a.length=100) (x:Pnt) (hx:0≤x.id∧x.id≤99):PC P inv 132 ([.agg x.c]++[.ip 100 [a.map AV.n] 0 0]) (·=.b (zkK a x)):=by
 refine zae (F:=cd132) (hH.has _ _ rfl) (Nat.le_of_ble_eq_true rfl) fun w0 M Q hM hQ hR=>?_;have hE:=hH.callable;dsimp only[cd132,qm,ql,qf,qi,qb,qc,qp,qv,qN,qT,qF,qt]at hQ ⊢
 repeat' (first|refine zaa [0,1,2,3] fun K hK=>?_|refine AWp.block ?_|(refine hK.go ?_;clear hK K)|refine Cont.go (by assumption) ?_|(refine cnd2 rfl (fun h=>?_) (fun h=>?_)<;>(try first|exact h.elim|obtain rfl:(_:Bool)=true:=h|obtain rfl:(_:Bool)=false:=h)<;>first|(exfalso;omega)|skip)|((first|refine AWp.reg hE hM ?_|refine AWp.regd hE hM ?_|refine AWp.ret ?_|refine AWp.skip ?_|refine AWp.exit ?_|(refine pk2 (fun h=>?_) (fun h=>?_)<;>(try first|exact h.elim|obtain rfl:(_:Bool)=true:=h|obtain rfl:(_:Bool)=false:=h))|refine zab (fun h=>?_) ?_|(refine hQ _ _ _ rfl ?_;clear hQ hR hE hM)|(refine hR _ _ (hQ _ _ _ rfl ?_);clear hQ hR hE hM)|(refine zaf ?_ ?_;focus first|omega|(refine zad ?_;(refine no_implicit_lambda% (st ?_);try with_reducible exact True.intro);done)))<;>try simp -dsimp -implicitDefEqProofs (disch:=omega) only[go_sem,reduceIte,↓reduceIte,Nat.reduceEqDiff,Nat.reduceLT,Nat.reduceLeDiff,Nat.reduceAdd,Nat.reduceSub,Nat.reduceMul,Int.reduceToNat,Int.reduceLT,Int.reduceLE,Int.reduceEq,Int.reduceNeg,Int.reduceNe,reduceCtorEq,ha]))
 all_goals (first|rfl|(grind[zkK])|(simp[zkK, *];done)|(simp_all [zkK];done)|(simp_all [zkK]<;>first|omega|((repeat' split)<;>first|rfl|(exfalso;omega))))
theorem zlz:∀ {l:List Int} {p:Option Int},zdi p l=true→∀ x∈l,1≤x∧x≤99
 |[],_,_,_,h=>by cases h
 |y::r,p,hr,x,hx=>by
  simp only[zdi,Bool.and_eq_true,Bool.not_eq_true',decide_eq_false_iff_not]at hr
  rcases List.mem_cons.1 hx with rfl|hx
  ·omega
  ·exact zlz hr.2 x hx
theorem znM (hH:HasAll P inv) (hI:HasIds P inv) (p:Pln) (h1:p.sections.length≤1000000000) (h2:p.points.length≤1000000000) (hs:SecOK p.sections):PC P inv 123 [.agg p.c] (·=.b (points p)):=by
 have c1:=zmo hH hI p.points 6 h2
 cases hr:rise (p.points.map Pnt.id) 6 with
 |false =>
  rw[hr]at c1
  refine zae (F:=cd123) (hH.has _ _ rfl) (Nat.le_of_ble_eq_true rfl) fun w0 M Q hM hQ hR=>?_;have hE:=hH.callable;dsimp only[cd123,qm,ql,qf,qi,qb,qc,qp,qv,qN,qT,qF,qt]at hQ ⊢
  repeat' (first|refine zaa [0,1,2,3,4,6,10,12,13,14,15,20] fun K hK=>?_|refine AWp.block ?_|(refine hK.go ?_;clear hK K)|refine Cont.go (by assumption) ?_|(refine cnd2 rfl (fun h=>?_) (fun h=>?_)<;>(try first|exact h.elim|obtain rfl:(_:Bool)=true:=h|obtain rfl:(_:Bool)=false:=h)<;>first|(exfalso;omega)|skip)|((first|refine AWp.reg hE hM ?_|refine AWp.regd hE hM ?_|refine AWp.ret ?_|refine AWp.skip ?_|refine AWp.exit ?_|(refine pk2 (fun h=>?_) (fun h=>?_)<;>(try first|exact h.elim|obtain rfl:(_:Bool)=true:=h|obtain rfl:(_:Bool)=false:=h))|refine zab (fun h=>?_) ?_|refine zac hM (c1) ?_|(refine hQ _ _ _ rfl ?_;clear hQ hR hE hM)|(refine hR _ _ (hQ _ _ _ rfl ?_);clear hQ hR hE hM)|(refine zaf ?_ ?_;focus first|omega|(refine zad ?_;(refine no_implicit_lambda% (st ?_);try with_reducible exact True.intro);done)))<;>try (refine no_implicit_lambda% (st ?_);try with_reducible exact True.intro)))
  all_goals simp[points,hr]
 |true =>
  rw[hr]at c1
  have hid:∀ x∈p.points,0≤x.id∧x.id≤99:=fun x hx=>by
   simp only[rise,Bool.and_eq_true]at hr
   have:=zlz hr.1 x.id (List.mem_map_of_mem hx)
   omega
  refine zae (F:=cd123) (hH.has _ _ rfl) (Nat.le_of_ble_eq_true rfl) fun w0 M Q hM hQ hR=>?_;have hE:=hH.callable;dsimp only[cd123,qm,ql,qf,qi,qb,qc,qp,qv,qN,qT,qF,qt]at hQ ⊢
  repeat' (first|refine zaa [0,1,2,3,4,6,10,12,13,14,15,20] fun K hK=>?_|refine AWp.block ?_|(refine hK.go ?_;clear hK K)|refine Cont.go (by assumption) ?_|(refine cnd2 rfl (fun h=>?_) (fun h=>?_)<;>(try first|exact h.elim|obtain rfl:(_:Bool)=true:=h|obtain rfl:(_:Bool)=false:=h)<;>first|(exfalso;omega)|skip)|((first|refine AWp.reg hE hM ?_|refine AWp.regd hE hM ?_|refine AWp.ret ?_|refine AWp.skip ?_|refine AWp.exit ?_|(refine pk2 (fun h=>?_) (fun h=>?_)<;>(try first|exact h.elim|obtain rfl:(_:Bool)=true:=h|obtain rfl:(_:Bool)=false:=h))|refine zab (fun h=>?_) ?_|refine zac hM (c1) ?_|(refine hQ _ _ _ rfl ?_;clear hQ hR hE hM)|(refine hR _ _ (hQ _ _ _ rfl ?_);clear hQ hR hE hM)|(refine zaf ?_ ?_;focus first|omega|(refine zad ?_;(refine no_implicit_lambda% (st ?_);try with_reducible exact True.intro);done)))<;>try (refine no_implicit_lambda% (st ?_);try with_reducible exact True.intro)))
  refine zah (ι:=Nat×(List Int)×Int) [1,2,3,4,12,13,14] (fun zz=>[(4,.n zz.2.2),(14,.n zz.1)]) (fun zz=>[(1,.cells (zz.2.1.map AV.n) true)]) (fun zz=>zz.1≤p.sections.length∧(zz.2.1.length=100)∧(0≤zz.2.2∧zz.2.2≤zz.1)∧(zm1 zz.2.1 zz.2.2 (p.sections.drop zz.1)=pts p.sections)) (fun zz=>p.sections.length-zz.1) (0,List.replicate 100 0,0) ⟨Nat.zero_le _,(by first|rfl|assumption|omega|(simp;done)|(simp;omega)|grind),(by first|rfl|assumption|omega|(simp;done)|(simp;omega)|grind),(by first|rfl|assumption|omega|(simp;done)|(simp;omega)|grind)⟩ (by (try dsimp only);(refine no_implicit_lambda% (st ?_);try with_reducible exact True.intro)<;>first|omega|(simp;done)) (by (try dsimp only);(refine no_implicit_lambda% (st ?_);try with_reducible exact True.intro)<;>first|omega|(simp;done)) ?_;rintro ⟨k,a,m⟩ ⟨hk,hp,hm,hg⟩;(try dsimp only at hk hp hm hg ⊢);rcases Nat.lt_or_ge k p.sections.length with hlt|hge
  ·rw[zap hlt]at hg
   rw[zm1]at hg
   have hb:=hs _ (zal hlt)
   repeat' (first|refine zaa [0,1,2,3,4,6,10,12,13,14,15,20] fun K hK=>?_|refine AWp.block ?_|(refine hK.go ?_;clear hK K)|refine Cont.go (by assumption) ?_|(refine cnd2 rfl (fun h=>?_) (fun h=>?_)<;>(try first|exact h.elim|obtain rfl:(_:Bool)=true:=h|obtain rfl:(_:Bool)=false:=h)<;>first|(exfalso;omega)|skip)|((first|refine AWp.reg hE hM ?_|refine AWp.regd hE hM ?_|refine AWp.ret ?_|refine AWp.skip ?_|refine AWp.exit ?_|(refine pk2 (fun h=>?_) (fun h=>?_)<;>(try first|exact h.elim|obtain rfl:(_:Bool)=true:=h|obtain rfl:(_:Bool)=false:=h))|refine zab (fun h=>?_) ?_|(refine hQ _ _ _ rfl ?_;clear hQ hR hE hM)|(refine hR _ _ (hQ _ _ _ rfl ?_);clear hQ hR hE hM)|(refine zaf ?_ ?_;focus first|omega|(refine zad ?_;(refine no_implicit_lambda% (st ?_);try with_reducible exact True.intro);done)))<;>try simp -dsimp -implicitDefEqProofs (disch:=omega) only[go_sem,reduceIte,↓reduceIte,Nat.reduceEqDiff,Nat.reduceLT,Nat.reduceLeDiff,Nat.reduceAdd,Nat.reduceSub,Nat.reduceMul,Int.reduceToNat,Int.reduceLT,Int.reduceLE,Int.reduceEq,Int.reduceNeg,Int.reduceNe,reduceCtorEq,hp]))
   ·rw[if_pos (by assumption)]at hg
    refine ⟨(k+1,a.set (nth p.sections k).pt.toNat (nth p.sections k).id,m+1),by (try dsimp only);omega,⟨by (try dsimp only);omega,by (try dsimp only);simp[hp],by (try dsimp only);omega,hg⟩, ?_⟩;(try dsimp only);(first|omega|(simp;done)|(simp;omega)|((refine no_implicit_lambda% (st ?_);try with_reducible exact True.intro);done)|(simp[List.map_set, *];done)|(simp[List.map_set, *];rfl)|((refine no_implicit_lambda% (st ?_);try with_reducible exact True.intro);simp[List.map_set, *];done)|((try (refine no_implicit_lambda% (st ?_);try with_reducible exact True.intro));(repeat' refine And.intro ?_ ?_)<;>first|omega|rfl|(simp;done)|(simp;omega)|(simp;rfl)|(simp[List.map_set, *];done)|(simp[List.map_set, *];rfl)))
   ·rw[if_neg (by assumption)]at hg
    refine ⟨(k+1,a,m),by (try dsimp only);omega,⟨by (try dsimp only);omega,hp,by (try dsimp only);omega,hg⟩, ?_⟩;(try dsimp only);(first|omega|(simp;done)|(simp;omega)|((refine no_implicit_lambda% (st ?_);try with_reducible exact True.intro);done)|(simp[List.map_set, *];done)|(simp[List.map_set, *];rfl)|((refine no_implicit_lambda% (st ?_);try with_reducible exact True.intro);simp[List.map_set, *];done)|((try (refine no_implicit_lambda% (st ?_);try with_reducible exact True.intro));(repeat' refine And.intro ?_ ?_)<;>first|omega|rfl|(simp;done)|(simp;omega)|(simp;rfl)|(simp[List.map_set, *];done)|(simp[List.map_set, *];rfl)))
  ·rw[List.drop_eq_nil_of_le hge,zm1]at hg
   have c2:=any_pnt hH p.points (fun x hx=>ptBad_pc hH a hp x (hid x hx)) h2
   repeat' (first|refine zaa [0,1,2,3,4,6,10,12,13,14,15,20] fun K hK=>?_|refine AWp.block ?_|(refine hK.go ?_;clear hK K)|refine Cont.go (by assumption) ?_|(refine cnd2 rfl (fun h=>?_) (fun h=>?_)<;>(try first|exact h.elim|obtain rfl:(_:Bool)=true:=h|obtain rfl:(_:Bool)=false:=h)<;>first|(exfalso;omega)|skip)|((first|refine AWp.reg hE hM ?_|refine AWp.regd hE hM ?_|refine AWp.ret ?_|refine AWp.skip ?_|refine AWp.exit ?_|(refine pk2 (fun h=>?_) (fun h=>?_)<;>(try first|exact h.elim|obtain rfl:(_:Bool)=true:=h|obtain rfl:(_:Bool)=false:=h))|refine zab (fun h=>?_) ?_|(refine zau hM 4 ( c2) ?_ rfl ?_;(focus (simp -dsimp -implicitDefEqProofs (disch:=omega) only[go_sem,reduceIte,↓reduceIte,Nat.reduceEqDiff,Nat.reduceLT,Nat.reduceLeDiff,Nat.reduceAdd,Nat.reduceSub,Nat.reduceMul,Int.reduceToNat,Int.reduceLT,Int.reduceLE,Int.reduceEq,Int.reduceNeg,Int.reduceNe,reduceCtorEq,hp]<;>fail)))|(refine hQ _ _ _ rfl ?_;clear hQ hR hE hM)|(refine hR _ _ (hQ _ _ _ rfl ?_);clear hQ hR hE hM)|(refine zaf ?_ ?_;focus first|omega|(refine zad ?_;(refine no_implicit_lambda% (st ?_);try with_reducible exact True.intro);done)))<;>try simp -dsimp -implicitDefEqProofs (disch:=omega) only[go_sem,reduceIte,↓reduceIte,Nat.reduceEqDiff,Nat.reduceLT,Nat.reduceLeDiff,Nat.reduceAdd,Nat.reduceSub,Nat.reduceMul,Int.reduceToNat,Int.reduceLT,Int.reduceLE,Int.reduceEq,Int.reduceNeg,Int.reduceNe,reduceCtorEq,hp]))
   all_goals (simp only[points,hr,←hg];clear hg hr;simp[*])
end Go.Lev
namespace Go.Lev
open Go.Eng
set_option maxRecDepth 10000
set_option maxHeartbeats 4000000
variable {P:Program} {inv:Nat→Option Nat}
theorem runs300:zdz ((3,.b false)::(3,.b false)::(3,.b false)::(3,.b false)::(3,.b false)::(3,.b false)::(3,.b false)::(3,.b false)::(3,.b false)::(3,.b false)::(3,.b false)::(3,.b false)::(3,.b false)::(3,.b false)::(3,.b false)::(3,.b false)::(3,.b false)::(3,.b false)::(3,.b false)::(3,.b false)::(3,.b false)::(3,.b false)::(3,.b false)::(3,.b false)::(3,.b false)::(3,.b false)::(3,.b false)::(3,.b false)::(3,.b false)::(3,.b false)::(3,.b false)::(3,.b false)::(3,.b false)::(3,.b false)::(3,.b false)::(3,.b false)::(3,.b false)::(3,.b false)::(3,.b false)::(3,.b false)::(3,.b false)::(3,.b false)::(3,.b false)::(3,.b false)::(3,.b false)::(3,.b false)::(3,.b false)::(3,.b false)::(3,.b false)::(3,.b false)::(3,.b false)::(3,.b false)::(3,.b false)::(3,.b false)::(3,.b false)::(3,.b false)::(3,.b false)::(3,.b false)::(3,.b false)::(3,.b false)::(3,.b false)::(3,.b false)::(3,.b false)::(3,.b false)::(3,.b false)::(3,.b false)::(3,.b false)::(3,.b false)::(3,.b false)::(3,.b false)::(3,.b false)::(3,.b false)::(3,.b false)::(3,.b false)::(3,.b false)::(3,.b false)::(3,.b false)::(3,.b false)::(3,.b false)::(3,.b false)::(3,.b false)::(3,.b false)::(3,.b false)::(3,.b false)::(3,.b false)::(3,.b false)::(3,.b false)::(3,.b false)::(3,.b false)::(3,.b false)::(3,.b false)::(3,.b false)::(3,.b false)::(3,.b false)::(3,.b false)::(3,.b false)::(3,.b false)::(3,.b false)::(3,.b false)::(3,.b false)::[])=(List.replicate 300 false).map AV.b:=rfl
attribute [go_sem high] runs300
def zgu (x:Sgn):Nat:=x.sec.toNat*3+x.ed.toNat
def zdu (sec:List Int) (at_:List Bool) (x:Sgn):Bool:=!zcN sec x.sec||(decide (x.ed<0)||(decide (nth sec x.sec.toNat≤x.ed)||nth at_ (zgu x)))
def zjo (sec:List Int):List Bool→List Sgn→Bool
 |_,[]=>true
 |a,x::r=>!zdu sec a x&&zjo sec (a.set (zgu x) true) r
def signals (p:Pln) (sec:List Int):Bool:=rise (p.signals.map Sgn.id) 10&&zjo sec (List.replicate 300 false) p.signals
theorem zmi (hH:HasAll P inv) (hI:HasIds P inv) (p:Pln) (h2:p.signals.length≤1000000000) (sec:List Int) (hs:sec.length=100) (hs3:∀ i,nth sec i≤3):PC P inv 124 [.agg p.c,.agg (sec.map AV.n)] (·=.b (signals p sec)):=by
 have c1:=zmm hH hI p.signals 10 h2
 have ht:(sec.map AV.n).take 100=sec.map AV.n:=List.take_of_length_le (by simp[hs])
 cases hr:rise (p.signals.map Sgn.id) 10 with
 |false =>
  rw[hr]at c1
  refine zae (F:=cd124) (hH.has _ _ rfl) (Nat.le_of_ble_eq_true rfl) fun w0 M Q hM hQ hR=>?_;have hE:=hH.callable;dsimp only[cd124,qm,ql,qf,qi,qb,qc,qp,qv,qN,qT,qF,qt]at hQ ⊢
  repeat' (first|refine zaa [0,1,2,3,4,5,7,11,13,14,15,16,22,46] fun K hK=>?_|refine AWp.block ?_|(refine hK.go ?_;clear hK K)|refine Cont.go (by assumption) ?_|(refine cnd2 rfl (fun h=>?_) (fun h=>?_)<;>(try first|exact h.elim|obtain rfl:(_:Bool)=true:=h|obtain rfl:(_:Bool)=false:=h)<;>first|(exfalso;omega)|skip)|((first|refine AWp.reg hE hM ?_|refine AWp.regd hE hM ?_|refine AWp.ret ?_|refine AWp.skip ?_|refine AWp.exit ?_|(refine pk2 (fun h=>?_) (fun h=>?_)<;>(try first|exact h.elim|obtain rfl:(_:Bool)=true:=h|obtain rfl:(_:Bool)=false:=h))|refine zab (fun h=>?_) ?_|refine zac hM (c1) ?_|(refine hQ _ _ _ rfl ?_;clear hQ hR hE hM)|(refine hR _ _ (hQ _ _ _ rfl ?_);clear hQ hR hE hM)|(refine zaf ?_ ?_;focus first|omega|(refine zad ?_;(refine no_implicit_lambda% (st ?_);try with_reducible exact True.intro);done)))<;>try (refine no_implicit_lambda% (st ?_);try with_reducible exact True.intro)))
  all_goals simp[signals,hr]
 |true =>
  rw[hr]at c1
  refine zae (F:=cd124) (hH.has _ _ rfl) (Nat.le_of_ble_eq_true rfl) fun w0 M Q hM hQ hR=>?_;have hE:=hH.callable;dsimp only[cd124,qm,ql,qf,qi,qb,qc,qp,qv,qN,qT,qF,qt]at hQ ⊢
  repeat' (first|refine zaa [0,1,2,3,4,5,7,11,13,14,15,16,22,46] fun K hK=>?_|refine AWp.block ?_|(refine hK.go ?_;clear hK K)|refine Cont.go (by assumption) ?_|(refine cnd2 rfl (fun h=>?_) (fun h=>?_)<;>(try first|exact h.elim|obtain rfl:(_:Bool)=true:=h|obtain rfl:(_:Bool)=false:=h)<;>first|(exfalso;omega)|skip)|((first|refine AWp.reg hE hM ?_|refine AWp.regd hE hM ?_|refine AWp.ret ?_|refine AWp.skip ?_|refine AWp.exit ?_|(refine pk2 (fun h=>?_) (fun h=>?_)<;>(try first|exact h.elim|obtain rfl:(_:Bool)=true:=h|obtain rfl:(_:Bool)=false:=h))|refine zab (fun h=>?_) ?_|refine zac hM (c1) ?_|(refine hQ _ _ _ rfl ?_;clear hQ hR hE hM)|(refine hR _ _ (hQ _ _ _ rfl ?_);clear hQ hR hE hM)|(refine zaf ?_ ?_;focus first|omega|(refine zad ?_;(refine no_implicit_lambda% (st ?_);try with_reducible exact True.intro);done)))<;>try simp -dsimp -implicitDefEqProofs (disch:=omega) only[go_sem,reduceIte,↓reduceIte,Nat.reduceEqDiff,Nat.reduceLT,Nat.reduceLeDiff,Nat.reduceAdd,Nat.reduceSub,Nat.reduceMul,Int.reduceToNat,Int.reduceLT,Int.reduceLE,Int.reduceEq,Int.reduceNeg,Int.reduceNe,reduceCtorEq,hs,ht]))
  refine zah (ι:=Nat×(List Bool)) [3,4,5,13,14,15] (fun zz=>[(15,.n zz.1)]) (fun zz=>[(2,.cells (zz.2.map AV.b) true)]) (fun zz=>zz.1≤p.signals.length∧(zz.2.length=300)∧(zjo sec zz.2 (p.signals.drop zz.1)=zjo sec (List.replicate 300 false) p.signals)) (fun zz=>p.signals.length-zz.1) (0,List.replicate 300 false) ⟨Nat.zero_le _,(by first|rfl|assumption|omega|(simp;done)|(simp;omega)|grind),(by first|rfl|assumption|omega|(simp;done)|(simp;omega)|grind)⟩ (by (try dsimp only);(refine no_implicit_lambda% (st ?_);try with_reducible exact True.intro)<;>first|omega|(simp;done)) (by (try dsimp only);(refine no_implicit_lambda% (st ?_);try with_reducible exact True.intro)<;>first|omega|(simp;done)) ?_;rintro ⟨k,a⟩ ⟨hk,hp,hg⟩;(try dsimp only at hk hp hg ⊢);rcases Nat.lt_or_ge k p.signals.length with hlt|hge
  ·rw[zap hlt]at hg
   rw[zjo]at hg
   have c2:=zlq hH sec hs (nth p.signals k).sec
   have hb:=hs3 (nth p.signals k).sec.toNat
   cases hth:zcN sec (nth p.signals k).sec with
   |false =>
    rw[hth]at c2
    rw[show zdu sec a (nth p.signals k)=true by simp[zdu,hth]]at hg
    repeat' (first|refine zaa [0,1,2,3,4,5,7,11,13,14,15,16,22,46] fun K hK=>?_|refine AWp.block ?_|(refine hK.go ?_;clear hK K)|refine Cont.go (by assumption) ?_|(refine cnd2 rfl (fun h=>?_) (fun h=>?_)<;>(try first|exact h.elim|obtain rfl:(_:Bool)=true:=h|obtain rfl:(_:Bool)=false:=h)<;>first|(exfalso;omega)|skip)|((first|refine AWp.reg hE hM ?_|refine AWp.regd hE hM ?_|refine AWp.ret ?_|refine AWp.skip ?_|refine AWp.exit ?_|(refine pk2 (fun h=>?_) (fun h=>?_)<;>(try first|exact h.elim|obtain rfl:(_:Bool)=true:=h|obtain rfl:(_:Bool)=false:=h))|refine zab (fun h=>?_) ?_|refine zac hM (c2) ?_|(refine hQ _ _ _ rfl ?_;clear hQ hR hE hM)|(refine hR _ _ (hQ _ _ _ rfl ?_);clear hQ hR hE hM)|(refine zaf ?_ ?_;focus first|omega|(refine zad ?_;(refine no_implicit_lambda% (st ?_);try with_reducible exact True.intro);done)))<;>try simp -dsimp -implicitDefEqProofs (disch:=omega) only[go_sem,reduceIte,↓reduceIte,Nat.reduceEqDiff,Nat.reduceLT,Nat.reduceLeDiff,Nat.reduceAdd,Nat.reduceSub,Nat.reduceMul,Int.reduceToNat,Int.reduceLT,Int.reduceLE,Int.reduceEq,Int.reduceNeg,Int.reduceNe,reduceCtorEq,hp,hs,ht]))
    all_goals simp only[signals,hr,←hg,Bool.and_false,Bool.not_true,Bool.false_and]
   |true =>
    rw[hth]at c2
    have h0:0≤(nth p.signals k).sec∧(nth p.signals k).sec≤99:=by simp only[zcN,Bool.and_eq_true,decide_eq_true_eq]at hth;omega
    repeat' (first|refine zaa [0,1,2,3,4,5,7,11,13,14,15,16,22,46] fun K hK=>?_|refine AWp.block ?_|(refine hK.go ?_;clear hK K)|refine Cont.go (by assumption) ?_|(refine cnd2 rfl (fun h=>?_) (fun h=>?_)<;>(try first|exact h.elim|obtain rfl:(_:Bool)=true:=h|obtain rfl:(_:Bool)=false:=h)<;>first|(exfalso;omega)|skip)|((first|refine AWp.reg hE hM ?_|refine AWp.regd hE hM ?_|refine AWp.ret ?_|refine AWp.skip ?_|refine AWp.exit ?_|(refine pk2 (fun h=>?_) (fun h=>?_)<;>(try first|exact h.elim|obtain rfl:(_:Bool)=true:=h|obtain rfl:(_:Bool)=false:=h))|refine zab (fun h=>?_) ?_|refine zac hM (c2) ?_|(refine hQ _ _ _ rfl ?_;clear hQ hR hE hM)|(refine hR _ _ (hQ _ _ _ rfl ?_);clear hQ hR hE hM)|(refine zaf ?_ ?_;focus first|omega|(refine zad ?_;(refine no_implicit_lambda% (st ?_);try with_reducible exact True.intro);done)))<;>try simp -dsimp -implicitDefEqProofs (disch:=omega) only[go_sem,reduceIte,↓reduceIte,Nat.reduceEqDiff,Nat.reduceLT,Nat.reduceLeDiff,Nat.reduceAdd,Nat.reduceSub,Nat.reduceMul,Int.reduceToNat,Int.reduceLT,Int.reduceLE,Int.reduceEq,Int.reduceNeg,Int.reduceNe,reduceCtorEq,hp,hs,ht]))
    ·rw[show zdu sec a (nth p.signals k)=true by simp[zdu,zgu,hth, *]]at hg
     simp only[signals,hr,←hg,Bool.and_false,Bool.not_true,Bool.false_and]
    ·rw[show zdu sec a (nth p.signals k)=true by simp[zdu,zgu,hth, *]]at hg
     simp only[signals,hr,←hg,Bool.and_false,Bool.not_true,Bool.false_and]
    ·rw[show zdu sec a (nth p.signals k)=true by simp[zdu,zgu,hth, *]]at hg
     simp only[signals,hr,←hg,Bool.and_false,Bool.not_true,Bool.false_and]
    ·rw[show zdu sec a (nth p.signals k)=false by simp[zdu,zgu,hth, *]]at hg
     refine ⟨(k+1,a.set (zgu (nth p.signals k)) true),by (try dsimp only);omega,⟨by (try dsimp only);omega,by (try dsimp only);simp[hp],hg⟩, ?_⟩;(try dsimp only);(first|omega|(simp;done)|(simp;omega)|((refine no_implicit_lambda% (st ?_);try with_reducible exact True.intro);done)|(simp[List.map_set, *];done)|(simp[List.map_set, *];rfl)|((refine no_implicit_lambda% (st ?_);try with_reducible exact True.intro);simp[List.map_set, *];done)|((try (refine no_implicit_lambda% (st ?_);try with_reducible exact True.intro));(repeat' refine And.intro ?_ ?_)<;>first|omega|rfl|(simp;done)|(simp;omega)|(simp;rfl)|(simp[List.map_set, *];done)|(simp[List.map_set, *];rfl)))
  ·rw[List.drop_eq_nil_of_le hge,zjo]at hg
   repeat' (first|refine zaa [0,1,2,3,4,5,7,11,13,14,15,16,22,46] fun K hK=>?_|refine AWp.block ?_|(refine hK.go ?_;clear hK K)|refine Cont.go (by assumption) ?_|(refine cnd2 rfl (fun h=>?_) (fun h=>?_)<;>(try first|exact h.elim|obtain rfl:(_:Bool)=true:=h|obtain rfl:(_:Bool)=false:=h)<;>first|(exfalso;omega)|skip)|((first|refine AWp.reg hE hM ?_|refine AWp.regd hE hM ?_|refine AWp.ret ?_|refine AWp.skip ?_|refine AWp.exit ?_|(refine pk2 (fun h=>?_) (fun h=>?_)<;>(try first|exact h.elim|obtain rfl:(_:Bool)=true:=h|obtain rfl:(_:Bool)=false:=h))|refine zab (fun h=>?_) ?_|(refine hQ _ _ _ rfl ?_;clear hQ hR hE hM)|(refine hR _ _ (hQ _ _ _ rfl ?_);clear hQ hR hE hM)|(refine zaf ?_ ?_;focus first|omega|(refine zad ?_;(refine no_implicit_lambda% (st ?_);try with_reducible exact True.intro);done)))<;>try simp -dsimp -implicitDefEqProofs (disch:=omega) only[go_sem,reduceIte,↓reduceIte,Nat.reduceEqDiff,Nat.reduceLT,Nat.reduceLeDiff,Nat.reduceAdd,Nat.reduceSub,Nat.reduceMul,Int.reduceToNat,Int.reduceLT,Int.reduceLE,Int.reduceEq,Int.reduceNeg,Int.reduceNe,reduceCtorEq,hp]))
   all_goals simp only[signals,hr,←hg,Bool.and_self]
end Go.Lev
namespace Go.Lev
open Go.Eng
set_option maxRecDepth 10000
set_option maxHeartbeats 4000000
variable {P:Program} {inv:Nat→Option Nat}
def zm3 (sec:List Int):List Bool→List Int→Bool
 |_,[]=>true
 |m,x::r=>!(!zcN sec x||nth m x.toNat)&&zm3 sec (m.set x.toNat true) r
def zoE (pts:List Pnt) (pr:Option Int) (f:Flk):Bool:=!(pts.find? fun x=>decide (x.id=f.pnt)).isSome||((match pr with|some y=>decide (f.pnt≤y)|none=>false)||(!decide (f.lie=1)&&!decide (f.lie=2)))
def flkG (pts:List Pnt):Option Int→List Flk→Bool
 |_,[]=>true
 |pr,f::r=>!zoE pts pr f&&flkG pts (some f.pnt) r
def zkE (p:Pln) (r:Rte):Bool:=(p.signals.find? fun x=>decide (x.id=r.entry)).isSome&&(!(!decide (r.exit=0)&&(!(p.signals.find? fun x=>decide (x.id=r.exit)).isSome||decide (r.exit=r.entry)))&&!(decide (r.exit=0)&&decide (0<(r.over.length:Int))))
def zfv (r:Rte):Bool:=!decide ((r.path.length:Int)<1)&&(!decide (6<(r.path.length:Int))&&(!decide (2<(r.over.length:Int))&&!decide (3<(r.flanks.length:Int))))
def zgg (r:Rte):Bool:=!decide (r.timer<1)&&!decide (9<r.timer)
def ziu (p:Pln) (r:Rte) (sec:List Int):Bool:=zm3 sec ((List.replicate 100 false).set ((p.signals.find? fun x=>decide (x.id=r.entry)).getD Sgn.z).sec.toNat true) (r.path++r.over)
def zf5 (p:Pln) (r:Rte) (sec:List Int):Bool:=zkE p r&&(zfv r&&(zgg r&&(ziu p r sec&&flkG p.points none r.flanks)))
def lst (l:List Int):List AV:=[.sl 1 (l.map ze6)]
theorem find_mem {α:Type} {q:α→Bool} {l:List α} {x:α} (h:l.find? q=some x):x∈l:=List.mem_of_find?_eq_some h
theorem route_pc (hH:HasAll P inv) (hI:HasIds P inv) (p:Pln) (r:Rte) (h1:p.signals.length≤1000000000) (h2:p.points.length≤1000000000) (hf:r.flanks.length≤9223372036854775807) (hpa:r.path.length≤9223372036854775807) (hov:r.over.length≤9223372036854775807) (sec:List Int) (hs:sec.length=100) (hsig:∀ x∈p.signals,0≤x.sec∧x.sec≤99):PC P inv 126 [.agg p.c,.agg r.c,.agg (sec.map AV.n)] (·=.b (zf5 p r sec)):=by
 have c1:=zlW hH hI p.signals h1 r.entry
 have c2:=zlW hH hI p.signals h1 r.exit
 have ht:(sec.map AV.n).take 100=sec.map AV.n:=List.take_of_length_le (by simp[hs])
 have he:0≤((p.signals.find? fun x=>decide (x.id=r.entry)).getD Sgn.z).sec∧((p.signals.find? fun x=>decide (x.id=r.entry)).getD Sgn.z).sec≤99:=by
  cases ha:(p.signals.find? fun x=>decide (x.id=r.entry)) with
  |none=>simp[Sgn.z]
  |some x=>exact hsig x (find_mem ha)
 have hr:zf5 p r sec=(zkE p r&&(zfv r&&(zgg r&&(ziu p r sec&&flkG p.points none r.flanks)))):=rfl
 revert hr
 generalize zf5 p r sec=ans
 unfold ziu zkE
 revert c1 c2 he
 generalize (p.signals.find? fun x=>decide (x.id=r.entry)).isSome=ia
 generalize (p.signals.find? fun x=>decide (x.id=r.entry)).getD Sgn.z=e
 generalize (p.signals.find? fun x=>decide (x.id=r.exit)).isSome=ib
 generalize (p.signals.find? fun x=>decide (x.id=r.exit)).getD Sgn.z=e'
 intro c1 c2 he hr
 refine zae (F:=cd126) (hH.has _ _ rfl) (Nat.le_of_ble_eq_true rfl) fun w0 M Q hM hQ hR=>?_;have hE:=hH.callable;dsimp only[cd126,qm,ql,qf,qi,qb,qc,qp,qv,qN,qT,qF,qt]at hQ ⊢
 repeat' (first|(refine zaa [0,1,2,3,4,5,6,7,8,10,11,13,15,16,17,19,36,62,79,93,94,95,96,99,100,101,102,113,119,120,121,122,161] fun K hK=>cnd2 rfl (fun h=>?_) (fun h=>?_)<;>(try first|exact h.elim|obtain rfl:(_:Bool)=true:=h|obtain rfl:(_:Bool)=false:=h)<;>first|(exfalso;omega)|skip)|refine AWp.block ?_|(refine hK.go ?_;clear hK K)|refine Cont.go (by assumption) ?_|(refine cnd2 rfl (fun h=>?_) (fun h=>?_)<;>(try first|exact h.elim|obtain rfl:(_:Bool)=true:=h|obtain rfl:(_:Bool)=false:=h)<;>first|(exfalso;omega)|skip)|((first|refine zaa [0,1,2,3,4,5,6,7,8,10,11,13,15,16,17,19,36,62,79,93,94,95,96,99,100,101,102,113,119,120,121,122,161] fun K hK=>AWp.reg hE hM ?_|refine zaa [0,1,2,3,4,5,6,7,8,10,11,13,15,16,17,19,36,62,79,93,94,95,96,99,100,101,102,113,119,120,121,122,161] fun K hK=>AWp.regd hE hM ?_|refine AWp.reg hE hM ?_|refine AWp.regd hE hM ?_|refine AWp.ret ?_|refine AWp.skip ?_|refine AWp.exit ?_|(refine pk2 (fun h=>?_) (fun h=>?_)<;>(try first|exact h.elim|obtain rfl:(_:Bool)=true:=h|obtain rfl:(_:Bool)=false:=h))|refine zab (fun h=>?_) ?_|refine zac hM (c1) ?_|refine zac hM (c2) ?_|(refine hQ _ _ _ rfl ?_;clear hQ hR hE hM)|(refine hR _ _ (hQ _ _ _ rfl ?_);clear hQ hR hE hM)|(refine zaf ?_ ?_;focus first|omega|(refine zad ?_;(refine no_implicit_lambda% (st ?_);try with_reducible exact True.intro);done)))<;>try simp -dsimp -implicitDefEqProofs (disch:=omega) only[go_sem,reduceIte,↓reduceIte,Nat.reduceEqDiff,Nat.reduceLT,Nat.reduceLeDiff,Nat.reduceAdd,Nat.reduceSub,Nat.reduceMul,Int.reduceToNat,Int.reduceLT,Int.reduceLE,Int.reduceEq,Int.reduceNeg,Int.reduceNe,reduceCtorEq,ht]))
 refine AWp.mid [0,1,2,3,4,5,6,7] (ans=(zm3 sec ((List.replicate 100 false).set e.sec.toNat true) (r.path++r.over)&&flkG p.points none r.flanks)) ?_ fun hr=>?_
 ·repeat' (first|refine zaa [0,1,2,3,4,5,6,7,8,10,11,13,15,16,17,19,36,62,79,93,94,95,96,99,100,101,102,113,119,120,121,122,161] fun K hK=>?_|refine AWp.block ?_|(refine hK.go ?_;clear hK K)|refine Cont.go (by assumption) ?_|(refine cnd2 rfl (fun h=>?_) (fun h=>?_)<;>(try first|exact h.elim|obtain rfl:(_:Bool)=true:=h|obtain rfl:(_:Bool)=false:=h)<;>first|(exfalso;omega)|skip)|((first|refine AWp.reg hE hM ?_|refine AWp.regd hE hM ?_|refine AWp.ret ?_|refine AWp.skip ?_|refine AWp.exit ?_|(refine pk2 (fun h=>?_) (fun h=>?_)<;>(try first|exact h.elim|obtain rfl:(_:Bool)=true:=h|obtain rfl:(_:Bool)=false:=h))|refine zab (fun h=>?_) ?_|(refine hQ _ _ _ rfl ?_;clear hQ hR hE hM)|(refine hR _ _ (hQ _ _ _ rfl ?_);clear hQ hR hE hM)|(refine zaf ?_ ?_;focus first|omega|(refine zad ?_;(refine no_implicit_lambda% (st ?_);try with_reducible exact True.intro);done)))<;>try (refine no_implicit_lambda% (st ?_);try with_reducible exact True.intro)))
  all_goals (first|(grind[zfv,zgg])|(refine ⟨?_, ?_⟩<;>first|(grind[zfv,zgg])|(simp;done)))
 ·clear c1 c2
  repeat' (first|refine zaa [0,1,2,3,4,5,6,7,8,10,11,13,15,16,17,19,36,62,79,93,94,95,96,99,100,101,102,113,119,120,121,122,161] fun K hK=>?_|refine AWp.block ?_|(refine hK.go ?_;clear hK K)|refine Cont.go (by assumption) ?_|(refine cnd2 rfl (fun h=>?_) (fun h=>?_)<;>(try first|exact h.elim|obtain rfl:(_:Bool)=true:=h|obtain rfl:(_:Bool)=false:=h)<;>first|(exfalso;omega)|skip)|((first|refine AWp.reg hE hM ?_|refine AWp.regd hE hM ?_|refine AWp.ret ?_|refine AWp.skip ?_|refine AWp.exit ?_|(refine pk2 (fun h=>?_) (fun h=>?_)<;>(try first|exact h.elim|obtain rfl:(_:Bool)=true:=h|obtain rfl:(_:Bool)=false:=h))|refine zab (fun h=>?_) ?_|(refine hQ _ _ _ rfl ?_;clear hQ hR hE hM)|(refine hR _ _ (hQ _ _ _ rfl ?_);clear hQ hR hE hM)|(refine zaf ?_ ?_;focus first|omega|(refine zad ?_;(refine no_implicit_lambda% (st ?_);try with_reducible exact True.intro);done)))<;>try simp -dsimp -implicitDefEqProofs (disch:=omega) only[go_sem,reduceIte,↓reduceIte,Nat.reduceEqDiff,Nat.reduceLT,Nat.reduceLeDiff,Nat.reduceAdd,Nat.reduceSub,Nat.reduceMul,Int.reduceToNat,Int.reduceLT,Int.reduceLE,Int.reduceEq,Int.reduceNeg,Int.reduceNe,reduceCtorEq,ht]))
  obtain ⟨L,hL⟩:∃ L,L=[r.path,r.over]:=⟨_,rfl⟩
  have hLl:L.length=2:=by rw[hL];rfl
  have hLf:L.flatten=r.path++r.over:=by rw[hL];simp
  rw[show [[AV.sl 1 (r.path.map ze6)],[AV.sl 1 (r.over.map ze6)]]=L.map lst by rw[hL];rfl]
  rw[←hLf]at hr
  have hLb:∀ i,i<2→(nth L i).length≤9223372036854775807:=by
   intro i hi
   rcases (show i=0∨i=1 by omega) with rfl|rfl<;>(rw[hL];simpa [nth] using by omega)
  clear hL hLf
  rw[show (List.replicate 100 (AV.b false)).set e.sec.toNat (AV.b true)=((List.replicate 100 false).set e.sec.toNat true).map AV.b by rw[List.map_set,List.map_replicate]]
  have hp0:((List.replicate 100 false).set e.sec.toNat true).length=100:=by simp
  revert hr hp0
  generalize (List.replicate 100 false).set e.sec.toNat true=m0
  intro hr hp0
  refine zah (ι:=Nat×(List Bool)) [3,4,5,6,11,93,94,95] (fun zz=>[(95,.n zz.1)]) (fun zz=>[(5,.cells (zz.2.map AV.b) true)]) (fun zz=>zz.1≤2∧(zz.2.length=100)∧(zm3 sec zz.2 (L.drop zz.1).flatten=zm3 sec m0 L.flatten)) (fun zz=>2-zz.1) (0,m0) ⟨Nat.zero_le _,(by first|rfl|assumption|omega|(simp;done)|(simp;omega)|grind),(by first|rfl|assumption|omega|(simp;done)|(simp;omega)|grind)⟩ (by (try dsimp only);(refine no_implicit_lambda% (st ?_);try with_reducible exact True.intro)<;>first|omega|(simp;done)) (by (try dsimp only);(refine no_implicit_lambda% (st ?_);try with_reducible exact True.intro)<;>first|omega|(simp;done)) ?_;rintro ⟨k,m⟩ ⟨hk,hp,hg⟩;(try dsimp only at hk hp hg ⊢);rcases Nat.lt_or_ge k 2 with hlt|hge
  ·rw[zap (by omega),List.flatten_cons]at hg
   have hb:=hLb k hlt
   repeat' (first|refine zaa [0,1,2,3,4,5,6,7,8,10,11,13,15,16,17,19,36,62,79,93,94,95,96,99,100,101,102,113,119,120,121,122,161] fun K hK=>?_|refine AWp.block ?_|(refine hK.go ?_;clear hK K)|refine Cont.go (by assumption) ?_|(refine cnd2 rfl (fun h=>?_) (fun h=>?_)<;>(try first|exact h.elim|obtain rfl:(_:Bool)=true:=h|obtain rfl:(_:Bool)=false:=h)<;>first|(exfalso;omega)|skip)|((first|refine AWp.reg hE hM ?_|refine AWp.regd hE hM ?_|refine AWp.ret ?_|refine AWp.skip ?_|refine AWp.exit ?_|(refine pk2 (fun h=>?_) (fun h=>?_)<;>(try first|exact h.elim|obtain rfl:(_:Bool)=true:=h|obtain rfl:(_:Bool)=false:=h))|refine zab (fun h=>?_) ?_|(refine hQ _ _ _ rfl ?_;clear hQ hR hE hM)|(refine hR _ _ (hQ _ _ _ rfl ?_);clear hQ hR hE hM)|(refine zaf ?_ ?_;focus first|omega|(refine zad ?_;(refine no_implicit_lambda% (st ?_);try with_reducible exact True.intro);done)))<;>try simp -dsimp -implicitDefEqProofs (disch:=omega) only[go_sem,reduceIte,↓reduceIte,Nat.reduceEqDiff,Nat.reduceLT,Nat.reduceLeDiff,Nat.reduceAdd,Nat.reduceSub,Nat.reduceMul,Int.reduceToNat,Int.reduceLT,Int.reduceLE,Int.reduceEq,Int.reduceNeg,Int.reduceNe,reduceCtorEq,ht,lst]))
   refine zah (ι:=Nat×(List Bool)) [3,4,5,6,11,93,94,95,99,100,101] (fun zz=>[(101,.n zz.1)]) (fun zz=>[(5,.cells (zz.2.map AV.b) true)]) (fun zz=>zz.1≤(nth L k).length∧(zz.2.length=100)∧(zm3 sec zz.2 ((nth L k).drop zz.1++(L.drop (k+1)).flatten)=zm3 sec m0 L.flatten)) (fun zz=>(nth L k).length-zz.1) (0,m) ⟨Nat.zero_le _,(by first|rfl|assumption|omega|(simp;done)|(simp;omega)|grind),(by first|rfl|assumption|omega|(simp;done)|(simp;omega)|grind)⟩ (by (try dsimp only);(refine no_implicit_lambda% (st ?_);try with_reducible exact True.intro)<;>first|omega|(simp;done)) (by (try dsimp only);(refine no_implicit_lambda% (st ?_);try with_reducible exact True.intro)<;>first|omega|(simp;done)) ?_;rintro ⟨i,q⟩ ⟨hk,hq,hf'⟩;(try dsimp only at hk hq hf' ⊢);rcases Nat.lt_or_ge i (nth L k).length with hlt|hge
   ·rw[zap (by assumption),List.cons_append,zm3]at hf'
    have c2:=zlq hH sec hs (nth (nth L k) i)
    cases hth:zcN sec (nth (nth L k) i) with
    |false =>
     rw[hth]at c2 hf'
     repeat' (first|refine zaa [0,1,2,3,4,5,6,7,8,10,11,13,15,16,17,19,36,62,79,93,94,95,96,99,100,101,102,113,119,120,121,122,161] fun K hK=>?_|refine AWp.block ?_|(refine hK.go ?_;clear hK K)|refine Cont.go (by assumption) ?_|(refine cnd2 rfl (fun h=>?_) (fun h=>?_)<;>(try first|exact h.elim|obtain rfl:(_:Bool)=true:=h|obtain rfl:(_:Bool)=false:=h)<;>first|(exfalso;omega)|skip)|((first|refine AWp.reg hE hM ?_|refine AWp.regd hE hM ?_|refine AWp.ret ?_|refine AWp.skip ?_|refine AWp.exit ?_|(refine pk2 (fun h=>?_) (fun h=>?_)<;>(try first|exact h.elim|obtain rfl:(_:Bool)=true:=h|obtain rfl:(_:Bool)=false:=h))|refine zab (fun h=>?_) ?_|refine zac hM (c2) ?_|(refine hQ _ _ _ rfl ?_;clear hQ hR hE hM)|(refine hR _ _ (hQ _ _ _ rfl ?_);clear hQ hR hE hM)|(refine zaf ?_ ?_;focus first|omega|(refine zad ?_;(refine no_implicit_lambda% (st ?_);try with_reducible exact True.intro);done)))<;>try simp -dsimp -implicitDefEqProofs (disch:=omega) only[go_sem,reduceIte,↓reduceIte,Nat.reduceEqDiff,Nat.reduceLT,Nat.reduceLeDiff,Nat.reduceAdd,Nat.reduceSub,Nat.reduceMul,Int.reduceToNat,Int.reduceLT,Int.reduceLE,Int.reduceEq,Int.reduceNeg,Int.reduceNe,reduceCtorEq,hs,ht,hq]))
     all_goals (rw[hr,←hf'];simp)
    |true =>
     rw[hth]at c2 hf'
     have h0:0≤nth (nth L k) i∧nth (nth L k) i≤99:=by simp only[zcN,Bool.and_eq_true,decide_eq_true_eq]at hth;omega
     repeat' (first|refine zaa [0,1,2,3,4,5,6,7,8,10,11,13,15,16,17,19,36,62,79,93,94,95,96,99,100,101,102,113,119,120,121,122,161] fun K hK=>?_|refine AWp.block ?_|(refine hK.go ?_;clear hK K)|refine Cont.go (by assumption) ?_|(refine cnd2 rfl (fun h=>?_) (fun h=>?_)<;>(try first|exact h.elim|obtain rfl:(_:Bool)=true:=h|obtain rfl:(_:Bool)=false:=h)<;>first|(exfalso;omega)|skip)|((first|refine AWp.reg hE hM ?_|refine AWp.regd hE hM ?_|refine AWp.ret ?_|refine AWp.skip ?_|refine AWp.exit ?_|(refine pk2 (fun h=>?_) (fun h=>?_)<;>(try first|exact h.elim|obtain rfl:(_:Bool)=true:=h|obtain rfl:(_:Bool)=false:=h))|refine zab (fun h=>?_) ?_|refine zac hM (c2) ?_|(refine hQ _ _ _ rfl ?_;clear hQ hR hE hM)|(refine hR _ _ (hQ _ _ _ rfl ?_);clear hQ hR hE hM)|(refine zaf ?_ ?_;focus first|omega|(refine zad ?_;(refine no_implicit_lambda% (st ?_);try with_reducible exact True.intro);done)))<;>try simp -dsimp -implicitDefEqProofs (disch:=omega) only[go_sem,reduceIte,↓reduceIte,Nat.reduceEqDiff,Nat.reduceLT,Nat.reduceLeDiff,Nat.reduceAdd,Nat.reduceSub,Nat.reduceMul,Int.reduceToNat,Int.reduceLT,Int.reduceLE,Int.reduceEq,Int.reduceNeg,Int.reduceNe,reduceCtorEq,hs,ht,hq]))
     ·rw[hr,←hf'];simp[*]
     ·refine ⟨(i+1,q.set (nth (nth L k) i).toNat true),by (try dsimp only);omega,⟨by (try dsimp only);omega,by (try dsimp only);simp[hq],by (try dsimp only);rw[←hf'];simp[*]⟩, ?_⟩;(try dsimp only);(first|omega|(simp;done)|(simp;omega)|((refine no_implicit_lambda% (st ?_);try with_reducible exact True.intro);done)|(simp[List.map_set, *];done)|(simp[List.map_set, *];rfl)|((refine no_implicit_lambda% (st ?_);try with_reducible exact True.intro);simp[List.map_set, *];done)|((try (refine no_implicit_lambda% (st ?_);try with_reducible exact True.intro));(repeat' refine And.intro ?_ ?_)<;>first|omega|rfl|(simp;done)|(simp;omega)|(simp;rfl)|(simp[List.map_set, *];done)|(simp[List.map_set, *];rfl)))
   ·rw[List.drop_eq_nil_of_le (by assumption),List.nil_append]at hf'
    repeat' (first|refine zaa [0,1,2,3,4,5,6,7,8,10,11,13,15,16,17,19,36,62,79,93,94,95,96,99,100,101,102,113,119,120,121,122,161] fun K hK=>?_|refine AWp.block ?_|(refine hK.go ?_;clear hK K)|refine Cont.go (by assumption) ?_|(refine cnd2 rfl (fun h=>?_) (fun h=>?_)<;>(try first|exact h.elim|obtain rfl:(_:Bool)=true:=h|obtain rfl:(_:Bool)=false:=h)<;>first|(exfalso;omega)|skip)|((first|refine AWp.reg hE hM ?_|refine AWp.regd hE hM ?_|refine AWp.ret ?_|refine AWp.skip ?_|refine AWp.exit ?_|(refine pk2 (fun h=>?_) (fun h=>?_)<;>(try first|exact h.elim|obtain rfl:(_:Bool)=true:=h|obtain rfl:(_:Bool)=false:=h))|refine zab (fun h=>?_) ?_|(refine hQ _ _ _ rfl ?_;clear hQ hR hE hM)|(refine hR _ _ (hQ _ _ _ rfl ?_);clear hQ hR hE hM)|(refine zaf ?_ ?_;focus first|omega|(refine zad ?_;(refine no_implicit_lambda% (st ?_);try with_reducible exact True.intro);done)))<;>try simp -dsimp -implicitDefEqProofs (disch:=omega) only[go_sem,reduceIte,↓reduceIte,Nat.reduceEqDiff,Nat.reduceLT,Nat.reduceLeDiff,Nat.reduceAdd,Nat.reduceSub,Nat.reduceMul,Int.reduceToNat,Int.reduceLT,Int.reduceLE,Int.reduceEq,Int.reduceNeg,Int.reduceNe,reduceCtorEq,hs,ht,hq]))
    refine ⟨(k+1,q),by (try dsimp only);omega,⟨by (try dsimp only);omega,hq,hf'⟩, ?_⟩;(try dsimp only);(first|omega|(simp;done)|(simp;omega)|((refine no_implicit_lambda% (st ?_);try with_reducible exact True.intro);done)|(simp[List.map_set, *];done)|(simp[List.map_set, *];rfl)|((refine no_implicit_lambda% (st ?_);try with_reducible exact True.intro);simp[List.map_set, *];done)|((try (refine no_implicit_lambda% (st ?_);try with_reducible exact True.intro));(repeat' refine And.intro ?_ ?_)<;>first|omega|rfl|(simp;done)|(simp;omega)|(simp;rfl)|(simp[List.map_set, *];done)|(simp[List.map_set, *];rfl)))
  ·rw[List.drop_eq_nil_of_le (by omega)]at hg
   rw[←hg]at hr
   clear hg hp0
   simp only[List.flatten_nil,zm3,Bool.true_and]at hr
   repeat' (first|refine zaa [0,1,2,3,4,5,6,7,8,10,11,13,15,16,17,19,36,62,79,93,94,95,96,99,100,101,102,113,119,120,121,122,161] fun K hK=>?_|refine AWp.block ?_|(refine hK.go ?_;clear hK K)|refine Cont.go (by assumption) ?_|(refine cnd2 rfl (fun h=>?_) (fun h=>?_)<;>(try first|exact h.elim|obtain rfl:(_:Bool)=true:=h|obtain rfl:(_:Bool)=false:=h)<;>first|(exfalso;omega)|skip)|((first|refine AWp.reg hE hM ?_|refine AWp.regd hE hM ?_|refine AWp.ret ?_|refine AWp.skip ?_|refine AWp.exit ?_|(refine pk2 (fun h=>?_) (fun h=>?_)<;>(try first|exact h.elim|obtain rfl:(_:Bool)=true:=h|obtain rfl:(_:Bool)=false:=h))|refine zab (fun h=>?_) ?_|(refine hQ _ _ _ rfl ?_;clear hQ hR hE hM)|(refine hR _ _ (hQ _ _ _ rfl ?_);clear hQ hR hE hM)|(refine zaf ?_ ?_;focus first|omega|(refine zad ?_;(refine no_implicit_lambda% (st ?_);try with_reducible exact True.intro);done)))<;>try (refine no_implicit_lambda% (st ?_);try with_reducible exact True.intro)))
   refine zah (ι:=Nat) [3,4,6,119,120,121] (fun zz=>[(121,.n zz)]) (fun zz=>[]) (fun zz=>zz≤r.flanks.length∧(flkG p.points (zjF (r.flanks.map Flk.pnt) zz) (r.flanks.drop zz)=flkG p.points none r.flanks)) (fun zz=>r.flanks.length-zz) (0) ⟨Nat.zero_le _,(by first|rfl|assumption|omega|(simp;done)|(simp;omega)|grind)⟩ (by (try dsimp only);(refine no_implicit_lambda% (st ?_);try with_reducible exact True.intro)<;>first|omega|(simp;done)) (by (try dsimp only);(refine no_implicit_lambda% (st ?_);try with_reducible exact True.intro)<;>first|omega|(simp;done)) ?_;rintro k2 ⟨hk,hf'⟩;(try dsimp only at hk hf' ⊢);rcases Nat.lt_or_ge k2 r.flanks.length with hlt|hge
   ·rw[zap (by assumption),flkG,←zjE Flk.pnt (by assumption)]at hf'
    have c3:=find_pnt hH hI p.points h2 (nth r.flanks k2).pnt
    unfold zoE at hf'
    rw[znL Flk.pnt (by assumption)]at hf'
    revert c3 hf'
    generalize (p.points.find? fun x=>decide (x.id=(nth r.flanks k2).pnt)).isSome=ic
    generalize (p.points.find? fun x=>decide (x.id=(nth r.flanks k2).pnt)).getD Pnt.z=y
    intro hf' c3
    repeat' (first|refine zaa [0,1,2,3,4,5,6,7,8,10,11,13,15,16,17,19,36,62,79,93,94,95,96,99,100,101,102,113,119,120,121,122,161] fun K hK=>?_|refine AWp.block ?_|(refine hK.go ?_;clear hK K)|refine Cont.go (by assumption) ?_|(refine cnd2 rfl (fun h=>?_) (fun h=>?_)<;>(try first|exact h.elim|obtain rfl:(_:Bool)=true:=h|obtain rfl:(_:Bool)=false:=h)<;>first|(exfalso;omega)|skip)|((first|refine AWp.reg hE hM ?_|refine AWp.regd hE hM ?_|refine AWp.ret ?_|refine AWp.skip ?_|refine AWp.exit ?_|(refine pk2 (fun h=>?_) (fun h=>?_)<;>(try first|exact h.elim|obtain rfl:(_:Bool)=true:=h|obtain rfl:(_:Bool)=false:=h))|refine zab (fun h=>?_) ?_|refine zac hM (c3) ?_|(refine hQ _ _ _ rfl ?_;clear hQ hR hE hM)|(refine hR _ _ (hQ _ _ _ rfl ?_);clear hQ hR hE hM)|(refine zaf ?_ ?_;focus first|omega|(refine zad ?_;(refine no_implicit_lambda% (st ?_);try with_reducible exact True.intro);done)))<;>try (refine no_implicit_lambda% (st ?_);try with_reducible exact True.intro)))
    all_goals first|(first|rw[if_pos (show 0<(k2:Int) by assumption)]at hf'|rw[if_neg (show ¬0<(k2:Int) by assumption)]at hf'|skip)
    all_goals (clear c3;(try clear hQ hR);(try generalize (nth r.flanks ((k2:Int)-1).toNat).pnt=y0 at *))
    all_goals first|(rw[hr,←hf'];clear hr hf';simp[*];done)|(refine ⟨k2+1,by omega,⟨by omega, ?_⟩,by omega⟩;rw[←hf'];clear hf' hr;simp[*];done)
   ·rw[List.drop_eq_nil_of_le (by assumption),flkG]at hf'
    repeat' (first|refine zaa [0,1,2,3,4,5,6,7,8,10,11,13,15,16,17,19,36,62,79,93,94,95,96,99,100,101,102,113,119,120,121,122,161] fun K hK=>?_|refine AWp.block ?_|(refine hK.go ?_;clear hK K)|refine Cont.go (by assumption) ?_|(refine cnd2 rfl (fun h=>?_) (fun h=>?_)<;>(try first|exact h.elim|obtain rfl:(_:Bool)=true:=h|obtain rfl:(_:Bool)=false:=h)<;>first|(exfalso;omega)|skip)|((first|refine AWp.reg hE hM ?_|refine AWp.regd hE hM ?_|refine AWp.ret ?_|refine AWp.skip ?_|refine AWp.exit ?_|(refine pk2 (fun h=>?_) (fun h=>?_)<;>(try first|exact h.elim|obtain rfl:(_:Bool)=true:=h|obtain rfl:(_:Bool)=false:=h))|refine zab (fun h=>?_) ?_|(refine hQ _ _ _ rfl ?_;clear hQ hR hE hM)|(refine hR _ _ (hQ _ _ _ rfl ?_);clear hQ hR hE hM)|(refine zaf ?_ ?_;focus first|omega|(refine zad ?_;(refine no_implicit_lambda% (st ?_);try with_reducible exact True.intro);done)))<;>try (refine no_implicit_lambda% (st ?_);try with_reducible exact True.intro)))
    rw[hr,←hf']
end Go.Lev
namespace Go.Lev
open Go.Eng
theorem at_self {l:List Section} (hs:zfl l) {i:Nat} (hi:i<l.length):zkr (nth l i).id 0 l=i:=by
 rcases zfi (nth l i).id l 0 with ⟨_,h⟩|⟨p,h1,h2,h3⟩
 ·exact absurd rfl (h i hi)
 ·rcases Nat.lt_trichotomy p i with h|h|h
  ·have:=hs p i h hi;omega
  ·omega
  ·have:=hs i p h h1;omega
def Pw (x s:Section):Prop:=x.id<s.id∧(s.pt≠0→x.pt≠s.pt)
def One (s:Section):Prop:=1≤s.id∧s.id≤99∧zb9 s=true
def zpb (l:List Section) (s:Section) (e:Nat):Prop :=
 ((nth s.ends e).to=0∧(nth s.ends e).ed=0)∨(¬((nth s.ends e).to=s.id∧(nth s.ends e).ed=(e:Int))∧0≤(nth s.ends e).ed∧∃ s'∈l,s'.id=(nth s.ends e).to∧(nth s.ends e).ed<s'.ends.length∧nth s'.ends (nth s.ends e).ed.toNat=⟨s.id,e⟩)
structure MayP (l:List Section):Prop where
 len:l.length≤16
 one:∀ s∈l,One s
 pw:l.Pairwise Pw
 join:∀ s∈l,∀ e,e<s.ends.length→zpb l s e
theorem znI (l:List Section):zjB [] l=true↔(∀ s∈l,One s)∧l.Pairwise Pw:=by
 have h2:=zgO l l 0 rfl
 rw[List.take_zero]at h2
 rw[h2]
 constructor
 ·intro h
  refine ⟨fun s hs=>?_, ?_⟩
  ·obtain ⟨i,hi,rfl⟩:=List.mem_iff_getElem.1 hs
   have:=h i (Nat.zero_le _) hi
   rw[←zaV hi]
   exact ⟨this.1,this.2.1,this.2.2.1⟩
  ·rw[List.pairwise_iff_getElem]
   intro i j hi hj hij
   rw[←zaV hi,←zaV hj]
   exact (h j (Nat.zero_le _) hj).2.2.2 i hij
 ·rintro ⟨h1,h3⟩ j _ hj
  have h4:=h1 _ (zal hj)
  refine ⟨h4.1,h4.2.1,h4.2.2,fun i hi=>?_⟩
  rw[List.pairwise_iff_getElem]at h3
  have:=h3 i j (by omega) hj hi
  rw[←zaV (show i<l.length by omega),←zaV hj]at this
  exact this
theorem zmg {l:List Section} (hs:zfl l) {s:Section} (h:s∈l):nth l (zkr s.id 0 l).toNat=s∧0≤zkr s.id 0 l:=by
 obtain ⟨i,hi,rfl⟩:=List.mem_iff_getElem.1 h
 rw[←zaV hi,at_self hs hi]
 simp
theorem zjC {l:List Section} (hs:zfl l) (s:Section) (e:Nat):zgP l s e=true↔zpb l s e:=by
 unfold zgP zpb
 by_cases h0:(nth s.ends e).to=0∧(nth s.ends e).ed=0
 ·simp[h0]
 ·rw[if_neg h0]
  simp only[h0,false_or]
  constructor
  ·intro h
   split at h
   ·cases h
   ·rename_i hn
    simp only[not_or]at hn
    obtain ⟨h1,h2,h3,h4⟩:=hn
    simp only[Bool.and_eq_true,decide_eq_true_eq]at h
    rcases zfi (nth s.ends e).to l 0 with ⟨g1,_⟩|⟨p,g1,g2,g3⟩
    ·omega
    ·have ep:(zkr (nth s.ends e).to 0 l).toNat=p:=by rw[g2];omega
     rw[ep]at h h3
     refine ⟨h4,by omega,nth l p,zal g1,g3,by omega, ?_⟩
     rw[zog]
     exact h
  ·rintro ⟨h4,h2,s',hs',h5,h6,h7⟩
   obtain ⟨g1,g2⟩:=zmg hs hs'
   rw[h5]at g1 g2
   rw[if_neg (by rw[g1];omega),g1,h7]
   simp
theorem zlF (l:List Section):zja l=true↔MayP l:=by
 constructor
 ·intro h
  have hs:=zmh h
  have h':=h
  unfold zja znH at h'
  simp only[Bool.and_eq_true,Bool.not_eq_true',decide_eq_false_iff_not,List.all_eq_true,znI]at h'
  obtain ⟨⟨h1,h2,h3⟩,h4⟩:=h'
  refine ⟨by omega,h2,h3,fun s hsm e he=>?_⟩
  exact (zjC hs s e).1 ((zeD _ _ _).1 (h4 s hsm) e (Nat.zero_le _) (by omega))
 ·rintro ⟨h1,h2,h3,h4⟩
  have hm1:=(znI l).2 ⟨h2,h3⟩
  have hs:=zgs ((zgm l).trans hm1)
  unfold zja znH
  simp only[Bool.and_eq_true,Bool.not_eq_true',decide_eq_false_iff_not,List.all_eq_true]
  exact ⟨⟨by omega,hm1⟩,fun s hsm=>(zeD _ _ _).2 fun e _ he=>(zjC hs s e).2 (h4 s hsm e (by omega))⟩
theorem zjw:∀ (l:List Int) (p:Option Int),zdi p l=true↔(∀ x∈l,1≤x∧x≤99)∧l.Pairwise (· < ·)∧∀ y,p=some y→∀ x∈l,y<x
 |[],p=>by simp[zdi]
 |x::r,p=>by
  simp only[zdi,Bool.and_eq_true,Bool.not_eq_true',decide_eq_false_iff_not,zjw r (some x),List.pairwise_cons,List.mem_cons,forall_eq_or_imp,Option.some.injEq,forall_eq']
  constructor
  ·rintro ⟨⟨⟨h1,h2⟩,h3⟩,h4,h5,h6⟩
   refine ⟨⟨by omega,h4⟩,⟨h6,h5⟩,fun y hy=>?_⟩
   subst hy
   simp only[decide_eq_false_iff_not]at h3
   exact ⟨by omega,fun z hz=>by have:=h6 z hz;omega⟩
  ·rintro ⟨⟨h1,h4⟩,⟨h6,h5⟩,h7⟩
   refine ⟨⟨⟨by omega,by omega⟩, ?_⟩,h4,h5,h6⟩
   cases p with
   |none=>rfl
   |some y=>simp only[decide_eq_false_iff_not];have:=(h7 y rfl).1;omega
theorem zeT (l:List Int) (most:Int):rise l most=true↔(∀ x∈l,1≤x∧x≤99)∧l.Pairwise (· < ·)∧(l.length:Int)≤most:=by
 simp only[rise,Bool.and_eq_true,zjw,decide_eq_true_eq]
 constructor
 ·rintro ⟨⟨h1,h2,_⟩,h3⟩;exact ⟨h1,h2,h3⟩
 ·rintro ⟨h1,h2,h3⟩;exact ⟨⟨h1,h2,fun y hy=>by cases hy⟩,h3⟩
theorem ziM {l:List Int} (h:l.Pairwise (· < ·)):l.Nodup:=h.imp fun {a b} hab=>by omega
theorem zk6 {α:Type} (f:α→Int):∀ {l:List α},(l.map f).Nodup→∀ {x:α},x∈l→l.find? (fun y=>decide (f y=f x))=some x
 |[],_,x,h=>by cases h
 |y::r,hn,x,h=>by
  simp only[List.map_cons,List.nodup_cons]at hn
  simp only[List.find?_cons]
  rcases List.mem_cons.1 h with rfl|h
  ·simp
  ·have:f y≠f x:=fun e=>hn.1 (e▸List.mem_map_of_mem h)
   simp only[this,decide_false]
   exact zk6 f hn.2 h
theorem zdN {α:Type} {f:α→Int} {l:List α} {n:Int} {x:α} (h:l.find? (fun y=>decide (f y=n))=some x):x∈l∧f x=n:=by
 refine ⟨List.mem_of_find?_eq_some h, ?_⟩
 have:=List.find?_some h
 simpa using this
theorem zoG {α:Type} {f:α→Int} {l:List α} {n:Int} (h:l.find? (fun y=>decide (f y=n))=none):∀ x∈l,f x≠n:=by
 simpa using h
theorem zg4 {α:Type} [Inhabited α] (n:Nat) (x:α) (i:Nat) (h:i<n):nth (List.replicate n x) i=x:=by
 rw[zaV (by simpa using h)];simp
theorem zdn:∀ (l:List Section) (a:List Int) (i:Nat),(∀ s∈l,0≤s.id∧s.id.toNat<a.length)→(∀ s∈l,s.id.toNat≠i)→nth (zhp a l) i=nth a i
 |[],a,i,_,_=>rfl
 |s::r,a,i,h,hi=>by
  rw[zhp,zdn r _ i (fun t ht=>by have:=h t (by simp[ht]);simpa using this) (fun t ht=>hi t (by simp[ht])),zbD _ _ _ _ (h s (by simp)).2,if_neg (fun e=>hi s (by simp) e.symm)]
theorem zl0:∀ (l:List Section) (a:List Int),(∀ s∈l,0≤s.id∧s.id.toNat<a.length)→(l.map Section.id).Nodup→∀ s∈l,nth (zhp a l) s.id.toNat=s.ends.length
 |[],_,_,_,s,h=>by cases h
 |t::r,a,h,hn,s,hs=>by
  simp only[List.map_cons,List.nodup_cons]at hn
  have h':∀ u∈r,0≤u.id∧u.id.toNat<(a.set t.id.toNat t.ends.length).length:=fun u hu=>by have:=h u (by simp[hu]);simpa using this
  rw[zhp]
  rcases List.mem_cons.1 hs with rfl|hs
  ·rw[zdn r _ _ h' fun u hu e=>hn.1 ?_,zbD _ _ _ _ (h s (by simp)).2,if_pos rfl]
   have h1:=(h s (by simp)).1
   have h2:=(h u (by simp[hu])).1
   rw[show s.id=u.id by omega]
   exact List.mem_map_of_mem hu
  ·exact zl0 r _ h' hn.2 s hs
def zco (p:Pln):Bool:=(!decide (p.version<1)&&(!decide (2147483647<p.version)&&(!decide (p.parent<0)&&(!decide (p.version≤p.parent)&&zja p.sections))))&&(points p&&(signals p (ends p.sections)&&(rise (p.routes.map Rte.id) 16&&p.routes.all fun r=>zf5 p r (ends p.sections))))
theorem zci {l:List Section} (h:zja l=true):SecOK l:=fun s hs=>by
 have h1:=(zlF l).1 h
 obtain ⟨h2,h3,h4⟩:=h1.one s hs
 unfold zb9 at h4
 refine ⟨h2,h3, ?_⟩
 split at h4<;>simp at h4<;>omega
theorem secIds {l:List Section} (h:zja l=true):(l.map Section.id).Pairwise (· < ·):=by
 rw[List.pairwise_map]
 exact ((zlF l).1 h).pw.imp fun {a b} hab=>hab.1
theorem zk7 {l:List Section} (h:zja l=true) {s:Section} (hs:s∈l):nth (ends l) s.id.toNat=s.ends.length:=by
 have h1:=zci h
 exact zl0 l _ (fun t ht=>by have:=h1 t ht;simp;omega) (ziM (secIds h)) s hs
theorem zne {l:List Section} (h:zja l=true) (n:Int):zcN (ends l) n=true↔∃ s∈l,s.id=n:=by
 have h1:=zci h
 simp only[zcN,Bool.and_eq_true,decide_eq_true_eq]
 constructor
 ·rintro ⟨⟨h2,h3⟩,h4⟩
  rcases Classical.em (∃ s∈l,s.id=n) with h5|h5
  ·exact h5
  ·exfalso
   rw[ends,zdn l _ _ (fun t ht=>by have:=h1 t ht;simp;omega) (fun s hs e=>h5 ⟨s,hs,by have:=h1 s hs;omega⟩),zg4 _ _ _ (by omega)]at h4
   omega
 ·rintro ⟨s,hs,rfl⟩
  have h2:=h1 s hs
  have h3:=((zlF l).1 h).one s hs
  rw[zk7 h hs]
  refine ⟨⟨by omega,by omega⟩, ?_⟩
  obtain ⟨_,_,h4⟩:=h3
  unfold zb9 at h4
  split at h4<;>simp at h4<;>omega
theorem ends_le {l:List Section} (h:zja l=true) (i:Nat):nth (ends l) i≤3:=by
 rcases Classical.em (∃ s∈l,s.id.toNat=i) with ⟨s,hs,rfl⟩|h5
 ·rw[zk7 h hs];have:=zci h s hs;omega
 ·have h1:=zci h
  rw[ends,zdn l _ _ (fun t ht=>by have:=h1 t ht;simp;omega) (fun s hs e=>h5 ⟨s,hs,e⟩)]
  rcases Nat.lt_or_ge i 100 with hi|hi
  ·rw[zg4 _ _ _ hi];omega
  ·simp[nth,hi]
theorem zgt (sec:List Int):∀ (l:List Sgn) (a:List Bool),zjo sec a l=true→∀ x∈l,zcN sec x.sec=true∧0≤x.ed∧x.ed<nth sec x.sec.toNat
 |[],_,_,x,h=>by cases h
 |y::r,a,h,x,hx=>by
  simp only[zjo,zdu,Bool.and_eq_true,Bool.not_eq_true',Bool.or_eq_false_iff,Bool.not_eq_false',decide_eq_false_iff_not]at h
  rcases List.mem_cons.1 hx with rfl|hx
  ·exact ⟨h.1.1,by omega,by omega⟩
  ·exact zgt sec r _ h.2 x hx
theorem zlL (sec:List Int):∀ (l:List Int) (m:List Bool),m.length=100→(zm3 sec m l=true↔(∀ x∈l,zcN sec x=true∧nth m x.toNat=false)∧l.Nodup)
 |[],m,_=>by simp[zm3]
 |x::r,m,hm=>by
  simp only[zm3,Bool.and_eq_true,Bool.not_eq_true',Bool.or_eq_false_iff,Bool.not_eq_false',zlL sec r (m.set x.toNat true) (by simpa using hm),List.mem_cons,forall_eq_or_imp,List.nodup_cons]
  constructor
  ·rintro ⟨⟨h1,h2⟩,h3,h4⟩
   have h0:0≤x∧x≤99:=by simp only[zcN,Bool.and_eq_true,decide_eq_true_eq]at h1;omega
   have hne:∀ y∈r,y≠x:=fun y hy e=>by
    have:=(h3 y hy).2
    rw[e,zbD _ _ _ _ (by omega),if_pos rfl]at this
    cases this
   refine ⟨⟨⟨h1,h2⟩,fun y hy=>⟨(h3 y hy).1, ?_⟩⟩,fun hx=>hne x hx rfl,h4⟩
   have h5:=h3 y hy
   have h6:0≤y∧y≤99:=by simp only[zcN,Bool.and_eq_true,decide_eq_true_eq]at h5;omega
   rw[zbD _ _ _ _ (by omega),if_neg (by have:=hne y hy;omega)]at h5
   exact h5.2
  ·rintro ⟨⟨⟨h1,h2⟩,h3⟩,h4,h5⟩
   have h0:0≤x∧x≤99:=by simp only[zcN,Bool.and_eq_true,decide_eq_true_eq]at h1;omega
   refine ⟨⟨h1,h2⟩,fun y hy=>⟨(h3 y hy).1, ?_⟩,h5⟩
   have h6:0≤y∧y≤99:=by have:=(h3 y hy).1;simp only[zcN,Bool.and_eq_true,decide_eq_true_eq]at this;omega
   rw[zbD _ _ _ _ (by omega),if_neg (fun e=>h4 (by rw[show x=y by omega];exact hy))]
   exact (h3 y hy).2
theorem zlU (pts:List Pnt):∀ (l:List Flk) (pr:Option Int),flkG pts pr l=true→∀ f∈l,(∃ x∈pts,x.id=f.pnt)∧(f.lie=1∨f.lie=2)
 |[],_,_,f,h=>by cases h
 |y::r,pr,h,f,hf=>by
  simp only[flkG,zoE,Bool.and_eq_true,Bool.not_eq_true',Bool.or_eq_false_iff,Bool.not_eq_false',Bool.and_eq_false_imp,decide_eq_false_iff_not,decide_eq_true_eq]at h
  rcases List.mem_cons.1 hf with rfl|hf
  ·obtain ⟨⟨h1,h2,h3⟩,_⟩:=h
   obtain ⟨x,hx⟩:=Option.isSome_iff_exists.1 h1
   refine ⟨⟨x,(zdN hx).1,(zdN hx).2⟩, ?_⟩
   rcases Classical.em (f.lie=1) with h4|h4
   ·exact .inl h4
   ·exact .inr (by have:=h3;simp[h4]at this;exact this)
  ·exact zlU pts r _ h.2 f hf
end Go.Lev
namespace Go.Lev
open Go.Eng
set_option maxRecDepth 10000
set_option maxHeartbeats 4000000
variable {P:Program} {inv:Nat→Option Nat}
def nextS (x:Section×Int) (e:Int):Join×Int:=if x.2=0 then (if e<0∨(x.1.ends.length:Int)≤e then (⟨0,0⟩,2) else (nth x.1.ends e.toNat,0)) else (⟨0,0⟩,x.2)
def zcw (l:List Section) (id e:Int):Join×Int:=nextS (rFind l id) e
def threeL:List Section:=[⟨1,0,[⟨2,0⟩,⟨0,0⟩]⟩,⟨2,5,[⟨1,0⟩,⟨3,0⟩,⟨3,1⟩]⟩,⟨3,0,[⟨2,1⟩,⟨2,2⟩]⟩]
end Go.Lev
namespace Go.Lev
open Go.Eng
set_option maxRecDepth 10000
set_option maxHeartbeats 4000000
variable {P:Program} {inv:Nat→Option Nat}
structure Sm (p:Pln):Prop where
 sec:p.sections.length≤1000000
 ends:∀ s∈p.sections,s.ends.length≤9223372036854775807
 pts:p.points.length≤1000000
 sgn:p.signals.length≤1000000
 rte:p.routes.length≤1000000
 rtes:∀ r∈p.routes,r.path.length≤9223372036854775807∧r.over.length≤9223372036854775807∧r.flanks.length≤9223372036854775807
theorem zoQ (hH:HasAll P inv) (l:List Section) (hl:l.length≤1000000000) (he:∀ s∈l,s.ends.length≤9223372036854775807):PC P inv 26 [.sl 3 (l.map Section.c)] (·=.n (zgQ l)):=check_eq l▸check_pc hH l hl he
def zbJ (p:Pln):Int:=if zco p=true then 0 else 8
theorem sgn_sec {p:Pln} (hm:zja p.sections=true) (h:signals p (ends p.sections)=true):∀ x∈p.signals,0≤x.sec∧x.sec≤99:=fun x hx=>by
 simp only[signals,Bool.and_eq_true]at h
 have:=(zgt _ _ _ h.2 x hx).1
 simp only[zcN,Bool.and_eq_true,decide_eq_true_eq]at this
 omega
theorem zfY (hH:HasAll P inv) (hI:HasIds P inv) (p:Pln) (hp:Sm p):PC P inv 95 [.agg p.c] (·=.n (zbJ p)):=by
 have hlr:=hp.rte
 have c0:=zoQ hH p.sections (Nat.le_trans hp.sec (by omega)) hp.ends
 cases hm:zja p.sections with
 |false =>
  rw[show zgQ p.sections=8 by simp[zgQ,hm]]at c0
  rw[show zbJ p=8 by simp[zbJ,zco,hm]]
  refine zae (F:=cd95) (hH.has _ _ rfl) (Nat.le_of_ble_eq_true rfl) fun w0 M Q hM hQ hR=>?_;have hE:=hH.callable;dsimp only[cd95,qm,ql,qf,qi,qb,qc,qp,qv,qN,qT,qF,qt]at hQ ⊢
  repeat' (first|refine zaa [0,1,2,3,5,31,49,51,52,53,54,61] fun K hK=>?_|refine AWp.block ?_|(refine hK.go ?_;clear hK K)|refine Cont.go (by assumption) ?_|(refine cnd2 rfl (fun h=>?_) (fun h=>?_)<;>(try first|exact h.elim|obtain rfl:(_:Bool)=true:=h|obtain rfl:(_:Bool)=false:=h)<;>first|(exfalso;omega)|skip)|((first|refine AWp.reg hE hM ?_|refine AWp.regd hE hM ?_|refine AWp.ret ?_|refine AWp.skip ?_|refine AWp.exit ?_|(refine pk2 (fun h=>?_) (fun h=>?_)<;>(try first|exact h.elim|obtain rfl:(_:Bool)=true:=h|obtain rfl:(_:Bool)=false:=h))|refine zab (fun h=>?_) ?_|refine zac hM (c0) ?_|(refine hQ _ _ _ rfl ?_;clear hQ hR hE hM)|(refine hR _ _ (hQ _ _ _ rfl ?_);clear hQ hR hE hM)|(refine zaf ?_ ?_;focus first|omega|(refine zad ?_;(refine no_implicit_lambda% (st ?_);try with_reducible exact True.intro);done)))<;>try (refine no_implicit_lambda% (st ?_);try with_reducible exact True.intro)))
  all_goals (first|rfl|omega)
 |true =>
  rw[show zgQ p.sections=0 by simp[zgQ,hm]]at c0
  have c1:=ends_pc hH p.sections (Nat.le_trans hp.sec (by omega)) (zci hm)
  have c2:=znM hH hI p (Nat.le_trans hp.sec (by omega)) (Nat.le_trans hp.pts (by omega)) (zci hm)
  have c3:=zmi hH hI p (Nat.le_trans hp.sgn (by omega)) (ends p.sections) (zlZ _) (ends_le hm)
  have c4:=zmn hH hI p.routes 16 (Nat.le_trans hp.rte (by omega))
  have hlen:=zlZ p.sections
  have ht:((ends p.sections).map AV.n).take 100=(ends p.sections).map AV.n:=List.take_of_length_le (by simp[hlen])
  have hov:ovl (List.replicate 100 (AV.i .i64 0)) 0 ((ends p.sections).map AV.n)=(ends p.sections).map AV.n:=by
   rw[zlI _ _ _ (by simp[hlen]),List.take_zero,List.nil_append,List.drop_eq_nil_of_le (by simp[hlen]),List.append_nil]
  cases hv:(points p&&(signals p (ends p.sections)&&rise (p.routes.map Rte.id) 16)) with
  |false =>
   rw[show zbJ p=8 by
    unfold zbJ
    rw[if_neg]
    intro h
    simp only[zco,Bool.and_eq_true]at h
    rw[h.2.1,h.2.2.1,h.2.2.2.1]at hv
    cases hv]
   refine zae (F:=cd95) (hH.has _ _ rfl) (Nat.le_of_ble_eq_true rfl) fun w0 M Q hM hQ hR=>?_;have hE:=hH.callable;dsimp only[cd95,qm,ql,qf,qi,qb,qc,qp,qv,qN,qT,qF,qt]at hQ ⊢
   repeat' (first|refine zaa [0,1,2,3,5,31,49,51,52,53,54,61] fun K hK=>?_|refine AWp.block ?_|(refine hK.go ?_;clear hK K)|refine Cont.go (by assumption) ?_|(refine cnd2 rfl (fun h=>?_) (fun h=>?_)<;>(try first|exact h.elim|obtain rfl:(_:Bool)=true:=h|obtain rfl:(_:Bool)=false:=h)<;>first|(exfalso;omega)|skip)|((first|refine AWp.reg hE hM ?_|refine AWp.regd hE hM ?_|refine AWp.ret ?_|refine AWp.skip ?_|refine AWp.exit ?_|(refine pk2 (fun h=>?_) (fun h=>?_)<;>(try first|exact h.elim|obtain rfl:(_:Bool)=true:=h|obtain rfl:(_:Bool)=false:=h))|refine zab (fun h=>?_) ?_|refine zac hM (c0) ?_|refine zac hM (c1) ?_|refine zac hM (c2) ?_|refine zac hM (c3) ?_|refine zac hM (c4) ?_|(refine hQ _ _ _ rfl ?_;clear hQ hR hE hM)|(refine hR _ _ (hQ _ _ _ rfl ?_);clear hQ hR hE hM)|(refine zaf ?_ ?_;focus first|omega|(refine zad ?_;(refine no_implicit_lambda% (st ?_);try with_reducible exact True.intro);done)))<;>try simp -dsimp -implicitDefEqProofs (disch:=omega) only[go_sem,reduceIte,↓reduceIte,Nat.reduceEqDiff,Nat.reduceLT,Nat.reduceLeDiff,Nat.reduceAdd,Nat.reduceSub,Nat.reduceMul,Int.reduceToNat,Int.reduceLT,Int.reduceLE,Int.reduceEq,Int.reduceNeg,Int.reduceNe,reduceCtorEq,hlen,ht,hov]))
   all_goals (first|rfl|omega|(simp_all;done))
  |true =>
   simp only[Bool.and_eq_true]at hv
   rw[hv.1]at c2
   rw[hv.2.1]at c3
   rw[hv.2.2]at c4
   have hsg:=sgn_sec hm hv.2.1
   have h0:zbJ p=if (decide (p.version<1)||(decide (2147483647<p.version)||(decide (p.parent<0)||decide (p.version≤p.parent))))=true then 8 else if (p.routes.all fun r=>zf5 p r (ends p.sections))=true then 0 else 8:=by
    simp only[zbJ,zco,hm,hv.1,hv.2.1,hv.2.2]
    cases decide (p.version<1)<;>cases decide (2147483647<p.version)<;>cases decide (p.parent<0)<;>cases decide (p.version≤p.parent)<;>simp
   refine zae (F:=cd95) (hH.has _ _ rfl) (Nat.le_of_ble_eq_true rfl) fun w0 M Q hM hQ hR=>?_;have hE:=hH.callable;dsimp only[cd95,qm,ql,qf,qi,qb,qc,qp,qv,qN,qT,qF,qt]at hQ ⊢
   repeat' (first|refine zaa [0,1,2,3,5,31,49,51,52,53,54,61] fun K hK=>?_|refine AWp.block ?_|(refine hK.go ?_;clear hK K)|refine Cont.go (by assumption) ?_|(refine cnd2 rfl (fun h=>?_) (fun h=>?_)<;>(try first|exact h.elim|obtain rfl:(_:Bool)=true:=h|obtain rfl:(_:Bool)=false:=h)<;>first|(exfalso;omega)|skip)|((first|refine AWp.reg hE hM ?_|refine AWp.regd hE hM ?_|refine AWp.ret ?_|refine AWp.skip ?_|refine AWp.exit ?_|(refine pk2 (fun h=>?_) (fun h=>?_)<;>(try first|exact h.elim|obtain rfl:(_:Bool)=true:=h|obtain rfl:(_:Bool)=false:=h))|refine zab (fun h=>?_) ?_|refine zac hM (c0) ?_|refine zac hM (c1) ?_|refine zac hM (c2) ?_|refine zac hM (c3) ?_|refine zac hM (c4) ?_|(refine hQ _ _ _ rfl ?_;clear hQ hR hE hM)|(refine hR _ _ (hQ _ _ _ rfl ?_);clear hQ hR hE hM)|(refine zaf ?_ ?_;focus first|omega|(refine zad ?_;(refine no_implicit_lambda% (st ?_);try with_reducible exact True.intro);done)))<;>try simp -dsimp -implicitDefEqProofs (disch:=omega) only[go_sem,reduceIte,↓reduceIte,Nat.reduceEqDiff,Nat.reduceLT,Nat.reduceLeDiff,Nat.reduceAdd,Nat.reduceSub,Nat.reduceMul,Int.reduceToNat,Int.reduceLT,Int.reduceLE,Int.reduceEq,Int.reduceNeg,Int.reduceNe,reduceCtorEq,hlen,ht,hov]))
   all_goals try (rw[h0,if_pos (by simp[*])];done)
   refine zah (ι:=Nat) [1,2,3,51,52,53] (fun zz=>[(53,.n zz)]) (fun zz=>[]) (fun zz=>zz≤p.routes.length∧(((p.routes.drop zz).all fun r=>zf5 p r (ends p.sections))=(p.routes.all fun r=>zf5 p r (ends p.sections)))) (fun zz=>p.routes.length-zz) (0) ⟨Nat.zero_le _,(by first|rfl|assumption|omega|(simp;done)|(simp;omega)|grind)⟩ (by (try dsimp only);(refine no_implicit_lambda% (st ?_);try with_reducible exact True.intro)<;>first|omega|(simp;done)) (by (try dsimp only);(refine no_implicit_lambda% (st ?_);try with_reducible exact True.intro)<;>first|omega|(simp;done)) ?_;rintro k ⟨hk,hg⟩;(try dsimp only at hk hg ⊢);rcases Nat.lt_or_ge k p.routes.length with hlt|hge
   ·rw[zap hlt]at hg
    rw[List.all_cons]at hg
    repeat' (first|refine zaa [0,1,2,3,5,31,49,51,52,53,54,61] fun K hK=>?_|refine AWp.block ?_|(refine hK.go ?_;clear hK K)|refine Cont.go (by assumption) ?_|(refine cnd2 rfl (fun h=>?_) (fun h=>?_)<;>(try first|exact h.elim|obtain rfl:(_:Bool)=true:=h|obtain rfl:(_:Bool)=false:=h)<;>first|(exfalso;omega)|skip)|((first|refine AWp.reg hE hM ?_|refine AWp.regd hE hM ?_|refine AWp.ret ?_|refine AWp.skip ?_|refine AWp.exit ?_|(refine pk2 (fun h=>?_) (fun h=>?_)<;>(try first|exact h.elim|obtain rfl:(_:Bool)=true:=h|obtain rfl:(_:Bool)=false:=h))|refine zab (fun h=>?_) ?_|refine zac hM (route_pc hH hI p (nth p.routes k) (Nat.le_trans hp.sgn (by omega)) (Nat.le_trans hp.pts (by omega)) (Nat.le_trans (hp.rtes _ (zal hlt)).2.2 (by omega)) (Nat.le_trans (hp.rtes _ (zal hlt)).1 (by omega)) (Nat.le_trans (hp.rtes _ (zal hlt)).2.1 (by omega)) _ hlen hsg) ?_|(refine hQ _ _ _ rfl ?_;clear hQ hR hE hM)|(refine hR _ _ (hQ _ _ _ rfl ?_);clear hQ hR hE hM)|(refine zaf ?_ ?_;focus first|omega|(refine zad ?_;(refine no_implicit_lambda% (st ?_);try with_reducible exact True.intro);done)))<;>try simp -dsimp -implicitDefEqProofs (disch:=omega) only[go_sem,reduceIte,↓reduceIte,Nat.reduceEqDiff,Nat.reduceLT,Nat.reduceLeDiff,Nat.reduceAdd,Nat.reduceSub,Nat.reduceMul,Int.reduceToNat,Int.reduceLT,Int.reduceLE,Int.reduceEq,Int.reduceNeg,Int.reduceNe,reduceCtorEq,hlen,ht,hov]))
    ·rw[h0,←hg];simp[*]
    ·refine ⟨(k+1),by (try dsimp only);omega,⟨by (try dsimp only);omega,by (try dsimp only);rw[←hg];simp[*]⟩, ?_⟩;(try dsimp only);(first|omega|(simp;done)|(simp;omega)|((refine no_implicit_lambda% (st ?_);try with_reducible exact True.intro);done)|(simp[List.map_set, *];done)|(simp[List.map_set, *];rfl)|((refine no_implicit_lambda% (st ?_);try with_reducible exact True.intro);simp[List.map_set, *];done)|((try (refine no_implicit_lambda% (st ?_);try with_reducible exact True.intro));(repeat' refine And.intro ?_ ?_)<;>first|omega|rfl|(simp;done)|(simp;omega)|(simp;rfl)|(simp[List.map_set, *];done)|(simp[List.map_set, *];rfl)))
   ·rw[List.drop_eq_nil_of_le hge]at hg
    repeat' (first|refine zaa [0,1,2,3,5,31,49,51,52,53,54,61] fun K hK=>?_|refine AWp.block ?_|(refine hK.go ?_;clear hK K)|refine Cont.go (by assumption) ?_|(refine cnd2 rfl (fun h=>?_) (fun h=>?_)<;>(try first|exact h.elim|obtain rfl:(_:Bool)=true:=h|obtain rfl:(_:Bool)=false:=h)<;>first|(exfalso;omega)|skip)|((first|refine AWp.reg hE hM ?_|refine AWp.regd hE hM ?_|refine AWp.ret ?_|refine AWp.skip ?_|refine AWp.exit ?_|(refine pk2 (fun h=>?_) (fun h=>?_)<;>(try first|exact h.elim|obtain rfl:(_:Bool)=true:=h|obtain rfl:(_:Bool)=false:=h))|refine zab (fun h=>?_) ?_|(refine hQ _ _ _ rfl ?_;clear hQ hR hE hM)|(refine hR _ _ (hQ _ _ _ rfl ?_);clear hQ hR hE hM)|(refine zaf ?_ ?_;focus first|omega|(refine zad ?_;(refine no_implicit_lambda% (st ?_);try with_reducible exact True.intro);done)))<;>try (refine no_implicit_lambda% (st ?_);try with_reducible exact True.intro)))
    rw[h0,←hg,if_neg (by simp[*])];rfl
theorem zdr (hH:HasAll P inv) (l:List Int) (h:l.length≤1000000):PC P inv 108 [.sl 1 (l.map ze6)] (·=.sl 1 (l.map ze6)):=by
 refine zae (F:=cd108) (hH.has _ _ rfl) (Nat.le_of_ble_eq_true rfl) fun w0 M Q hM hQ hR=>?_;have hE:=hH.callable;dsimp only[cd108,qm,ql,qf,qi,qb,qc,qp,qv,qN,qT,qF,qt]at hQ ⊢
 repeat' (first|refine zaa [0,2,4] fun K hK=>?_|refine AWp.block ?_|(refine hK.go ?_;clear hK K)|refine Cont.go (by assumption) ?_|(refine cnd2 rfl (fun h=>?_) (fun h=>?_)<;>(try first|exact h.elim|obtain rfl:(_:Bool)=true:=h|obtain rfl:(_:Bool)=false:=h)<;>first|(exfalso;omega)|skip)|((first|refine AWp.reg hE hM ?_|refine AWp.regd hE hM ?_|refine AWp.ret ?_|refine AWp.skip ?_|refine AWp.exit ?_|(refine pk2 (fun h=>?_) (fun h=>?_)<;>(try first|exact h.elim|obtain rfl:(_:Bool)=true:=h|obtain rfl:(_:Bool)=false:=h))|refine zab (fun h=>?_) ?_|(refine hQ _ _ _ rfl ?_;clear hQ hR hE hM)|(refine hR _ _ (hQ _ _ _ rfl ?_);clear hQ hR hE hM)|(refine zaf ?_ ?_;focus first|omega|(refine zad ?_;(refine no_implicit_lambda% (st ?_);try with_reducible exact True.intro);done)))<;>try (refine no_implicit_lambda% (st ?_);try with_reducible exact True.intro)))
 ·have h0:l.length=0:=by assumption
  obtain rfl:=List.length_eq_zero_iff.1 h0
  rfl
def zeS (p:Pln) (n:Int):Rte×Int:=if zco p=true then (match p.routes.find? fun x=>decide (x.id=n) with|some r=>(r,0)|none=>(Rte.z,6)) else (Rte.z,8)
end Go.Lev
