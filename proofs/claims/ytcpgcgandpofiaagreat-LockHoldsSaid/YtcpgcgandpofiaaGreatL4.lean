/-
  A part of the engine that walks the functions' codes, and of the functions' contracts. Conditions: those that each theorem names.
-/
import Derived.Test.YtcpgcgandpofiaaGreatL3
import Derived.IntWalk
set_option linter.unusedSimpArgs false
set_option linter.unusedVariables false
set_option linter.unusedSectionVars false
namespace Go.Eng
section
variable {φ:List (Nat×AV)} {σ:List (Nat×AO)} {K:AV→Prop} {tk:Tok K}
def cpT (x:AV) (K:AV→Prop) (_:Tok K):Prop:=match x with|.s0 _=>K (.i .i64 0)|_=>False
theorem av_cap (x:Opd):avT φ σ (.cap x) K tk=cpT (ev φ x) K .mk:=rfl
theorem cp_0 (sz:Nat):cpT (.s0 sz) K tk=K (.i .i64 0):=rfl
theorem av_look (m k:Opd):avT φ σ (.look m k) K tk=zcp (zki σ (ev φ m) (ev φ k)) K:=rfl
def lkR (o:Option AO) (a:Int):Option AV:=match o with|some (.imap kvs)=>some (.i .i64 (zfm kvs a))|_=>none
theorem lk_m (l:Nat) (a:Int):zki σ (.mp l) (.i .i64 a)=lkR (zaF σ l) a:=by unfold zki lkR;rfl
theorem lkR_m (kvs:List (Int×Int)) (a:Int):lkR (some (.imap kvs)) a=some (.i .i64 (zfm kvs a)):=rfl
theorem s0_01 (sz sz':Nat) (k:IntKind) (h:Int):scT σ (.s0 sz') none (some (.i k h)) none sz K tk=ob (h=0) (K (.s0 sz)):=rfl
theorem s0_00 (sz sz':Nat):scT σ (.s0 sz') none none none sz K tk=K (.s0 sz):=rfl
theorem zeb:∀ (xs ys:List AV),zag (xs++ys)=mx (zag xs) (zag ys)
 |[],ys=>by
  simp only[List.nil_append,zag]
  unfold mx
  split<;>omega
 |x::xs,ys=>by
  simp only[List.cons_append,zag,zeb xs ys]
  unfold mx
  split<;>split<;>(try split)<;>(try split)<;>omega
attribute [go_sem] zeb av_cap cp_0 av_look lk_m lkR_m s0_01 s0_00
end
end Go.Eng
namespace Go.Lev
open Go.Eng
set_option maxRecDepth 10000
set_option maxHeartbeats 4000000
variable {P:Program} {inv:Nat→Option Nat}
def zbf (s:Section) (f t:Int):Int×Int:=if zb9 s=true then (if rLie s f t<0 then (0,2) else (rLie s f t,0)) else (0,8)
def zgo (s:Section) (f t:Int):Int×Int:=if zcn s=true then (if f<0∨2<f∨t<0∨2<t∨zcM s.pt f t=0 then (0,2) else ((zcM s.pt f t).tmod 3,0)) else (0,8)
def outR (s:Section) (f lie:Int):Int×Int:=if zcn s=true then (if f<0∨2<f∨lie<0∨2<lie then (0,2) else if (¬s.pt=0∧lie=0)∨outL s f lie<0 then (0,2) else (outL s f lie,0)) else (0,8)
def routP (s:Section) (f lie:Int):Nat→Nat→Int×Int
 |_,0=>(0,2)
 |k,m+1=>if rLie s f k=lie then (k,0) else routP s f lie (k+1) m
def rout (s:Section) (f lie:Int):Int×Int:=if zb9 s=true then (if lie<0 then (0,2) else routP s f lie 0 s.ends.length) else (0,8)
def two (x:Int×Int):AV:=.tup [.n x.1,.n x.2]
theorem zkt (hH:HasAll P inv) (s:Section) (f t:Int):PC P inv 16 [.agg s.c,.n f,.n t] (·=.tup [.n (zgo s f t).1,.n (zgo s f t).2]) :=
 (zmb hH s f t).mono fun r e=>by (rw[e];unfold zin zgo;(repeat' split)<;>rfl)
theorem znp (s:Section):zcn s=zb9 s:=by
 unfold zcn zb9 zbW
 by_cases h:s.pt=0
 ·simp[h]
 ·simp[h]
theorem zmc (s:Section) (f t:Int):zgo s f t=zbf s f t:=by
 unfold zgo zbf
 rw[znp]
 split
 ·by_cases hf:0≤f∧f≤2
  ·by_cases ht:0≤t∧t≤2
   ·rcases zde hf with rfl|rfl|rfl<;>rcases zde ht with rfl|rfl|rfl<;>by_cases hp:s.pt=0<;>simp[zcM,rLie,hp]
   ·rw[if_pos (by omega),if_pos (by unfold rLie;(repeat' split)<;>omega)]
  ·rw[if_pos (by omega),if_pos (by unfold rLie;(repeat' split)<;>omega)]
 ·rfl
theorem zb4 (hH:HasAll P inv) (s:Section) (f t:Int):PC P inv 16 [.agg s.c,.n f,.n t] (·=.tup [.n (zbf s f t).1,.n (zbf s f t).2]):=zmc s f t▸zkt hH s f t
end Go.Lev
namespace Go.Lev
open Go.Eng
set_option maxRecDepth 10000
set_option maxHeartbeats 4000000
variable {P:Program} {inv:Nat→Option Nat}
def sigG (n:Int):Sgn→List Sgn→Sgn
 |o,[]=>o
 |o,x::r=>if x.id=n then sigG n x r else sigG n o r
def sig (p:Pln) (n:Int):Sgn:=sigG n Sgn.z p.signals
theorem zjm (hH:HasAll P inv) (p:Pln) (hp:Sm p) (n:Int):PC P inv 100 [.agg p.c,.n n] (·=.agg (sig p n).c):=by
 have hl:=hp.sgn
 refine zae (F:=cd100) (hH.has _ _ rfl) (Nat.le_of_ble_eq_true rfl) fun w0 M Q hM hQ hR=>?_;have hE:=hH.callable;dsimp only[cd100,qm,ql,qf,qi,qb,qc,qp,qv,qN,qT,qF,qt]at hQ ⊢
 repeat' (first|refine zaa [0,1,2,4,6,8,9,10,11,17] fun K hK=>?_|refine AWp.block ?_|(refine hK.go ?_;clear hK K)|refine Cont.go (by assumption) ?_|(refine cnd2 rfl (fun h=>?_) (fun h=>?_)<;>(try first|exact h.elim|obtain rfl:(_:Bool)=true:=h|obtain rfl:(_:Bool)=false:=h)<;>first|(exfalso;omega)|skip)|((first|refine AWp.reg hE hM ?_|refine AWp.regd hE hM ?_|refine AWp.ret ?_|refine AWp.skip ?_|refine AWp.exit ?_|(refine pk2 (fun h=>?_) (fun h=>?_)<;>(try first|exact h.elim|obtain rfl:(_:Bool)=true:=h|obtain rfl:(_:Bool)=false:=h))|refine zab (fun h=>?_) ?_|(refine hQ _ _ _ rfl ?_;clear hQ hR hE hM)|(refine hR _ _ (hQ _ _ _ rfl ?_);clear hQ hR hE hM)|(refine zaf ?_ ?_;focus first|omega|(refine zad ?_;(refine no_implicit_lambda% (st ?_);try with_reducible exact True.intro);done)))<;>try (refine no_implicit_lambda% (st ?_);try with_reducible exact True.intro)))
 refine zah (ι:=Nat×Sgn) [1,4,8,9,10] (fun zz=>[(10,.n zz.1)]) (fun zz=>[(1,.cells zz.2.c true)]) (fun zz=>zz.1≤p.signals.length∧(sigG n zz.2 (p.signals.drop zz.1)=sig p n)) (fun zz=>p.signals.length-zz.1) (0,(⟨0,0,0⟩:Sgn)) ⟨Nat.zero_le _,(by first|rfl|assumption|omega|(simp;done)|(simp;omega)|grind)⟩ (by (try dsimp only);(refine no_implicit_lambda% (st ?_);try with_reducible exact True.intro)<;>first|omega|(simp;done)) (by (try dsimp only);(refine no_implicit_lambda% (st ?_);try with_reducible exact True.intro)<;>first|omega|(simp;done)) ?_;rintro ⟨k,o⟩ ⟨hk,hg⟩;(try dsimp only at hk hg ⊢);rcases Nat.lt_or_ge k p.signals.length with hlt|hge
 ·rw[zap hlt]at hg
  rw[sigG]at hg
  repeat' (first|refine zaa [0,1,2,4,6,8,9,10,11,17] fun K hK=>?_|refine AWp.block ?_|(refine hK.go ?_;clear hK K)|refine Cont.go (by assumption) ?_|(refine cnd2 rfl (fun h=>?_) (fun h=>?_)<;>(try first|exact h.elim|obtain rfl:(_:Bool)=true:=h|obtain rfl:(_:Bool)=false:=h)<;>first|(exfalso;omega)|skip)|((first|refine AWp.reg hE hM ?_|refine AWp.regd hE hM ?_|refine AWp.ret ?_|refine AWp.skip ?_|refine AWp.exit ?_|(refine pk2 (fun h=>?_) (fun h=>?_)<;>(try first|exact h.elim|obtain rfl:(_:Bool)=true:=h|obtain rfl:(_:Bool)=false:=h))|refine zab (fun h=>?_) ?_|(refine hQ _ _ _ rfl ?_;clear hQ hR hE hM)|(refine hR _ _ (hQ _ _ _ rfl ?_);clear hQ hR hE hM)|(refine zaf ?_ ?_;focus first|omega|(refine zad ?_;(refine no_implicit_lambda% (st ?_);try with_reducible exact True.intro);done)))<;>try (refine no_implicit_lambda% (st ?_);try with_reducible exact True.intro)))
  ·rw[if_pos (by assumption)]at hg
   refine ⟨(k+1,nth p.signals k),by (try dsimp only);omega,⟨by (try dsimp only);omega,hg⟩, ?_⟩;(try dsimp only);(first|omega|(simp;done)|(simp;omega)|((refine no_implicit_lambda% (st ?_);try with_reducible exact True.intro);done)|(simp[List.map_set, *];done)|(simp[List.map_set, *];rfl)|((refine no_implicit_lambda% (st ?_);try with_reducible exact True.intro);simp[List.map_set, *];done)|((try (refine no_implicit_lambda% (st ?_);try with_reducible exact True.intro));(repeat' refine And.intro ?_ ?_)<;>first|omega|rfl|(simp;done)|(simp;omega)|(simp;rfl)|(simp[List.map_set, *];done)|(simp[List.map_set, *];rfl)))
  ·rw[if_neg (by assumption)]at hg
   refine ⟨(k+1,o),by (try dsimp only);omega,⟨by (try dsimp only);omega,hg⟩, ?_⟩;(try dsimp only);(first|omega|(simp;done)|(simp;omega)|((refine no_implicit_lambda% (st ?_);try with_reducible exact True.intro);done)|(simp[List.map_set, *];done)|(simp[List.map_set, *];rfl)|((refine no_implicit_lambda% (st ?_);try with_reducible exact True.intro);simp[List.map_set, *];done)|((try (refine no_implicit_lambda% (st ?_);try with_reducible exact True.intro));(repeat' refine And.intro ?_ ?_)<;>first|omega|rfl|(simp;done)|(simp;omega)|(simp;rfl)|(simp[List.map_set, *];done)|(simp[List.map_set, *];rfl)))
 ·rw[List.drop_eq_nil_of_le hge,sigG]at hg
  subst hg
  repeat' (first|refine zaa [0,1,2,4,6,8,9,10,11,17] fun K hK=>?_|refine AWp.block ?_|(refine hK.go ?_;clear hK K)|refine Cont.go (by assumption) ?_|(refine cnd2 rfl (fun h=>?_) (fun h=>?_)<;>(try first|exact h.elim|obtain rfl:(_:Bool)=true:=h|obtain rfl:(_:Bool)=false:=h)<;>first|(exfalso;omega)|skip)|((first|refine AWp.reg hE hM ?_|refine AWp.regd hE hM ?_|refine AWp.ret ?_|refine AWp.skip ?_|refine AWp.exit ?_|(refine pk2 (fun h=>?_) (fun h=>?_)<;>(try first|exact h.elim|obtain rfl:(_:Bool)=true:=h|obtain rfl:(_:Bool)=false:=h))|refine zab (fun h=>?_) ?_|(refine hQ _ _ _ rfl ?_;clear hQ hR hE hM)|(refine hR _ _ (hQ _ _ _ rfl ?_);clear hQ hR hE hM)|(refine zaf ?_ ?_;focus first|omega|(refine zad ?_;(refine no_implicit_lambda% (st ?_);try with_reducible exact True.intro);done)))<;>try (refine no_implicit_lambda% (st ?_);try with_reducible exact True.intro)))
theorem grow_po0 (hH:HasAll P inv) (n:Int) (h:0<n) (h9:n≤1000000000):PO P inv 129 [.s0 1,.n n] (.sm 0 n.toNat 0 0 1) [(0,.cells (List.replicate n.toNat (.n 0)) true)]:=by
 refine zbA (F:=cd129) (hH.has _ _ rfl) (Nat.le_of_ble_eq_true rfl) fun w0 M Q hM hQ hR=>?_;have hE:=hH.callable;dsimp only[cd129,qm,ql,qf,qi,qb,qc,qp,qv,qN,qT,qF,qt]at hQ ⊢
 repeat' (first|refine zaa [0,1,4,6,16,22] fun K hK=>?_|refine AWp.block ?_|(refine hK.go ?_;clear hK K)|refine Cont.go (by assumption) ?_|(refine cnd2 rfl (fun h=>?_) (fun h=>?_)<;>(try first|exact h.elim|obtain rfl:(_:Bool)=true:=h|obtain rfl:(_:Bool)=false:=h)<;>first|(exfalso;omega)|skip)|((first|refine AWp.reg hE hM ?_|refine AWp.regd hE hM ?_|refine AWp.ret ?_|refine AWp.skip ?_|refine AWp.exit ?_|(refine pk2 (fun h=>?_) (fun h=>?_)<;>(try first|exact h.elim|obtain rfl:(_:Bool)=true:=h|obtain rfl:(_:Bool)=false:=h))|refine zab (fun h=>?_) ?_|(refine zaf ?_ ?_;focus first|omega|(refine zad ?_;(refine no_implicit_lambda% (st ?_);try with_reducible exact True.intro);done)))<;>try simp -dsimp -implicitDefEqProofs (disch:=omega) only[go_sem,reduceIte,↓reduceIte,Nat.reduceEqDiff,Nat.reduceLT,Nat.reduceLeDiff,Nat.reduceAdd,Nat.reduceSub,Nat.reduceMul,Int.reduceToNat,Int.reduceLT,Int.reduceLE,Int.reduceEq,Int.reduceNeg,Int.reduceNe,reduceCtorEq,Int.sub_zero,Int.sub_self,List.flatten_replicate_singleton,List.length_replicate])|(refine hQ _ _ _ rfl ?_;clear hQ hR hE hM)|(refine hR _ _ (hQ _ _ _ rfl ?_);clear hQ hR hE hM))
 left
 constructor
 ·(refine no_implicit_lambda% (st ?_);try with_reducible exact True.intro)
 ·(refine no_implicit_lambda% (st ?_);try with_reducible exact True.intro)
  simp
  omega
theorem grow_po' (hH:HasAll P inv):PO P inv 129 [.s0 1,.n 0] (.sm 0 0 0 0 1) [(0,.cells [] false)]:=by
 refine zbA (F:=cd129) (hH.has _ _ rfl) (Nat.le_of_ble_eq_true rfl) fun w0 M Q hM hQ hR=>?_;have hE:=hH.callable;dsimp only[cd129,qm,ql,qf,qi,qb,qc,qp,qv,qN,qT,qF,qt]at hQ ⊢
 repeat' (first|refine zaa [0,1,4,6,16,22] fun K hK=>?_|refine AWp.block ?_|(refine hK.go ?_;clear hK K)|refine Cont.go (by assumption) ?_|(refine cnd2 rfl (fun h=>?_) (fun h=>?_)<;>(try first|exact h.elim|obtain rfl:(_:Bool)=true:=h|obtain rfl:(_:Bool)=false:=h)<;>first|(exfalso;omega)|skip)|((first|refine AWp.reg hE hM ?_|refine AWp.regd hE hM ?_|refine AWp.ret ?_|refine AWp.skip ?_|refine AWp.exit ?_|(refine pk2 (fun h=>?_) (fun h=>?_)<;>(try first|exact h.elim|obtain rfl:(_:Bool)=true:=h|obtain rfl:(_:Bool)=false:=h))|refine zab (fun h=>?_) ?_|(refine zaf ?_ ?_;focus first|omega|(refine zad ?_;(refine no_implicit_lambda% (st ?_);try with_reducible exact True.intro);done)))<;>try simp -dsimp -implicitDefEqProofs (disch:=omega) only[go_sem,reduceIte,↓reduceIte,Nat.reduceEqDiff,Nat.reduceLT,Nat.reduceLeDiff,Nat.reduceAdd,Nat.reduceSub,Nat.reduceMul,Int.reduceToNat,Int.reduceLT,Int.reduceLE,Int.reduceEq,Int.reduceNeg,Int.reduceNe,reduceCtorEq,Int.sub_zero,Int.sub_self,List.flatten_replicate_singleton,List.length_replicate])|(refine hQ _ _ _ rfl ?_;clear hQ hR hE hM)|(refine hR _ _ (hQ _ _ _ rfl ?_);clear hQ hR hE hM))
 right
 exact ⟨1,rfl,rfl,rfl⟩
theorem grow_po (hH:HasAll P inv) (n:Int) (h:0<n) (h9:n≤1000000000):PO P inv 129 [.s0 1,.n n] (.sm 1 0 0 0 1) [(1,.cells [] true)]:=by
 have:=(grow_po0 hH n h h9).trunc (by rw[show List.replicate n.toNat (AV.n 0)=(List.replicate n.toNat (0:Int)).map AV.n by simp];exact zd5 .i64 _) (by simp) (by omega)
 simpa using this
theorem ze5 (l:List Int):(l.map ze6).flatten=l.map AV.n:=zoo l
def ziP:List (List Int)→Int
 |[]=>0
 |l::r=>l.length+ziP r
theorem ziO:∀ L:List (List Int),0≤ziP L
 |[]=>Int.le_refl _
 |l::r=>by have:=ziO r;simp only[ziP];omega
theorem zj7 (hH:HasAll P inv) (L:List (List Int)) (h0:L.length≤1000000) (hL:ziP L≤1000000000):PC P inv 101 [.sl 1 (L.map lst)] (·=.sl 1 (L.flatten.map ze6)):=by
 refine zae (F:=cd101) (hH.has _ _ rfl) (Nat.le_of_ble_eq_true rfl) fun w0 M Q hM hQ hR=>?_;have hE:=hH.callable;dsimp only[cd101,qm,ql,qf,qi,qb,qc,qp,qv,qN,qT,qF,qt]at hQ ⊢
 repeat' (first|refine zaa [0,2,3,5,6,8,9,10,11,12,20,25,26,27,28] fun K hK=>?_|refine AWp.block ?_|(refine hK.go ?_;clear hK K)|refine Cont.go (by assumption) ?_|(refine cnd2 rfl (fun h=>?_) (fun h=>?_)<;>(try first|exact h.elim|obtain rfl:(_:Bool)=true:=h|obtain rfl:(_:Bool)=false:=h)<;>first|(exfalso;omega)|skip)|((first|refine AWp.reg hE hM ?_|refine AWp.regd hE hM ?_|refine AWp.ret ?_|refine AWp.skip ?_|refine AWp.exit ?_|(refine pk2 (fun h=>?_) (fun h=>?_)<;>(try first|exact h.elim|obtain rfl:(_:Bool)=true:=h|obtain rfl:(_:Bool)=false:=h))|refine zab (fun h=>?_) ?_|(refine hQ _ _ _ rfl ?_;clear hQ hR hE hM)|(refine hR _ _ (hQ _ _ _ rfl ?_);clear hQ hR hE hM)|(refine zaf ?_ ?_;focus first|omega|(refine zad ?_;(refine no_implicit_lambda% (st ?_);try with_reducible exact True.intro);done)))<;>try (refine no_implicit_lambda% (st ?_);try with_reducible exact True.intro)))
 refine zah (ι:=Nat×Int) [0,2,3,9,10,11] (fun zz=>[(3,.n zz.2),(11,.n zz.1)]) (fun zz=>[]) (fun zz=>zz.1≤L.length∧(0≤zz.2)∧(zz.2+ziP (L.drop zz.1)=ziP L)) (fun zz=>L.length-zz.1) (0,0) ⟨Nat.zero_le _,(by first|rfl|assumption|omega|(simp;done)|(simp;omega)|grind),(by first|rfl|assumption|omega|(simp;done)|(simp;omega)|grind)⟩ (by (try dsimp only);(refine no_implicit_lambda% (st ?_);try with_reducible exact True.intro)<;>first|omega|(simp;done)) (by (try dsimp only);(refine no_implicit_lambda% (st ?_);try with_reducible exact True.intro)<;>first|omega|(simp;done)) ?_;rintro ⟨k,t⟩ ⟨hk,ht,hg⟩;(try dsimp only at hk ht hg ⊢);rcases Nat.lt_or_ge k L.length with hlt|hge
 ·rw[zap hlt]at hg
  rw[ziP]at hg
  have h1:=ziO (L.drop (k+1))
  repeat' (first|refine zaa [0,2,3,5,6,8,9,10,11,12,20,25,26,27,28] fun K hK=>?_|refine AWp.block ?_|(refine hK.go ?_;clear hK K)|refine Cont.go (by assumption) ?_|(refine cnd2 rfl (fun h=>?_) (fun h=>?_)<;>(try first|exact h.elim|obtain rfl:(_:Bool)=true:=h|obtain rfl:(_:Bool)=false:=h)<;>first|(exfalso;omega)|skip)|((first|refine AWp.reg hE hM ?_|refine AWp.regd hE hM ?_|refine AWp.ret ?_|refine AWp.skip ?_|refine AWp.exit ?_|(refine pk2 (fun h=>?_) (fun h=>?_)<;>(try first|exact h.elim|obtain rfl:(_:Bool)=true:=h|obtain rfl:(_:Bool)=false:=h))|refine zab (fun h=>?_) ?_|(refine hQ _ _ _ rfl ?_;clear hQ hR hE hM)|(refine hR _ _ (hQ _ _ _ rfl ?_);clear hQ hR hE hM)|(refine zaf ?_ ?_;focus first|omega|(refine zad ?_;(refine no_implicit_lambda% (st ?_);try with_reducible exact True.intro);done)))<;>try simp -dsimp -implicitDefEqProofs (disch:=omega) only[go_sem,reduceIte,↓reduceIte,Nat.reduceEqDiff,Nat.reduceLT,Nat.reduceLeDiff,Nat.reduceAdd,Nat.reduceSub,Nat.reduceMul,Int.reduceToNat,Int.reduceLT,Int.reduceLE,Int.reduceEq,Int.reduceNeg,Int.reduceNe,reduceCtorEq,lst]))
  refine ⟨(k+1,t+(nth L k).length),by (try dsimp only);omega,⟨by (try dsimp only);omega,by (try dsimp only);omega,by (try dsimp only);omega⟩, ?_⟩;(try dsimp only);(first|omega|(simp;done)|(simp;omega)|((refine no_implicit_lambda% (st ?_);try with_reducible exact True.intro);done)|(simp[List.map_set, *];done)|(simp[List.map_set, *];rfl)|((refine no_implicit_lambda% (st ?_);try with_reducible exact True.intro);simp[List.map_set, *];done)|((try (refine no_implicit_lambda% (st ?_);try with_reducible exact True.intro));(repeat' refine And.intro ?_ ?_)<;>first|omega|rfl|(simp;done)|(simp;omega)|(simp;rfl)|(simp[List.map_set, *];done)|(simp[List.map_set, *];rfl)))
 ·rw[List.drop_eq_nil_of_le hge,ziP,Int.add_zero]at hg
  subst hg
  rcases Int.lt_or_le 0 (ziP L) with hp|hz
  ·repeat' (first|refine zaa [0,2,3,5,6,8,9,10,11,12,20,25,26,27,28] fun K hK=>?_|refine AWp.block ?_|(refine hK.go ?_;clear hK K)|refine Cont.go (by assumption) ?_|(refine cnd2 rfl (fun h=>?_) (fun h=>?_)<;>(try first|exact h.elim|obtain rfl:(_:Bool)=true:=h|obtain rfl:(_:Bool)=false:=h)<;>first|(exfalso;omega)|skip)|((first|refine AWp.reg hE hM ?_|refine AWp.regd hE hM ?_|refine AWp.ret ?_|refine AWp.skip ?_|refine AWp.exit ?_|(refine pk2 (fun h=>?_) (fun h=>?_)<;>(try first|exact h.elim|obtain rfl:(_:Bool)=true:=h|obtain rfl:(_:Bool)=false:=h))|refine zab (fun h=>?_) ?_|refine PO.callK hM ( grow_po hH (ziP L) hp hL) ?_|(refine hQ _ _ _ rfl ?_;clear hQ hR hE hM)|(refine hR _ _ (hQ _ _ _ rfl ?_);clear hQ hR hE hM)|(refine zaf ?_ ?_;focus first|omega|(refine zad ?_;(refine no_implicit_lambda% (st ?_);try with_reducible exact True.intro);done)))<;>try (refine no_implicit_lambda% (st ?_);try with_reducible exact True.intro)))
   refine zah (ι:=Nat×(List Int)×Bool) [2,6,25,26,27] (fun zz=>[(6,.sm 1 zz.2.1.length 0 zz.2.1.length 1),(27,.n zz.1)]) (fun zz=>[(1,.cells (zz.2.1.map AV.n) zz.2.2)]) (fun zz=>zz.1≤L.length∧(zz.2.1++(L.drop zz.1).flatten=L.flatten)∧((zz.2.1.length:Int)+ziP (L.drop zz.1)=ziP L)) (fun zz=>L.length-zz.1) (0,[],true) ⟨Nat.zero_le _,(by first|rfl|assumption|omega|(simp;done)|(simp;omega)|grind),(by first|rfl|assumption|omega|(simp;done)|(simp;omega)|grind)⟩ (by (try dsimp only);(refine no_implicit_lambda% (st ?_);try with_reducible exact True.intro)<;>first|omega|(simp;done)) (by (try dsimp only);(refine no_implicit_lambda% (st ?_);try with_reducible exact True.intro)<;>first|omega|(simp;done)) ?_;rintro ⟨k,acc,b⟩ ⟨hk,hg,hx⟩;(try dsimp only at hk hg hx ⊢);rcases Nat.lt_or_ge k L.length with hlt|hge
   ·rw[zap hlt,ziP]at hx
    rw[zap hlt,List.flatten_cons,←List.append_assoc]at hg
    have h1:=ziO (L.drop (k+1))
    repeat' (first|refine zaa [0,2,3,5,6,8,9,10,11,12,20,25,26,27,28] fun K hK=>?_|refine AWp.block ?_|(refine hK.go ?_;clear hK K)|refine Cont.go (by assumption) ?_|(refine cnd2 rfl (fun h=>?_) (fun h=>?_)<;>(try first|exact h.elim|obtain rfl:(_:Bool)=true:=h|obtain rfl:(_:Bool)=false:=h)<;>first|(exfalso;omega)|skip)|((first|refine AWp.reg hE hM ?_|refine AWp.regd hE hM ?_|refine AWp.ret ?_|refine AWp.skip ?_|refine AWp.exit ?_|(refine pk2 (fun h=>?_) (fun h=>?_)<;>(try first|exact h.elim|obtain rfl:(_:Bool)=true:=h|obtain rfl:(_:Bool)=false:=h))|refine zab (fun h=>?_) ?_|(refine hQ _ _ _ rfl ?_;clear hQ hR hE hM)|(refine hR _ _ (hQ _ _ _ rfl ?_);clear hQ hR hE hM)|(refine zaf ?_ ?_;focus first|omega|(refine zad ?_;(refine no_implicit_lambda% (st ?_);try with_reducible exact True.intro);done)))<;>try simp -dsimp -implicitDefEqProofs (disch:=omega) only[go_sem,reduceIte,↓reduceIte,Nat.reduceEqDiff,Nat.reduceLT,Nat.reduceLeDiff,Nat.reduceAdd,Nat.reduceSub,Nat.reduceMul,Int.reduceToNat,Int.reduceLT,Int.reduceLE,Int.reduceEq,Int.reduceNeg,Int.reduceNe,reduceCtorEq,lst,ze5,List.length_map,List.length_append]))
    refine ⟨(k+1,acc++nth L k,(b||decide (0<(nth L k).length))),by (try dsimp only);omega,⟨by (try dsimp only);omega,hg,by (try dsimp only);simp;omega⟩, ?_⟩;(try dsimp only);(first|omega|(simp;done)|(simp;omega)|((refine no_implicit_lambda% (st ?_);try with_reducible exact True.intro);done)|(simp[List.map_set, *];done)|(simp[List.map_set, *];rfl)|((refine no_implicit_lambda% (st ?_);try with_reducible exact True.intro);simp[List.map_set, *];done)|((try (refine no_implicit_lambda% (st ?_);try with_reducible exact True.intro));(repeat' refine And.intro ?_ ?_)<;>first|omega|rfl|(simp;done)|(simp;omega)|(simp;rfl)|(simp[List.map_set, *];done)|(simp[List.map_set, *];rfl)))
   ·rw[List.drop_eq_nil_of_le hge,List.flatten_nil,List.append_nil]at hg
    subst hg
    repeat' (first|refine zaa [0,2,3,5,6,8,9,10,11,12,20,25,26,27,28] fun K hK=>?_|refine AWp.block ?_|(refine hK.go ?_;clear hK K)|refine Cont.go (by assumption) ?_|(refine cnd2 rfl (fun h=>?_) (fun h=>?_)<;>(try first|exact h.elim|obtain rfl:(_:Bool)=true:=h|obtain rfl:(_:Bool)=false:=h)<;>first|(exfalso;omega)|skip)|((first|refine AWp.reg hE hM ?_|refine AWp.regd hE hM ?_|refine AWp.ret ?_|refine AWp.skip ?_|refine AWp.exit ?_|(refine pk2 (fun h=>?_) (fun h=>?_)<;>(try first|exact h.elim|obtain rfl:(_:Bool)=true:=h|obtain rfl:(_:Bool)=false:=h))|refine zab (fun h=>?_) ?_|(refine hQ _ _ _ rfl ?_;clear hQ hR hE hM)|(refine hR _ _ (hQ _ _ _ rfl ?_);clear hQ hR hE hM)|(refine zaf ?_ ?_;focus first|omega|(refine zad ?_;(refine no_implicit_lambda% (st ?_);try with_reducible exact True.intro);done)))<;>try simp -dsimp -implicitDefEqProofs (disch:=omega) only[go_sem,reduceIte,↓reduceIte,Nat.reduceEqDiff,Nat.reduceLT,Nat.reduceLeDiff,Nat.reduceAdd,Nat.reduceSub,Nat.reduceMul,Int.reduceToNat,Int.reduceLT,Int.reduceLE,Int.reduceEq,Int.reduceNeg,Int.reduceNe,reduceCtorEq,List.length_map]))
    rw[show L.flatten.map (AV.i .i64)=(L.flatten.map ze6).flatten from (ze5 _).symm,zcG]
  ·have hz0:ziP L=0:=by omega
   rw[hz0]
   repeat' (first|refine zaa [0,2,3,5,6,8,9,10,11,12,20,25,26,27,28] fun K hK=>?_|refine AWp.block ?_|(refine hK.go ?_;clear hK K)|refine Cont.go (by assumption) ?_|(refine cnd2 rfl (fun h=>?_) (fun h=>?_)<;>(try first|exact h.elim|obtain rfl:(_:Bool)=true:=h|obtain rfl:(_:Bool)=false:=h)<;>first|(exfalso;omega)|skip)|((first|refine AWp.reg hE hM ?_|refine AWp.regd hE hM ?_|refine AWp.ret ?_|refine AWp.skip ?_|refine AWp.exit ?_|(refine pk2 (fun h=>?_) (fun h=>?_)<;>(try first|exact h.elim|obtain rfl:(_:Bool)=true:=h|obtain rfl:(_:Bool)=false:=h))|refine zab (fun h=>?_) ?_|refine PO.callK hM ( grow_po' hH) ?_|(refine hQ _ _ _ rfl ?_;clear hQ hR hE hM)|(refine hR _ _ (hQ _ _ _ rfl ?_);clear hQ hR hE hM)|(refine zaf ?_ ?_;focus first|omega|(refine zad ?_;(refine no_implicit_lambda% (st ?_);try with_reducible exact True.intro);done)))<;>try (refine no_implicit_lambda% (st ?_);try with_reducible exact True.intro)))
   refine AWp.swap [(0,1)] ⟨⟨by omega,by omega⟩,trivial⟩ ?_
   (refine no_implicit_lambda% (st ?_);try with_reducible exact True.intro)
   refine zah (ι:=Nat×(List Int)×Bool) [2,6,25,26,27] (fun zz=>[(6,.sm 1 zz.2.1.length 0 zz.2.1.length 1),(27,.n zz.1)]) (fun zz=>[(1,.cells (zz.2.1.map AV.n) zz.2.2)]) (fun zz=>zz.1≤L.length∧(zz.2.1++(L.drop zz.1).flatten=L.flatten)∧((zz.2.1.length:Int)+ziP (L.drop zz.1)=ziP L)) (fun zz=>L.length-zz.1) (0,[],false) ⟨Nat.zero_le _,(by first|rfl|assumption|omega|(simp;done)|(simp;omega)|grind),(by first|rfl|assumption|omega|(simp;done)|(simp;omega)|grind)⟩ (by (try dsimp only);(refine no_implicit_lambda% (st ?_);try with_reducible exact True.intro)<;>first|omega|(simp;done)) (by (try dsimp only);(refine no_implicit_lambda% (st ?_);try with_reducible exact True.intro)<;>first|omega|(simp;done)) ?_;rintro ⟨k,acc,b⟩ ⟨hk,hg,hx⟩;(try dsimp only at hk hg hx ⊢);rcases Nat.lt_or_ge k L.length with hlt|hge
   ·rw[zap hlt,ziP]at hx
    rw[zap hlt,List.flatten_cons,←List.append_assoc]at hg
    have h1:=ziO (L.drop (k+1))
    repeat' (first|refine zaa [0,2,3,5,6,8,9,10,11,12,20,25,26,27,28] fun K hK=>?_|refine AWp.block ?_|(refine hK.go ?_;clear hK K)|refine Cont.go (by assumption) ?_|(refine cnd2 rfl (fun h=>?_) (fun h=>?_)<;>(try first|exact h.elim|obtain rfl:(_:Bool)=true:=h|obtain rfl:(_:Bool)=false:=h)<;>first|(exfalso;omega)|skip)|((first|refine AWp.reg hE hM ?_|refine AWp.regd hE hM ?_|refine AWp.ret ?_|refine AWp.skip ?_|refine AWp.exit ?_|(refine pk2 (fun h=>?_) (fun h=>?_)<;>(try first|exact h.elim|obtain rfl:(_:Bool)=true:=h|obtain rfl:(_:Bool)=false:=h))|refine zab (fun h=>?_) ?_|(refine hQ _ _ _ rfl ?_;clear hQ hR hE hM)|(refine hR _ _ (hQ _ _ _ rfl ?_);clear hQ hR hE hM)|(refine zaf ?_ ?_;focus first|omega|(refine zad ?_;(refine no_implicit_lambda% (st ?_);try with_reducible exact True.intro);done)))<;>try simp -dsimp -implicitDefEqProofs (disch:=omega) only[go_sem,reduceIte,↓reduceIte,Nat.reduceEqDiff,Nat.reduceLT,Nat.reduceLeDiff,Nat.reduceAdd,Nat.reduceSub,Nat.reduceMul,Int.reduceToNat,Int.reduceLT,Int.reduceLE,Int.reduceEq,Int.reduceNeg,Int.reduceNe,reduceCtorEq,lst,ze5,List.length_map,List.length_append]))
    refine ⟨(k+1,acc++nth L k,(b||decide (0<(nth L k).length))),by (try dsimp only);omega,⟨by (try dsimp only);omega,hg,by (try dsimp only);simp;omega⟩, ?_⟩;(try dsimp only);(first|omega|(simp;done)|(simp;omega)|((refine no_implicit_lambda% (st ?_);try with_reducible exact True.intro);done)|(simp[List.map_set, *];done)|(simp[List.map_set, *];rfl)|((refine no_implicit_lambda% (st ?_);try with_reducible exact True.intro);simp[List.map_set, *];done)|((try (refine no_implicit_lambda% (st ?_);try with_reducible exact True.intro));(repeat' refine And.intro ?_ ?_)<;>first|omega|rfl|(simp;done)|(simp;omega)|(simp;rfl)|(simp[List.map_set, *];done)|(simp[List.map_set, *];rfl)))
   ·rw[List.drop_eq_nil_of_le hge,List.flatten_nil,List.append_nil]at hg
    subst hg
    repeat' (first|refine zaa [0,2,3,5,6,8,9,10,11,12,20,25,26,27,28] fun K hK=>?_|refine AWp.block ?_|(refine hK.go ?_;clear hK K)|refine Cont.go (by assumption) ?_|(refine cnd2 rfl (fun h=>?_) (fun h=>?_)<;>(try first|exact h.elim|obtain rfl:(_:Bool)=true:=h|obtain rfl:(_:Bool)=false:=h)<;>first|(exfalso;omega)|skip)|((first|refine AWp.reg hE hM ?_|refine AWp.regd hE hM ?_|refine AWp.ret ?_|refine AWp.skip ?_|refine AWp.exit ?_|(refine pk2 (fun h=>?_) (fun h=>?_)<;>(try first|exact h.elim|obtain rfl:(_:Bool)=true:=h|obtain rfl:(_:Bool)=false:=h))|refine zab (fun h=>?_) ?_|(refine hQ _ _ _ rfl ?_;clear hQ hR hE hM)|(refine hR _ _ (hQ _ _ _ rfl ?_);clear hQ hR hE hM)|(refine zaf ?_ ?_;focus first|omega|(refine zad ?_;(refine no_implicit_lambda% (st ?_);try with_reducible exact True.intro);done)))<;>try simp -dsimp -implicitDefEqProofs (disch:=omega) only[go_sem,reduceIte,↓reduceIte,Nat.reduceEqDiff,Nat.reduceLT,Nat.reduceLeDiff,Nat.reduceAdd,Nat.reduceSub,Nat.reduceMul,Int.reduceToNat,Int.reduceLT,Int.reduceLE,Int.reduceEq,Int.reduceNeg,Int.reduceNe,reduceCtorEq,List.length_map]))
    rw[show L.flatten.map (AV.i .i64)=(L.flatten.map ze6).flatten from (ze5 _).symm,zcG]
end Go.Lev
namespace Go.Lev
open Go.Eng
set_option maxRecDepth 10000
set_option maxHeartbeats 4000000
variable {P:Program} {inv:Nat→Option Nat} {w0:World} {M:Nat→Prop}
structure Wk where
 inn:Join
 asks:List AskR
 outs:List Join
 lost:Bool
def Wk.c (p:Pln) (w:Wk):List AV:=[.n p.version,.n p.parent,.sl 3 (p.sections.map Section.c),.sl 2 (p.points.map Pnt.c),.sl 3 (p.signals.map Sgn.c),.sl 7 (p.routes.map Rte.c),.n w.inn.to,.n w.inn.ed,.sm 20 (w.asks.length*3) 0 w.asks.length 3,.sm 21 (w.outs.length*2) 0 w.outs.length 2,.b w.lost]
attribute [go_sem] Wk.c
def zjr (p:Pln) (w:Wk) (id:Int):Option Section:=if w.inn.to=id then p.sections.find? fun s=>decide (s.id=id) else none
def zmT (pt lie pos:Int) (l:List AskR):List AskR:=if 0<pt∧0<lie then l++[⟨pt,lie,pos⟩] else l
def zbv (s:Section) (frm:Int) (right:Int→Join→Bool):Nat→List Join→Option (Nat×Join×Int)
 |_,[]=>none
 |e,j::r=>if (zbf s frm e).2=0∧right e j=true then some (e,j,(zbf s frm e).1) else zbv s frm right (e+1) r
def zaM (p:Pln) (w:Wk) (id pos:Int) (right:Int→Join→Bool):Wk :=
 if w.lost=true then w else match zjr p w id with
 |none=>{ w with lost:=true }
 |some s=>match zbv s w.inn.ed right 0 s.ends with
  |none=>{ w with lost:=true }
  |some (e,j,lie)=>⟨j,zmT s.pt lie pos w.asks,w.outs++[⟨id,e⟩],false⟩
def zeH (p:Pln) (w:Wk) (id pos:Int):Wk :=
 match zjr p w id with
 |none=>{ w with lost:=true }
 |some s=>if w.lost=false∧0<w.inn.ed then { w with asks:=zmT s.pt w.inn.ed pos w.asks } else w
theorem zgk (hH:HasAll P inv) (n:Int) (x:Section):PC P inv 140 ([.agg x.c]++[.ip 1 [[.n n]] 0 0]) (·=.b (decide (x.id=n))):=by
 refine zae (F:=cd140) (hH.has _ _ rfl) (Nat.le_of_ble_eq_true rfl) fun w0 M Q hM hQ hR=>?_;have hE:=hH.callable;dsimp only[cd140,qm,ql,qf,qi,qb,qc,qp,qv,qN,qT,qF,qt]at hQ ⊢
 repeat' (first|refine zaa [0,1,2,3] fun K hK=>?_|refine AWp.block ?_|(refine hK.go ?_;clear hK K)|refine Cont.go (by assumption) ?_|(refine cnd2 rfl (fun h=>?_) (fun h=>?_)<;>(try first|exact h.elim|obtain rfl:(_:Bool)=true:=h|obtain rfl:(_:Bool)=false:=h)<;>first|(exfalso;omega)|skip)|((first|refine AWp.reg hE hM ?_|refine AWp.regd hE hM ?_|refine AWp.ret ?_|refine AWp.skip ?_|refine AWp.exit ?_|(refine pk2 (fun h=>?_) (fun h=>?_)<;>(try first|exact h.elim|obtain rfl:(_:Bool)=true:=h|obtain rfl:(_:Bool)=false:=h))|refine zab (fun h=>?_) ?_|(refine hQ _ _ _ rfl ?_;clear hQ hR hE hM)|(refine hR _ _ (hQ _ _ _ rfl ?_);clear hQ hR hE hM)|(refine zaf ?_ ?_;focus first|omega|(refine zad ?_;(refine no_implicit_lambda% (st ?_);try with_reducible exact True.intro);done)))<;>try (refine no_implicit_lambda% (st ?_);try with_reducible exact True.intro)))
theorem znD (hH:HasAll P inv) (e:Int) (j:Join):PC P inv 103 [.n e,.agg j.c] (·=.b (decide (j=⟨0,0⟩))):=by
 refine zae (F:=cd103) (hH.has _ _ rfl) (Nat.le_of_ble_eq_true rfl) fun w0 M Q hM hQ hR=>?_;have hE:=hH.callable;dsimp only[cd103,qm,ql,qf,qi,qb,qc,qp,qv,qN,qT,qF,qt]at hQ ⊢
 repeat' (first|refine zaa [1,3,4] fun K hK=>?_|refine AWp.block ?_|(refine hK.go ?_;clear hK K)|refine Cont.go (by assumption) ?_|(refine cnd2 rfl (fun h=>?_) (fun h=>?_)<;>(try first|exact h.elim|obtain rfl:(_:Bool)=true:=h|obtain rfl:(_:Bool)=false:=h)<;>first|(exfalso;omega)|skip)|((first|refine AWp.reg hE hM ?_|refine AWp.regd hE hM ?_|refine AWp.ret ?_|refine AWp.skip ?_|refine AWp.exit ?_|(refine pk2 (fun h=>?_) (fun h=>?_)<;>(try first|exact h.elim|obtain rfl:(_:Bool)=true:=h|obtain rfl:(_:Bool)=false:=h))|refine zab (fun h=>?_) ?_|(refine hQ _ _ _ rfl ?_;clear hQ hR hE hM)|(refine hR _ _ (hQ _ _ _ rfl ?_);clear hQ hR hE hM)|(refine zaf ?_ ?_;focus first|omega|(refine zad ?_;(refine no_implicit_lambda% (st ?_);try with_reducible exact True.intro);done)))<;>try (refine no_implicit_lambda% (st ?_);try with_reducible exact True.intro)))
 simp[zog]
theorem znC (hH:HasAll P inv) (e:Int) (j:Join) (s:Int) (x:Sgn):PC P inv 104 ([.n e,.agg j.c]++[.ip 1 [[.n s]] 0 0,.ip 3 [x.c] 0 0]) (·=.b (decide (s=x.sec)&&decide (e=x.ed))):=by
 refine zae (F:=cd104) (hH.has _ _ rfl) (Nat.le_of_ble_eq_true rfl) fun w0 M Q hM hQ hR=>?_;have hE:=hH.callable;dsimp only[cd104,qm,ql,qf,qi,qb,qc,qp,qv,qN,qT,qF,qt]at hQ ⊢
 repeat' (first|refine zaa [0,1,2,3,6] fun K hK=>?_|refine AWp.block ?_|(refine hK.go ?_;clear hK K)|refine Cont.go (by assumption) ?_|(refine cnd2 rfl (fun h=>?_) (fun h=>?_)<;>(try first|exact h.elim|obtain rfl:(_:Bool)=true:=h|obtain rfl:(_:Bool)=false:=h)<;>first|(exfalso;omega)|skip)|((first|refine AWp.reg hE hM ?_|refine AWp.regd hE hM ?_|refine AWp.ret ?_|refine AWp.skip ?_|refine AWp.exit ?_|(refine pk2 (fun h=>?_) (fun h=>?_)<;>(try first|exact h.elim|obtain rfl:(_:Bool)=true:=h|obtain rfl:(_:Bool)=false:=h))|refine zab (fun h=>?_) ?_|(refine hQ _ _ _ rfl ?_;clear hQ hR hE hM)|(refine hR _ _ (hQ _ _ _ rfl ?_);clear hQ hR hE hM)|(refine zaf ?_ ?_;focus first|omega|(refine zad ?_;(refine no_implicit_lambda% (st ?_);try with_reducible exact True.intro);done)))<;>try (refine no_implicit_lambda% (st ?_);try with_reducible exact True.intro)))
 all_goals simp[*]
theorem znB (hH:HasAll P inv) (e:Int) (j:Join) (all:List Int) (i:Nat) (hi:i+1<all.length) (ha:all.length≤1000000000):PC P inv 106 ([.n e,.agg j.c]++[.ip 1 [[.sl 1 (all.map ze6)]] 0 0,.ip 1 [[.n i]] 0 0]) (·=.b (decide (j.to=nth all (i+1)))):=by
 refine zae (F:=cd106) (hH.has _ _ rfl) (Nat.le_of_ble_eq_true rfl) fun w0 M Q hM hQ hR=>?_;have hE:=hH.callable;dsimp only[cd106,qm,ql,qf,qi,qb,qc,qp,qv,qN,qT,qF,qt]at hQ ⊢
 repeat' (first|refine zaa [1,2,3,5,6] fun K hK=>?_|refine AWp.block ?_|(refine hK.go ?_;clear hK K)|refine Cont.go (by assumption) ?_|(refine cnd2 rfl (fun h=>?_) (fun h=>?_)<;>(try first|exact h.elim|obtain rfl:(_:Bool)=true:=h|obtain rfl:(_:Bool)=false:=h)<;>first|(exfalso;omega)|skip)|((first|refine AWp.reg hE hM ?_|refine AWp.regd hE hM ?_|refine AWp.ret ?_|refine AWp.skip ?_|refine AWp.exit ?_|(refine pk2 (fun h=>?_) (fun h=>?_)<;>(try first|exact h.elim|obtain rfl:(_:Bool)=true:=h|obtain rfl:(_:Bool)=false:=h))|refine zab (fun h=>?_) ?_|(refine hQ _ _ _ rfl ?_;clear hQ hR hE hM)|(refine hR _ _ (hQ _ _ _ rfl ?_);clear hQ hR hE hM)|(refine zaf ?_ ?_;focus first|omega|(refine zad ?_;(refine no_implicit_lambda% (st ?_);try with_reducible exact True.intro);done)))<;>try (refine no_implicit_lambda% (st ?_);try with_reducible exact True.intro)))
 rw[show ((i:Int)+1).toNat=i+1 by omega]
def stW (p:Pln) (r:Rte) (x y:Sgn) (w:Wk) (all:List Int) (i s:Int) (ba bo:Bool):List (Nat×AO):=[(1,.cells r.c true),(2,.cells [.s0 1,.s0 1,.s0 3,.n 0] true),(3,.cells x.c true),(4,.cells y.c true),(5,.cells (w.c p) true),(6,.cells [.sl 1 (all.map ze6)] true),(20,.cells (w.asks.map AskR.c).flatten ba),(21,.cells (w.outs.map Join.c).flatten bo),(22,.cells [.n i] true),(23,.cells [.n s] true)]
theorem stay_ac (hH:HasAll P inv) (hM:∀ b,M b→b<w0.heap.size) (p:Pln) (hp:Sm p) (r:Rte) (x y:Sgn) (w:Wk) (all:List Int) (i s:Int) (ba bo:Bool) (hw:w.asks.length≤1000000) :
  AC P inv w0 M 30 105 [.ptr 5 11 0,.n s,.n i] (stW p r x y w all i s ba bo) fun r0 σ'=>r0=.tup []∧σ'=stW p r x y (zeH p w s i) all i s (ba||decide (w.asks.length<(zeH p w s i).asks.length)) bo:=by
 have hs:=zbX (fun t:Section=>decide (t.id=s)) p.sections 0
 have c0:=zhb hH p.sections (fun t _=>zgk hH s t) (Nat.le_trans hp.sec (by omega))
 have hl:=hp.sec
 obtain ⟨inn,asks,outs,lost⟩:=w
 dsimp only at hw
 generalize hW:zeH p ⟨inn,asks,outs,lost⟩ s i=W
 unfold zeH zjr zmT at hW
 dsimp only at hW
 rcases hs with ⟨h1,h2⟩|⟨k,hk,h1,h2⟩
 ·rw[h1]at c0
  rw[h2,ite_self]at hW
  subst hW
  refine zaX (F:=cd105) (hH.has _ _ rfl) rfl (Nat.le_of_ble_eq_true rfl) fun Q hQ hR=>?_;have hE:=hH.callable;dsimp only[cd105,qm,ql,qf,qi,qb,qc,qp,qv,qN,qT,qF,qt]at hQ ⊢
  skip
  unfold stW
  (refine no_implicit_lambda% (st ?_);try with_reducible exact True.intro)
  repeat' (first|refine zaa [0,1,2,3,4,5,6,13,22,23] fun K hK=>?_|refine AWp.block ?_|(refine hK.go ?_;clear hK K)|refine Cont.go (by assumption) ?_|(refine cnd2 rfl (fun h=>?_) (fun h=>?_)<;>(try first|exact h.elim|obtain rfl:(_:Bool)=true:=h|obtain rfl:(_:Bool)=false:=h)<;>first|(exfalso;omega)|skip)|((first|refine AWp.reg hE hM ?_|refine AWp.regd hE hM ?_|refine AWp.ret ?_|refine AWp.skip ?_|refine AWp.exit ?_|(refine pk2 (fun h=>?_) (fun h=>?_)<;>(try first|exact h.elim|obtain rfl:(_:Bool)=true:=h|obtain rfl:(_:Bool)=false:=h))|refine zab (fun h=>?_) ?_|(refine AC.callK 30 (by omega) (by first|omega|((refine no_implicit_lambda% (st ?_);try with_reducible exact True.intro);done)|((refine no_implicit_lambda% (st ?_);try with_reducible exact True.intro);omega)) (zax (F:=cd130) (hH.has _ _ rfl) (Nat.le_of_ble_eq_true rfl) fun Q hQ hR=>?_);dsimp only[cd130,qm,ql,qf,qi,qb,qc,qp,qv,qN,qT,qF,qt]at hQ ⊢)|(refine AC.callK 40 (by omega) (by first|omega|((refine no_implicit_lambda% (st ?_);try with_reducible exact True.intro);done)|((refine no_implicit_lambda% (st ?_);try with_reducible exact True.intro);omega)) (zax (F:=cd107) (hH.has _ _ rfl) (Nat.le_of_ble_eq_true rfl) fun Q hQ hR=>?_);dsimp only[cd107,qm,ql,qf,qi,qb,qc,qp,qv,qN,qT,qF,qt]at hQ ⊢)|(refine zau hM 4 ( c0) ?_ rfl ?_;(focus ((refine no_implicit_lambda% (st ?_);try with_reducible exact True.intro)<;>fail)))|(refine hQ _ _ _ rfl ?_;clear hQ hR)|(refine hR _ _ (hQ _ _ _ rfl ?_);clear hQ hR)|(refine zaf ?_ ?_;focus first|omega|(refine zad ?_;(refine no_implicit_lambda% (st ?_);try with_reducible exact True.intro);done)))<;>try (refine no_implicit_lambda% (st ?_);try with_reducible exact True.intro)))
  all_goals (refine ⟨[],trivial, ?_⟩;simp only[swS,stW,Wk.c];(refine no_implicit_lambda% (st ?_);try with_reducible exact True.intro);(try simp))
 ·rw[h1,Int.zero_add]at c0
  rw[h2]at hW
  refine zaX (F:=cd105) (hH.has _ _ rfl) rfl (Nat.le_of_ble_eq_true rfl) fun Q hQ hR=>?_;have hE:=hH.callable;dsimp only[cd105,qm,ql,qf,qi,qb,qc,qp,qv,qN,qT,qF,qt]at hQ ⊢
  skip
  unfold stW
  (refine no_implicit_lambda% (st ?_);try with_reducible exact True.intro)
  repeat' (first|refine zaa [0,1,2,3,4,5,6,13,22,23] fun K hK=>?_|refine AWp.block ?_|(refine hK.go ?_;clear hK K)|refine Cont.go (by assumption) ?_|(refine cnd2 rfl (fun h=>?_) (fun h=>?_)<;>(try first|exact h.elim|obtain rfl:(_:Bool)=true:=h|obtain rfl:(_:Bool)=false:=h)<;>first|(exfalso;omega)|skip)|((first|refine AWp.reg hE hM ?_|refine AWp.regd hE hM ?_|refine AWp.ret ?_|refine AWp.skip ?_|refine AWp.exit ?_|(refine pk2 (fun h=>?_) (fun h=>?_)<;>(try first|exact h.elim|obtain rfl:(_:Bool)=true:=h|obtain rfl:(_:Bool)=false:=h))|refine zab (fun h=>?_) ?_|(refine AC.callK 30 (by omega) (by first|omega|((refine no_implicit_lambda% (st ?_);try with_reducible exact True.intro);done)|((refine no_implicit_lambda% (st ?_);try with_reducible exact True.intro);omega)) (zax (F:=cd130) (hH.has _ _ rfl) (Nat.le_of_ble_eq_true rfl) fun Q hQ hR=>?_);dsimp only[cd130,qm,ql,qf,qi,qb,qc,qp,qv,qN,qT,qF,qt]at hQ ⊢)|(refine AC.callK 40 (by omega) (by first|omega|((refine no_implicit_lambda% (st ?_);try with_reducible exact True.intro);done)|((refine no_implicit_lambda% (st ?_);try with_reducible exact True.intro);omega)) (zax (F:=cd107) (hH.has _ _ rfl) (Nat.le_of_ble_eq_true rfl) fun Q hQ hR=>?_);dsimp only[cd107,qm,ql,qf,qi,qb,qc,qp,qv,qN,qT,qF,qt]at hQ ⊢)|(refine zau hM 4 ( c0) ?_ rfl ?_;(focus ((refine no_implicit_lambda% (st ?_);try with_reducible exact True.intro)<;>fail)))|(refine hQ _ _ _ rfl ?_;clear hQ hR)|(refine hR _ _ (hQ _ _ _ rfl ?_);clear hQ hR)|(refine zaf ?_ ?_;focus first|omega|(refine zad ?_;(refine no_implicit_lambda% (st ?_);try with_reducible exact True.intro);done)))<;>try (refine no_implicit_lambda% (st ?_);try with_reducible exact True.intro)))
  all_goals (simp only[*,true_and,and_true,and_self,if_true,if_false,false_and,and_false,reduceCtorEq,Bool.true_eq_false,Bool.false_eq_true]at hW)
  all_goals (try subst hW)
  all_goals (refine ⟨[],trivial, ?_⟩;simp only[swS,stW,Wk.c];(refine no_implicit_lambda% (st ?_);try with_reducible exact True.intro))
  all_goals simp[AskR.c]
end Go.Lev
