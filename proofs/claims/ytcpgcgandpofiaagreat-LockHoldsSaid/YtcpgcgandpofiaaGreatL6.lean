/-
  A part of the engine that walks the functions' codes, and of the functions' contracts. Conditions: those that each theorem names.
-/
import Derived.Test.YtcpgcgandpofiaaGreatL5
import Derived.IntWalk
set_option linter.unusedSimpArgs false
set_option linter.unusedVariables false
set_option linter.unusedSectionVars false
namespace Go.Lev
open Go.Eng
set_option maxRecDepth 10000
set_option maxHeartbeats 4000000
variable {P:Program} {inv:Nat→Option Nat} {w0:World} {M:Nat→Prop}
def jls (l:List Join):List AV:=[.sl 2 (l.map Join.c)]
instance:Cells jls 1:=⟨fun _=>rfl,fun _=>rfl⟩
def allG (p:Pln):List Rte→List WayR→List (List Join)→List WayR×List (List Join)×Int
 |[],ws,os=>(ws,os,0)
 |r::l,ws,os=>if (zak p r).2.2=0 then allG p l (ws++[(zak p r).1]) (os++[(zak p r).2.1]) else ([],[],(zak p r).2.2)
def allW (p:Pln):List WayR×List (List Join)×Int:=if zco p=true then allG p p.routes [] [] else ([],[],8)
theorem all_pc (hH:HasAll P inv) (hI:HasIds P inv) (p:Pln) (hp:Sm p):PC P inv 82 [.agg p.c] (·=.tup [.sl 4 ((allW p).1.map Way.c),.sl 1 ((allW p).2.1.map jls),.n (allW p).2.2]):=by
 have hlr:=hp.rte
 have c0:=zfY hH hI p hp
 unfold allW zbJ at *
 cases ho:zco p with
 |false =>
  rw[ho,if_neg (by simp)]at c0
  rw[if_neg (by simp)]
  refine zae (F:=cd82) (hH.has _ _ rfl) (Nat.le_of_ble_eq_true rfl) fun w0 M Q hM hQ hR=>?_;have hE:=hH.callable;dsimp only[cd82,qm,ql,qf,qi,qb,qc,qp,qv,qN,qT,qF,qt]at hQ ⊢
  repeat' (first|refine zaa [0,1,2,3,4,6,7,8,9,13,15,16,17,18,29] fun K hK=>?_|refine AWp.block ?_|(refine hK.go ?_;clear hK K)|refine Cont.go (by assumption) ?_|(refine cnd2 rfl (fun h=>?_) (fun h=>?_)<;>(try first|exact h.elim|obtain rfl:(_:Bool)=true:=h|obtain rfl:(_:Bool)=false:=h)<;>first|(exfalso;omega)|skip)|((first|refine AWp.reg hE hM ?_|refine AWp.regd hE hM ?_|refine AWp.ret ?_|refine AWp.skip ?_|refine AWp.exit ?_|(refine pk2 (fun h=>?_) (fun h=>?_)<;>(try first|exact h.elim|obtain rfl:(_:Bool)=true:=h|obtain rfl:(_:Bool)=false:=h))|refine zab (fun h=>?_) ?_|refine zac hM (c0) ?_|(refine hQ _ _ _ rfl ?_;clear hQ hR hE hM)|(refine hR _ _ (hQ _ _ _ rfl ?_);clear hQ hR hE hM)|(refine zaf ?_ ?_;focus first|omega|(refine zad ?_;(refine no_implicit_lambda% (st ?_);try with_reducible exact True.intro);done)))<;>try (refine no_implicit_lambda% (st ?_);try with_reducible exact True.intro)))
 |true =>
  rw[ho,if_pos rfl]at c0
  rw[if_pos rfl]
  have hok:=zg0 ho
  clear ho
  obtain ⟨ans,ha⟩:∃ ans,ans=allG p p.routes [] []:=⟨_,rfl⟩
  rw[←ha]
  refine zae (F:=cd82) (hH.has _ _ rfl) (Nat.le_of_ble_eq_true rfl) fun w0 M Q hM hQ hR=>?_;have hE:=hH.callable;dsimp only[cd82,qm,ql,qf,qi,qb,qc,qp,qv,qN,qT,qF,qt]at hQ ⊢
  repeat' (first|refine zaa [0,1,2,3,4,6,7,8,9,13,15,16,17,18,29] fun K hK=>?_|refine AWp.block ?_|(refine hK.go ?_;clear hK K)|refine Cont.go (by assumption) ?_|(refine cnd2 rfl (fun h=>?_) (fun h=>?_)<;>(try first|exact h.elim|obtain rfl:(_:Bool)=true:=h|obtain rfl:(_:Bool)=false:=h)<;>first|(exfalso;omega)|skip)|((first|refine AWp.reg hE hM ?_|refine AWp.regd hE hM ?_|refine AWp.ret ?_|refine AWp.skip ?_|refine AWp.exit ?_|(refine pk2 (fun h=>?_) (fun h=>?_)<;>(try first|exact h.elim|obtain rfl:(_:Bool)=true:=h|obtain rfl:(_:Bool)=false:=h))|refine zab (fun h=>?_) ?_|refine zac hM (c0) ?_|(refine hQ _ _ _ rfl ?_;clear hQ hR hE hM)|(refine hR _ _ (hQ _ _ _ rfl ?_);clear hQ hR hE hM)|(refine zaf ?_ ?_;focus first|omega|(refine zad ?_;(refine no_implicit_lambda% (st ?_);try with_reducible exact True.intro);done)))<;>try (refine no_implicit_lambda% (st ?_);try with_reducible exact True.intro)))
  refine AWp.empty 2 10 4 rfl (Nat.zero_le _) (by (refine no_implicit_lambda% (st ?_);try with_reducible exact True.intro)) (by (refine no_implicit_lambda% (st ?_);try with_reducible exact True.intro)) ?_
  refine AWp.empty 3 11 1 rfl (Nat.zero_le _) (by (refine no_implicit_lambda% (st ?_);try with_reducible exact True.intro)) (by (refine no_implicit_lambda% (st ?_);try with_reducible exact True.intro)) ?_
  refine zah (ι:=Nat×(List WayR)×(List (List Join))×Bool×Bool) [1,2,3,4,15,16,17] (fun zz=>[(2,.sm 10 (zz.2.1.length*4) 0 zz.2.1.length 4),(3,.sm 11 zz.2.2.1.length 0 zz.2.2.1.length 1),(17,.n zz.1)]) (fun zz=>[(10,.cells (zz.2.1.map Way.c).flatten zz.2.2.2.1),(11,.cells (zz.2.2.1.map jls).flatten zz.2.2.2.2)]) (fun zz=>zz.1≤p.routes.length∧(allG p (p.routes.drop zz.1) zz.2.1 zz.2.2.1=ans)∧(zz.2.1.length≤zz.1∧zz.2.2.1.length≤zz.1)) (fun zz=>p.routes.length-zz.1) (0,[],[],false,false) ⟨Nat.zero_le _,(by first|rfl|assumption|omega|(simp;done)|(simp;omega)|grind),(by first|rfl|assumption|omega|(simp;done)|(simp;omega)|grind)⟩ (by (try dsimp only);(refine no_implicit_lambda% (st ?_);try with_reducible exact True.intro)<;>first|omega|(simp;done)) (by (try dsimp only);(refine no_implicit_lambda% (st ?_);try with_reducible exact True.intro)<;>first|omega|(simp;done)) ?_;rintro ⟨k,ws,os,b1,b2⟩ ⟨hk,hg,hx⟩;(try dsimp only at hk hg hx ⊢);rcases Nat.lt_or_ge k p.routes.length with hlt|hge
  ·rw[zap hlt]at hg
   rw[allG]at hg
   have c1:=zlm hH p hp hok (zal hlt)
   generalize zak p (nth p.routes k)=W at c1 hg
   repeat' (first|refine zaa [0,1,2,3,4,6,7,8,9,13,15,16,17,18,29] fun K hK=>?_|refine AWp.block ?_|(refine hK.go ?_;clear hK K)|refine Cont.go (by assumption) ?_|(refine cnd2 rfl (fun h=>?_) (fun h=>?_)<;>(try first|exact h.elim|obtain rfl:(_:Bool)=true:=h|obtain rfl:(_:Bool)=false:=h)<;>first|(exfalso;omega)|skip)|((first|refine AWp.reg hE hM ?_|refine AWp.regd hE hM ?_|refine AWp.ret ?_|refine AWp.skip ?_|refine AWp.exit ?_|(refine pk2 (fun h=>?_) (fun h=>?_)<;>(try first|exact h.elim|obtain rfl:(_:Bool)=true:=h|obtain rfl:(_:Bool)=false:=h))|refine zab (fun h=>?_) ?_|refine zac hM (c1) ?_|(refine hQ _ _ _ rfl ?_;clear hQ hR hE hM)|(refine hR _ _ (hQ _ _ _ rfl ?_);clear hQ hR hE hM)|(refine zaf ?_ ?_;focus first|omega|(refine zad ?_;(refine no_implicit_lambda% (st ?_);try with_reducible exact True.intro);done)))<;>try (refine no_implicit_lambda% (st ?_);try with_reducible exact True.intro)))
   ·rw[if_neg (by assumption)]at hg
    rw[←hg]
    rfl
   ·rw[if_pos (by assumption)]at hg
    refine ⟨(k+1,ws++[W.1],os++[W.2.1],true,true),by (try dsimp only);omega,⟨by (try dsimp only);omega,hg,by (try dsimp only);simp;omega⟩, ?_⟩;(try dsimp only);(first|omega|(simp;done)|(simp;omega)|((refine no_implicit_lambda% (st ?_);try with_reducible exact True.intro);done)|(simp[List.map_set, *];done)|(simp[List.map_set, *];rfl)|((refine no_implicit_lambda% (st ?_);try with_reducible exact True.intro);simp[List.map_set, *];done)|((try (refine no_implicit_lambda% (st ?_);try with_reducible exact True.intro));(repeat' refine And.intro ?_ ?_)<;>first|omega|rfl|(simp;done)|(simp;omega)|(simp;rfl)|(simp[List.map_set, *];done)|(simp[List.map_set, *];rfl)))
  ·rw[List.drop_eq_nil_of_le hge,allG]at hg
   repeat' (first|refine zaa [0,1,2,3,4,6,7,8,9,13,15,16,17,18,29] fun K hK=>?_|refine AWp.block ?_|(refine hK.go ?_;clear hK K)|refine Cont.go (by assumption) ?_|(refine cnd2 rfl (fun h=>?_) (fun h=>?_)<;>(try first|exact h.elim|obtain rfl:(_:Bool)=true:=h|obtain rfl:(_:Bool)=false:=h)<;>first|(exfalso;omega)|skip)|((first|refine AWp.reg hE hM ?_|refine AWp.regd hE hM ?_|refine AWp.ret ?_|refine AWp.skip ?_|refine AWp.exit ?_|(refine pk2 (fun h=>?_) (fun h=>?_)<;>(try first|exact h.elim|obtain rfl:(_:Bool)=true:=h|obtain rfl:(_:Bool)=false:=h))|refine zab (fun h=>?_) ?_|(refine hQ _ _ _ rfl ?_;clear hQ hR hE hM)|(refine hR _ _ (hQ _ _ _ rfl ?_);clear hQ hR hE hM)|(refine zaf ?_ ?_;focus first|omega|(refine zad ?_;(refine no_implicit_lambda% (st ?_);try with_reducible exact True.intro);done)))<;>try (refine no_implicit_lambda% (st ?_);try with_reducible exact True.intro)))
   all_goals (rw[←hg])
end Go.Lev
namespace Go.Lev
open Go.Eng
theorem zdB {p:Pln} {w:Wk} {s i:Int} {R:Int→Join→Bool} (h:(zaM p w s i R).lost=false):w.lost=false∧w.outs.length+1=(zaM p w s i R).outs.length:=by
 unfold zaM at h ⊢
 split
 ·rename_i h1;rw[if_pos h1,h1]at h;cases h
 ·rename_i h1
  rw[if_neg h1]at h
  split
  ·rename_i h2;rw[h2]at h;cases h
  ·rename_i s' h2
   rw[h2]at h
   dsimp only at h
   split
   ·rename_i h3;rw[h3]at h;cases h
   ·refine ⟨by simpa using h1,by simp⟩
theorem znk {p:Pln} {w:Wk} {s i:Int} (h:(zeH p w s i).lost=false):w.lost=false∧w.outs.length=(zeH p w s i).outs.length:=by
 unfold zeH at h ⊢
 split
 ·rename_i h2;rw[h2]at h;cases h
 ·rename_i s' h2
  rw[h2]at h
  dsimp only at h
  split
  ·rename_i h3;exact ⟨h3.1,rfl⟩
  ·rename_i h3;rw[if_neg h3]at h;exact ⟨h,rfl⟩
theorem zni {p:Pln} {r:Rte} {y:Sgn} {all:List Int} {i:Nat} {s:Int} {w:Wk} (hl:r.path.length≤all.length) (h:(zgr p r y all i s w).lost=false):w.lost=false∧w.outs.length≤(zgr p r y all i s w).outs.length∧(i<r.path.length→w.outs.length+1≤(zgr p r y all i s w).outs.length):=by
 unfold zgr at h ⊢
 split
 ·rename_i h1;rw[if_pos h1]at h;have:=zdB h;exact ⟨this.1,by omega,fun _=>by omega⟩
 ·rename_i h1
  rw[if_neg h1]at h
  split
  ·rename_i h2;rw[if_pos h2]at h;have:=zdB h;exact ⟨this.1,by omega,fun _=>by omega⟩
  ·rename_i h2
   rw[if_neg h2]at h
   split
   ·rename_i h3;rw[if_pos h3]at h;have:=znk h;exact ⟨this.1,by omega,fun _=>by omega⟩
   ·rename_i h3;rw[if_neg h3]at h;have:=zdB h;exact ⟨this.1,by omega,fun _=>by omega⟩
theorem zhU {p:Pln} {r:Rte} {y:Sgn} {all:List Int} (hl:r.path.length≤all.length):∀ (l:List Int) (i:Nat) (w:Wk),i+l.length=all.length→(zct p r y all i w l).lost=false→w.lost=false∧w.outs.length+(r.path.length-i)≤(zct p r y all i w l).outs.length
 |[],i,w,hi,h=>by
  rw[zct]at h ⊢
  simp only[List.length_nil]at hi
  exact ⟨h,by omega⟩
 |s::l,i,w,hi,h=>by
  rw[zct]at h ⊢
  simp only[List.length_cons]at hi
  have h1:=zhU hl l (i+1) _ (by omega) h
  have h2:=zni hl h1.1
  refine ⟨h2.1, ?_⟩
  have h3:=h2.2.2
  have h4:=h2.2.1
  omega
theorem zl8 {p:Pln} {r:Rte} (h:(zak p r).2.2=0):r.path.length≤(zak p r).2.1.length:=by
 unfold zak at h ⊢
 split
 ·rename_i h1;rw[if_pos h1]at h;cases h
 ·rename_i h1
  have h2:(zii p r).lost=false:=by simpa using h1
  have:=(zhU (by simp) _ _ _ (by simp) h2).2
  dsimp only at this ⊢
  unfold zii
  simp only[List.length_nil]at this
  omega
theorem zm8 (p:Pln) (r:Rte):(zak p r).2.2=0∨(zak p r).2.2=90:=by unfold zak;split<;>simp
theorem zcC {p:Pln} {r:Rte} (h:(zak p r).2.2=0):(zak p r).1.path=r.path∧(zak p r).1.over=r.over∧(zak p r).1.near=(sig p r.entry).sec:=by
 unfold zak at h ⊢
 split
 ·rename_i h1;rw[if_pos h1]at h;cases h
 ·exact ⟨rfl,rfl,rfl⟩
def zm0 (p:Pln) (a:AskR):Prop:=((∃ s∈p.sections,s.pt=a.pnt)∨(∃ x∈p.points,x.id=a.pnt))∧0<a.pnt∧(a.lie=1∨a.lie=2)
theorem zlc {p:Pln} {pt lie pos:Int} {l:List AskR} (hl:∀ a∈l,zm0 p a) (h:0<pt∧0<lie→((∃ s∈p.sections,s.pt=pt)∨(∃ x∈p.points,x.id=pt))∧(lie=1∨lie=2)):∀ a∈zmT pt lie pos l,zm0 p a:=by
 unfold zmT
 split
 ·rename_i hc
  intro a ha
  rcases List.mem_append.1 ha with ha|ha
  ·exact hl a ha
  ·simp only[List.mem_singleton]at ha
   subst ha
   exact ⟨(h hc).1,hc.1,(h hc).2⟩
 ·exact hl
end Go.Lev
namespace Go.Lev
open Go.Eng
set_option maxRecDepth 10000
set_option maxHeartbeats 4000000
variable {P:Program} {inv:Nat→Option Nat} {w0:World} {M:Nat→Prop}
def zjM:List Bool→List AskR→Bool
 |_,[]=>true
 |m,a::r=>!nth m a.pnt.toNat&&zjM (m.set a.pnt.toNat true) r
def once (l:List AskR):Bool:=zjM (List.replicate 100 false) l
theorem once_pc (hH:HasAll P inv) (l:List AskR) (hl:l.length≤1000000) (h:∀ a∈l,0≤a.pnt∧a.pnt≤99):PC P inv 83 [.sl 3 (l.map AskR.c)] (·=.b (once l)):=by
 refine zae (F:=cd83) (hH.has _ _ rfl) (Nat.le_of_ble_eq_true rfl) fun w0 M Q hM hQ hR=>?_;have hE:=hH.callable;dsimp only[cd83,qm,ql,qf,qi,qb,qc,qp,qv,qN,qT,qF,qt]at hQ ⊢
 repeat' (first|refine zaa [0,2,3,5,6,7,8,9,15] fun K hK=>?_|refine AWp.block ?_|(refine hK.go ?_;clear hK K)|refine Cont.go (by assumption) ?_|(refine cnd2 rfl (fun h=>?_) (fun h=>?_)<;>(try first|exact h.elim|obtain rfl:(_:Bool)=true:=h|obtain rfl:(_:Bool)=false:=h)<;>first|(exfalso;omega)|skip)|((first|refine AWp.reg hE hM ?_|refine AWp.regd hE hM ?_|refine AWp.ret ?_|refine AWp.skip ?_|refine AWp.exit ?_|(refine pk2 (fun h=>?_) (fun h=>?_)<;>(try first|exact h.elim|obtain rfl:(_:Bool)=true:=h|obtain rfl:(_:Bool)=false:=h))|refine zab (fun h=>?_) ?_|(refine hQ _ _ _ rfl ?_;clear hQ hR hE hM)|(refine hR _ _ (hQ _ _ _ rfl ?_);clear hQ hR hE hM)|(refine zaf ?_ ?_;focus first|omega|(refine zad ?_;(refine no_implicit_lambda% (st ?_);try with_reducible exact True.intro);done)))<;>try (refine no_implicit_lambda% (st ?_);try with_reducible exact True.intro)))
 refine zah (ι:=Nat×(List Bool)) [2,3,6,7,8] (fun zz=>[(8,.n zz.1)]) (fun zz=>[(0,.cells (zz.2.map AV.b) true)]) (fun zz=>zz.1≤l.length∧(zz.2.length=100)∧(zjM zz.2 (l.drop zz.1)=once l)) (fun zz=>l.length-zz.1) (0,List.replicate 100 false) ⟨Nat.zero_le _,(by first|rfl|assumption|omega|(simp;done)|(simp;omega)|grind),(by first|rfl|assumption|omega|(simp;done)|(simp;omega)|grind)⟩ (by (try dsimp only);(refine no_implicit_lambda% (st ?_);try with_reducible exact True.intro)<;>first|omega|(simp;done)) (by (try dsimp only);(refine no_implicit_lambda% (st ?_);try with_reducible exact True.intro)<;>first|omega|(simp;done)) ?_;rintro ⟨k,m⟩ ⟨hk,hp,hg⟩;(try dsimp only at hk hp hg ⊢);rcases Nat.lt_or_ge k l.length with hlt|hge
 ·rw[zap hlt]at hg
  rw[zjM]at hg
  have hb:=h _ (zal hlt)
  repeat' (first|refine zaa [0,2,3,5,6,7,8,9,15] fun K hK=>?_|refine AWp.block ?_|(refine hK.go ?_;clear hK K)|refine Cont.go (by assumption) ?_|(refine cnd2 rfl (fun h=>?_) (fun h=>?_)<;>(try first|exact h.elim|obtain rfl:(_:Bool)=true:=h|obtain rfl:(_:Bool)=false:=h)<;>first|(exfalso;omega)|skip)|((first|refine AWp.reg hE hM ?_|refine AWp.regd hE hM ?_|refine AWp.ret ?_|refine AWp.skip ?_|refine AWp.exit ?_|(refine pk2 (fun h=>?_) (fun h=>?_)<;>(try first|exact h.elim|obtain rfl:(_:Bool)=true:=h|obtain rfl:(_:Bool)=false:=h))|refine zab (fun h=>?_) ?_|(refine hQ _ _ _ rfl ?_;clear hQ hR hE hM)|(refine hR _ _ (hQ _ _ _ rfl ?_);clear hQ hR hE hM)|(refine zaf ?_ ?_;focus first|omega|(refine zad ?_;(refine no_implicit_lambda% (st ?_);try with_reducible exact True.intro);done)))<;>try simp -dsimp -implicitDefEqProofs (disch:=omega) only[go_sem,reduceIte,↓reduceIte,Nat.reduceEqDiff,Nat.reduceLT,Nat.reduceLeDiff,Nat.reduceAdd,Nat.reduceSub,Nat.reduceMul,Int.reduceToNat,Int.reduceLT,Int.reduceLE,Int.reduceEq,Int.reduceNeg,Int.reduceNe,reduceCtorEq,hp]))
  ·rw[←hg];simp[*]
  ·refine ⟨(k+1,m.set (nth l k).pnt.toNat true),by (try dsimp only);omega,⟨by (try dsimp only);omega,by (try dsimp only);simp[hp],by (try dsimp only);rw[←hg];simp[*]⟩, ?_⟩;(try dsimp only);(first|omega|(simp;done)|(simp;omega)|((refine no_implicit_lambda% (st ?_);try with_reducible exact True.intro);done)|(simp[List.map_set, *];done)|(simp[List.map_set, *];rfl)|((refine no_implicit_lambda% (st ?_);try with_reducible exact True.intro);simp[List.map_set, *];done)|((try (refine no_implicit_lambda% (st ?_);try with_reducible exact True.intro));(repeat' refine And.intro ?_ ?_)<;>first|omega|rfl|(simp;done)|(simp;omega)|(simp;rfl)|(simp[List.map_set, *];done)|(simp[List.map_set, *];rfl)))
 ·rw[List.drop_eq_nil_of_le hge,zjM]at hg
  repeat' (first|refine zaa [0,2,3,5,6,7,8,9,15] fun K hK=>?_|refine AWp.block ?_|(refine hK.go ?_;clear hK K)|refine Cont.go (by assumption) ?_|(refine cnd2 rfl (fun h=>?_) (fun h=>?_)<;>(try first|exact h.elim|obtain rfl:(_:Bool)=true:=h|obtain rfl:(_:Bool)=false:=h)<;>first|(exfalso;omega)|skip)|((first|refine AWp.reg hE hM ?_|refine AWp.regd hE hM ?_|refine AWp.ret ?_|refine AWp.skip ?_|refine AWp.exit ?_|(refine pk2 (fun h=>?_) (fun h=>?_)<;>(try first|exact h.elim|obtain rfl:(_:Bool)=true:=h|obtain rfl:(_:Bool)=false:=h))|refine zab (fun h=>?_) ?_|(refine hQ _ _ _ rfl ?_;clear hQ hR hE hM)|(refine hR _ _ (hQ _ _ _ rfl ?_);clear hQ hR hE hM)|(refine zaf ?_ ?_;focus first|omega|(refine zad ?_;(refine no_implicit_lambda% (st ?_);try with_reducible exact True.intro);done)))<;>try simp -dsimp -implicitDefEqProofs (disch:=omega) only[go_sem,reduceIte,↓reduceIte,Nat.reduceEqDiff,Nat.reduceLT,Nat.reduceLeDiff,Nat.reduceAdd,Nat.reduceSub,Nat.reduceMul,Int.reduceToNat,Int.reduceLT,Int.reduceLE,Int.reduceEq,Int.reduceNeg,Int.reduceNe,reduceCtorEq,hp]))
  rw[←hg]
def zkB (r:Rte) (i:Int) (j:Join) (x:Sgn):Bool:=decide (x.sec=j.to)&&(decide (x.ed=j.ed)&&(decide (i<(r.path.length:Int)-1)||!decide (x.id=r.exit)))
def zh7 (p:Pln) (r:Rte):Int→List Join→Bool
 |_,[]=>true
 |i,j::l=>!p.signals.any (zkB r i j)&&zh7 p r (i+1) l
def zi1 (p:Pln) (r:Rte) (outs:List Join):Bool:=zh7 p r 0 (outs.take r.path.length)
theorem clear_pc (hH:HasAll P inv) (p:Pln) (hp:Sm p) (r:Rte) (outs:List Join) (h1:r.path.length≤outs.length) (h2:outs.length≤1000000):PC P inv 84 [.agg p.c,.agg r.c,.sl 2 (outs.map Join.c)] (·=.b (zi1 p r outs)):=by
 have hls:=hp.sgn
 obtain ⟨l,hl⟩:∃ l,l=outs.take r.path.length:=⟨_,rfl⟩
 have hll:l.length=r.path.length:=by rw[hl];simp;omega
 have hlm:(outs.map Join.c).take r.path.length=l.map Join.c:=by rw[hl,List.map_take]
 unfold zi1
 rw[←hl]
 clear hl
 have hlm':(outs.map Join.c).take (r.path.length:Int).toNat=l.map Join.c:=hlm
 refine zae (F:=cd84) (hH.has _ _ rfl) (Nat.le_of_ble_eq_true rfl) fun w0 M Q hM hQ hR=>?_;have hE:=hH.callable;dsimp only[cd84,qm,ql,qf,qi,qb,qc,qp,qv,qN,qT,qF,qt]at hQ ⊢
 repeat' (first|refine zaa [0,1,2,3,4,6,7,8,10,15,16,17,18,23,24,25,26,55] fun K hK=>?_|refine AWp.block ?_|(refine hK.go ?_;clear hK K)|refine Cont.go (by assumption) ?_|(refine cnd2 rfl (fun h=>?_) (fun h=>?_)<;>(try first|exact h.elim|obtain rfl:(_:Bool)=true:=h|obtain rfl:(_:Bool)=false:=h)<;>first|(exfalso;omega)|skip)|((first|refine AWp.reg hE hM ?_|refine AWp.regd hE hM ?_|refine AWp.ret ?_|refine AWp.skip ?_|refine AWp.exit ?_|(refine pk2 (fun h=>?_) (fun h=>?_)<;>(try first|exact h.elim|obtain rfl:(_:Bool)=true:=h|obtain rfl:(_:Bool)=false:=h))|refine zab (fun h=>?_) ?_|(refine hQ _ _ _ rfl ?_;clear hQ hR hE hM)|(refine hR _ _ (hQ _ _ _ rfl ?_);clear hQ hR hE hM)|(refine zaf ?_ ?_;focus first|omega|(refine zad ?_;(refine no_implicit_lambda% (st ?_);try with_reducible exact True.intro);done)))<;>try simp -dsimp -implicitDefEqProofs (disch:=omega) only[go_sem,reduceIte,↓reduceIte,Nat.reduceEqDiff,Nat.reduceLT,Nat.reduceLeDiff,Nat.reduceAdd,Nat.reduceSub,Nat.reduceMul,Int.reduceToNat,Int.reduceLT,Int.reduceLE,Int.reduceEq,Int.reduceNeg,Int.reduceNe,reduceCtorEq,Int.toNat_natCast,hlm,hlm']))
 refine zah (ι:=Nat) [3,4,6,15,16,17] (fun zz=>[(17,.n zz)]) (fun zz=>[]) (fun zz=>zz≤l.length∧(zh7 p r zz (l.drop zz)=zh7 p r 0 l)) (fun zz=>l.length-zz) (0) ⟨Nat.zero_le _,(by first|rfl|assumption|omega|(simp;done)|(simp;omega)|grind)⟩ (by (try dsimp only);(refine no_implicit_lambda% (st ?_);try with_reducible exact True.intro)<;>first|omega|(simp;done)) (by (try dsimp only);(refine no_implicit_lambda% (st ?_);try with_reducible exact True.intro)<;>first|omega|(simp;done)) ?_;rintro k ⟨hk,hg⟩;(try dsimp only at hk hg ⊢);rcases Nat.lt_or_ge k l.length with hlt|hge
 ·rw[zap hlt]at hg
  rw[zh7]at hg
  generalize hj:nth l k=j at hg
  repeat' (first|refine zaa [0,1,2,3,4,6,7,8,10,15,16,17,18,23,24,25,26,55] fun K hK=>?_|refine AWp.block ?_|(refine hK.go ?_;clear hK K)|refine Cont.go (by assumption) ?_|(refine cnd2 rfl (fun h=>?_) (fun h=>?_)<;>(try first|exact h.elim|obtain rfl:(_:Bool)=true:=h|obtain rfl:(_:Bool)=false:=h)<;>first|(exfalso;omega)|skip)|((first|refine AWp.reg hE hM ?_|refine AWp.regd hE hM ?_|refine AWp.ret ?_|refine AWp.skip ?_|refine AWp.exit ?_|(refine pk2 (fun h=>?_) (fun h=>?_)<;>(try first|exact h.elim|obtain rfl:(_:Bool)=true:=h|obtain rfl:(_:Bool)=false:=h))|refine zab (fun h=>?_) ?_|(refine hQ _ _ _ rfl ?_;clear hQ hR hE hM)|(refine hR _ _ (hQ _ _ _ rfl ?_);clear hQ hR hE hM)|(refine zaf ?_ ?_;focus first|omega|(refine zad ?_;(refine no_implicit_lambda% (st ?_);try with_reducible exact True.intro);done)))<;>try simp -dsimp -implicitDefEqProofs (disch:=omega) only[go_sem,reduceIte,↓reduceIte,Nat.reduceEqDiff,Nat.reduceLT,Nat.reduceLeDiff,Nat.reduceAdd,Nat.reduceSub,Nat.reduceMul,Int.reduceToNat,Int.reduceLT,Int.reduceLE,Int.reduceEq,Int.reduceNeg,Int.reduceNe,reduceCtorEq,hj]))
  refine zah (ι:=Nat) [3,4,6,7,8,15,16,17,23,24,25] (fun zz=>[(25,.n zz)]) (fun zz=>[]) (fun zz=>zz≤p.signals.length∧(((p.signals.drop zz).any (zkB r k j))=p.signals.any (zkB r k j))) (fun zz=>p.signals.length-zz) (0) ⟨Nat.zero_le _,(by first|rfl|assumption|omega|(simp;done)|(simp;omega)|grind)⟩ (by (try dsimp only);(refine no_implicit_lambda% (st ?_);try with_reducible exact True.intro)<;>first|omega|(simp;done)) (by (try dsimp only);(refine no_implicit_lambda% (st ?_);try with_reducible exact True.intro)<;>first|omega|(simp;done)) ?_;rintro m ⟨hk,hg2⟩;(try dsimp only at hk hg2 ⊢);rcases Nat.lt_or_ge m p.signals.length with hlt|hge
  ·rw[zap (by assumption),List.any_cons]at hg2
   repeat' (first|refine zaa [0,1,2,3,4,6,7,8,10,15,16,17,18,23,24,25,26,55] fun K hK=>?_|refine AWp.block ?_|(refine hK.go ?_;clear hK K)|refine Cont.go (by assumption) ?_|(refine cnd2 rfl (fun h=>?_) (fun h=>?_)<;>(try first|exact h.elim|obtain rfl:(_:Bool)=true:=h|obtain rfl:(_:Bool)=false:=h)<;>first|(exfalso;omega)|skip)|((first|refine AWp.reg hE hM ?_|refine AWp.regd hE hM ?_|refine AWp.ret ?_|refine AWp.skip ?_|refine AWp.exit ?_|(refine pk2 (fun h=>?_) (fun h=>?_)<;>(try first|exact h.elim|obtain rfl:(_:Bool)=true:=h|obtain rfl:(_:Bool)=false:=h))|refine zab (fun h=>?_) ?_|(refine hQ _ _ _ rfl ?_;clear hQ hR hE hM)|(refine hR _ _ (hQ _ _ _ rfl ?_);clear hQ hR hE hM)|(refine zaf ?_ ?_;focus first|omega|(refine zad ?_;(refine no_implicit_lambda% (st ?_);try with_reducible exact True.intro);done)))<;>try (refine no_implicit_lambda% (st ?_);try with_reducible exact True.intro)))
   all_goals first
    |(rw[show zkB r k j (nth p.signals m)=true by simp[zkB, *],Bool.true_or]at hg2;rw[←hg,←hg2];rfl)
    |(rw[show zkB r k j (nth p.signals m)=false by simp[zkB, *],Bool.false_or]at hg2;exact ⟨m+1,by omega,⟨by omega,hg2⟩,by omega⟩)
  ·rw[List.drop_eq_nil_of_le (by assumption),List.any_nil]at hg2
   repeat' (first|refine zaa [0,1,2,3,4,6,7,8,10,15,16,17,18,23,24,25,26,55] fun K hK=>?_|refine AWp.block ?_|(refine hK.go ?_;clear hK K)|refine Cont.go (by assumption) ?_|(refine cnd2 rfl (fun h=>?_) (fun h=>?_)<;>(try first|exact h.elim|obtain rfl:(_:Bool)=true:=h|obtain rfl:(_:Bool)=false:=h)<;>first|(exfalso;omega)|skip)|((first|refine AWp.reg hE hM ?_|refine AWp.regd hE hM ?_|refine AWp.ret ?_|refine AWp.skip ?_|refine AWp.exit ?_|(refine pk2 (fun h=>?_) (fun h=>?_)<;>(try first|exact h.elim|obtain rfl:(_:Bool)=true:=h|obtain rfl:(_:Bool)=false:=h))|refine zab (fun h=>?_) ?_|(refine hQ _ _ _ rfl ?_;clear hQ hR hE hM)|(refine hR _ _ (hQ _ _ _ rfl ?_);clear hQ hR hE hM)|(refine zaf ?_ ?_;focus first|omega|(refine zad ?_;(refine no_implicit_lambda% (st ?_);try with_reducible exact True.intro);done)))<;>try (refine no_implicit_lambda% (st ?_);try with_reducible exact True.intro)))
   rw[←hg2,Bool.not_false,Bool.true_and]at hg
   exact ⟨k+1,by omega,⟨by omega,by rw[←hg];rfl⟩,by omega⟩
 ·rw[List.drop_eq_nil_of_le hge,zh7]at hg
  repeat' (first|refine zaa [0,1,2,3,4,6,7,8,10,15,16,17,18,23,24,25,26,55] fun K hK=>?_|refine AWp.block ?_|(refine hK.go ?_;clear hK K)|refine Cont.go (by assumption) ?_|(refine cnd2 rfl (fun h=>?_) (fun h=>?_)<;>(try first|exact h.elim|obtain rfl:(_:Bool)=true:=h|obtain rfl:(_:Bool)=false:=h)<;>first|(exfalso;omega)|skip)|((first|refine AWp.reg hE hM ?_|refine AWp.regd hE hM ?_|refine AWp.ret ?_|refine AWp.skip ?_|refine AWp.exit ?_|(refine pk2 (fun h=>?_) (fun h=>?_)<;>(try first|exact h.elim|obtain rfl:(_:Bool)=true:=h|obtain rfl:(_:Bool)=false:=h))|refine zab (fun h=>?_) ?_|(refine hQ _ _ _ rfl ?_;clear hQ hR hE hM)|(refine hR _ _ (hQ _ _ _ rfl ?_);clear hQ hR hE hM)|(refine zaf ?_ ?_;focus first|omega|(refine zad ?_;(refine no_implicit_lambda% (st ?_);try with_reducible exact True.intro);done)))<;>try (refine no_implicit_lambda% (st ?_);try with_reducible exact True.intro)))
  rw[←hg]
def allOk (p:Pln):Bool:=p.routes.all fun r=>decide ((zak p r).2.2=0)
theorem zkk (p:Pln):∀ (l:List Rte) (ws:List WayR) (os:List (List Join)),allG p l ws os=if (l.all fun r=>decide ((zak p r).2.2=0))=true then (ws++l.map fun r=>(zak p r).1,os++l.map fun r=>(zak p r).2.1,0) else ([],[],90)
 |[],ws,os=>by simp[allG]
 |r::l,ws,os=>by
  rw[allG,zkk p l]
  rcases zm8 p r with h|h
  ·rw[if_pos h];simp[h]
  ·rw[if_neg (by omega),h];simp[h]
theorem zkj (p:Pln):allW p=if zco p=true then (if allOk p=true then (p.routes.map fun r=>(zak p r).1,p.routes.map fun r=>(zak p r).2.1,0) else ([],[],90)) else ([],[],8):=by
 unfold allW allOk
 rw[zkk]
 simp
def zcQ (p:Pln) (r:Rte):Bool:=once (zak p r).1.asks&&zi1 p r (zak p r).2.1
def zbm (p:Pln):Bool:=zco p&&(allOk p&&p.routes.all (zcQ p))
def zbt (p:Pln):Int:=if zbm p=true then 0 else 100
end Go.Lev
namespace Go.Lev
open Go.Eng
theorem zjt {s:Section} {f t:Int} (h:(zbf s f t).2=0):0≤(zbf s f t).1∧(zbf s f t).1≤2:=by
 unfold zbf at h ⊢
 split
 ·rename_i h1
  rw[if_pos h1]at h
  split
  ·rename_i h2;rw[if_pos h2]at h;simp at h
  ·rename_i h2
   dsimp only
   refine ⟨by omega, ?_⟩
   unfold rLie
   repeat' split
   all_goals omega
 ·rename_i h1;rw[if_neg h1]at h;simp at h
theorem joinEd {l:List Section} (h:zja l=true) {s:Section} (hs:s∈l) {j:Join} (hj:j∈s.ends):0≤j.ed∧j.ed≤2:=by
 have h1:=(zlF l).1 h
 obtain ⟨i,hi,rfl⟩:=List.mem_iff_getElem.1 hj
 rw[←zaV hi]
 rcases h1.join s hs i hi with h2|⟨_,h3,s',hs',_,h4,_⟩
 ·omega
 ·have:=(zci h s' hs').2.2.2.2
  omega
theorem zfZ {s:Section} {f:Int} {R:Int→Join→Bool}:∀ {l:List Join} {e:Nat} {v:Nat×Join×Int},zbv s f R e l=some v→v.2.1∈l∧0≤v.2.2∧v.2.2≤2
 |[],e,v,h=>by simp[zbv]at h
 |j::r,e,v,h=>by
  rw[zbv]at h
  split at h
  ·rename_i h1
   simp only[Option.some.injEq]at h
   subst h
   exact ⟨by simp,zjt h1.1⟩
  ·have:=zfZ h
   exact ⟨by simp[this.1],this.2⟩
theorem zjq {p:Pln} {w:Wk} {id:Int} {s:Section} (h:zjr p w id=some s):s∈p.sections:=by
 unfold zjr at h
 split at h
 ·exact List.mem_of_find?_eq_some h
 ·cases h
def WkOK (p:Pln) (w:Wk):Prop:=(0≤w.inn.ed∧w.inn.ed≤2)∧∀ a∈w.asks,zm0 p a
theorem zku {p:Pln} (h:OkP p) {w:Wk} {s i:Int} {R:Int→Join→Bool} (hw:WkOK p w):WkOK p (zaM p w s i R):=by
 unfold zaM
 split
 ·exact hw
 ·split
  ·exact hw
  ·rename_i t ht
   have hs:=zjq ht
   split
   ·exact hw
   ·rename_i e j lie hp
    have:=zfZ hp
    dsimp only at this
    exact ⟨joinEd h.sec hs this.1,zlc hw.2 fun hc=>⟨.inl ⟨t,hs,rfl⟩,by omega⟩⟩
theorem stayW_ok {p:Pln} {w:Wk} {s i:Int} (hw:WkOK p w):WkOK p (zeH p w s i):=by
 unfold zeH
 split
 ·exact hw
 ·rename_i t ht
  have hs:=zjq ht
  split
  ·exact ⟨hw.1,zlc hw.2 fun hc=>⟨.inl ⟨t,hs,rfl⟩,by have:=hw.1;omega⟩⟩
  ·exact hw
theorem zje {p:Pln} (h:OkP p) {r:Rte} {y:Sgn} {all:List Int}:∀ (l:List Int) (i:Nat) (w:Wk),WkOK p w→WkOK p (zct p r y all i w l)
 |[],_,_,hw=>hw
 |s::l,i,w,hw=>by
  rw[zct]
  refine zje h l _ _ ?_
  unfold zgr
  repeat' split
  all_goals first|exact zku h hw|exact stayW_ok hw
theorem zoq {p:Pln} (h:OkP p) {x:Sgn} (he:∀ s∈p.sections,s.id=x.sec→0≤x.ed∧x.ed<s.ends.length):∀ (l:List Section) (j:Join),(∀ s∈l,s∈p.sections)→(0≤j.ed∧j.ed≤2)→0≤(zmF x j l).ed∧(zmF x j l).ed≤2
 |[],_,_,hj=>hj
 |s::l,j,hl,hj=>by
  rw[zmF]
  refine zoq h he l _ (fun t ht=>hl t (by simp[ht])) ?_
  split
  ·rename_i hid
   have:=he s (hl s (by simp)) hid
   exact joinEd h.sec (hl s (by simp)) (zal (by omega))
  ·exact hj
theorem zlT {p:Pln}:∀ (f:List Flk) (l:List AskR),(∀ a∈l,zm0 p a)→(∀ x∈f,(∃ y∈p.points,y.id=x.pnt)∧(x.lie=1∨x.lie=2))→∀ a∈zhM l f,zm0 p a
 |[],l,hl,_=>hl
 |x::f,l,hl,hf=>by
  rw[zhM]
  refine zlT f _ (zlc hl fun _=>?_) fun y hy=>hf y (by simp[hy])
  have:=hf x (by simp)
  exact ⟨.inr this.1,this.2⟩
theorem zl9 {p:Pln} (h:OkP p) {r:Rte} (hr:r∈p.routes):∀ a∈(zak p r).1.asks,zm0 p a:=by
 unfold zak
 split
 ·simp
 ·have h0:WkOK p (zii p r):=by
   unfold zii
   exact zje h _ _ _ ⟨zoq h (zh6 h r) _ _ (fun _ hs=>hs) (by simp),by simp⟩
  have h1:=h.rte r hr
  simp only[zf5,Bool.and_eq_true]at h1
  exact zlT _ _ h0.2 (zlU _ _ _ h1.2.2.2.2)
theorem zfA:∀ (l:List Section) (a:List Int) (m:Int),(zm1 a m l).2=m+((l.filter fun s=>decide (0<s.pt)).length:Int)
 |[],a,m=>by simp[zm1]
 |s::r,a,m=>by
  rw[zm1]
  split
  ·rename_i h1;rw[zfA r,List.filter_cons_of_pos (by simpa using h1),List.length_cons];omega
  ·rename_i h1;rw[zfA r,List.filter_cons_of_neg (by simpa using h1)]
theorem zkJ:∀ (l:List Section) (a:List Int) (m:Int) (i:Nat),(∀ s∈l,s.pt≤99)→a.length=100→nth (zm1 a m l).1 i=nth a i∨∃ s∈l,0<s.pt∧s.pt.toNat=i∧s.id=nth (zm1 a m l).1 i
 |[],a,m,i,_,_=>.inl rfl
 |s::r,a,m,i,hl,ha=>by
  rw[zm1]
  have hs:=hl s (by simp)
  split
  ·rename_i h1
   rcases zkJ r (a.set s.pt.toNat s.id) (m+1) i (fun t ht=>hl t (by simp[ht])) (by simpa using ha) with h2|⟨t,ht,h3⟩
   ·rw[h2,zbD _ _ _ _ (by omega)]
    by_cases h4:i=s.pt.toNat
    ·rw[if_pos h4];exact .inr ⟨s,by simp,h1,h4.symm,rfl⟩
    ·rw[if_neg h4];exact .inl rfl
   ·exact .inr ⟨t,by simp[ht],h3⟩
  ·rcases zkJ r a m i (fun t ht=>hl t (by simp[ht])) ha with h2|⟨t,ht,h3⟩
   ·exact .inl h2
   ·exact .inr ⟨t,by simp[ht],h3⟩
theorem ziF {l1:List Int}:∀ {l2:List Int},l1.Nodup→(∀ x∈l1,x∈l2)→l1.length≤l2.length:=by
 induction l1 with
 |nil=>intro l2 _ _;simp
 |cons x l ih =>
  intro l2 hn hs
  simp only[List.nodup_cons]at hn
  have hx:=hs x (by simp)
  have:=ih (l2:=l2.erase x) hn.2 fun y hy=>(List.mem_erase_of_ne (by intro e;subst e;exact hn.1 hy)).2 (hs y (by simp[hy]))
  rw[List.length_erase_of_mem hx]at this
  have:=List.length_pos_of_mem hx
  simp only[List.length_cons]
  omega
theorem pigeon {l1 l2:List Int} (h1:l1.Nodup) (hs:∀ x∈l1,x∈l2) (hl:l2.length≤l1.length):∀ y∈l2,y∈l1:=by
 intro y hy
 rcases Classical.em (y∈l1) with h|h
 ·exact h
 ·exfalso
  have:=ziF (l1:=y::l1) (l2:=l2) (by simp[h,h1]) (by simp;exact ⟨hy,hs⟩)
  simp only[List.length_cons]at this
  omega
theorem ziw {l:List Int} {m:Int} (h:rise l m=true):l.Nodup:=ziM ((zeT l m).1 h).2.1
theorem znK {p:Pln} (h:OkP p) {x:Pnt} (hx:x∈p.points):∃ s∈p.sections,0<s.pt∧s.pt=x.id∧s.id=x.sec:=by
 have hp:=h.pts
 simp only[points,Bool.and_eq_true,decide_eq_true_eq,Bool.not_eq_true']at hp
 have hr:=((zeT _ _).1 hp.1).1 x.id (List.mem_map_of_mem hx)
 have hb:=(List.any_eq_false.1 hp.2.2) x hx
 simp only[zkK,Bool.or_eq_true,decide_eq_true_eq,Bool.not_eq_true',decide_eq_false_iff_not,not_or]at hb
 have h1:=zci h.sec
 rcases zkJ p.sections (List.replicate 100 0) 0 x.id.toNat (fun s hs=>by have:=h1 s hs;omega) (by simp) with h2|⟨s,hs,h3,h4,h5⟩
 ·exfalso
  have h6:nth (pts p.sections).1 x.id.toNat=0:=by unfold pts;rw[h2,zg4 _ _ _ (by omega)]
  have h7:nth (pts p.sections).1 x.id.toNat=x.sec:=by
   rcases Classical.em (nth (pts p.sections).1 x.id.toNat=x.sec) with h8|h8
   ·exact h8
   ·exact absurd h8 hb.2
  omega
 ·have h7:nth (pts p.sections).1 x.id.toNat=x.sec:=by
   rcases Classical.em (nth (pts p.sections).1 x.id.toNat=x.sec) with h8|h8
   ·exact h8
   ·exact absurd h8 hb.2
  exact ⟨s,hs,h3,by have:=h1 s hs;omega,by rw[h5];exact h7⟩
theorem sec_pts {p:Pln} (h:OkP p) {s:Section} (hs:s∈p.sections) (h0:0<s.pt):∃ x∈p.points,x.id=s.pt:=by
 have hp:=h.pts
 simp only[points,Bool.and_eq_true,decide_eq_true_eq,Bool.not_eq_true']at hp
 have hc:(pts p.sections).2=((p.sections.filter fun s=>decide (0<s.pt)).length:Int):=by unfold pts;rw[zfA];omega
 have:=pigeon (l1:=p.points.map Pnt.id) (l2:=(p.sections.filter fun s=>decide (0<s.pt)).map Section.pt) (ziw hp.1) (fun i hi=>by
  obtain ⟨x,hx,rfl⟩:=List.mem_map.1 hi
  obtain ⟨t,ht,h3,h4,h5⟩:=znK h hx
  exact List.mem_map.2 ⟨t,List.mem_filter.2 ⟨ht,by simpa using h3⟩,h4⟩) (by simp only[List.length_map];have:=hp.2.1;omega) s.pt (List.mem_map.2 ⟨s,List.mem_filter.2 ⟨hs,by simpa using h0⟩,rfl⟩)
 obtain ⟨x,hx,e⟩:=List.mem_map.1 this
 exact ⟨x,hx,e⟩
theorem zbK {p:Pln} (h:OkP p) {r:Rte} (hr:r∈p.routes) {a:AskR} (ha:a∈(zak p r).1.asks):(∃ x∈p.points,x.id=a.pnt)∧(1≤a.pnt∧a.pnt≤99)∧(a.lie=1∨a.lie=2):=by
 have h1:=zl9 h hr a ha
 have h2:∃ x∈p.points,x.id=a.pnt:=by
  rcases h1.1 with ⟨s,hs,e⟩|h3
  ·rw[←e];exact sec_pts h hs (by rw[e];exact h1.2.1)
  ·exact h3
 refine ⟨h2, ?_,h1.2.2⟩
 obtain ⟨x,hx,e⟩:=h2
 have hp:=h.pts
 simp only[points,Bool.and_eq_true]at hp
 have:=((zeT _ _).1 hp.1).1 x.id (List.mem_map_of_mem hx)
 omega
theorem zdZ {p:Pln} (h:OkP p) {r:Rte} (hr:r∈p.routes):(∀ n∈r.path++r.over,∃ s∈p.sections,s.id=n)∧(r.path++r.over).Nodup:=by
 have h1:=h.rte r hr
 simp only[zf5,ziu,Bool.and_eq_true]at h1
 have h2:=(zlL _ _ _ (by simp)).1 h1.2.2.2.1
 exact ⟨fun n hn=>(zne h.sec n).1 (h2.1 n hn).1,h2.2⟩
theorem zdF {p:Pln} (h:OkP p) {s:Section} (hs:s∈p.sections):1≤s.id∧s.id≤99:=by have:=zci h.sec s hs;omega
end Go.Lev
namespace Go.Lev
open Go.Eng
set_option maxRecDepth 10000
set_option maxHeartbeats 4000000
variable {P:Program} {inv:Nat→Option Nat} {w0:World} {M:Nat→Prop}
theorem nthm {α β:Type} [Inhabited α] [Inhabited β] (f:α→β) {l:List α} {i:Nat} (h:i<l.length):nth (l.map f) i=f (nth l i):=by
 rw[zaV (by simpa using h),zaV h];simp
theorem znj (p:Pln) (r:Rte) (y:Sgn) (all:List Int) (i:Nat) (s:Int) (w:Wk):(zgr p r y all i s w).asks.length≤w.asks.length+1∧(zgr p r y all i s w).outs.length≤w.outs.length+1:=by
 unfold zgr
 repeat' split
 all_goals first|exact zcO _ _ _ _ _|exact zjf _ _ _ _
theorem zhV (p:Pln) (r:Rte) (y:Sgn) (all:List Int):∀ (l:List Int) (i:Nat) (w:Wk),(zct p r y all i w l).asks.length≤w.asks.length+l.length∧(zct p r y all i w l).outs.length≤w.outs.length+l.length
 |[],_,_=>⟨Nat.le_refl _,Nat.le_refl _⟩
 |s::l,i,w=>by
  rw[zct]
  have h1:=zhV p r y all l (i+1) (zgr p r y all i s w)
  have h2:=znj p r y all i s w
  simp only[List.length_cons]
  omega
theorem zjT:∀ (f:List Flk) (l:List AskR),(zhM l f).length≤l.length+f.length
 |[],l=>Nat.le_refl _
 |x::f,l=>by
  rw[zhM]
  have h1:=zjT f (zmT x.pnt x.lie (-1) l)
  have h2:=zi7 x.pnt x.lie (-1) l
  simp only[List.length_cons]
  omega
theorem zcY {p:Pln} (h:OkP p) {r:Rte} (hr:r∈p.routes):(zak p r).1.asks.length≤1000∧(zak p r).2.1.length≤1000∧(zak p r).1.path.length≤1000∧(zak p r).1.over.length≤1000:=by
 have hl:=zeA h hr
 unfold zak
 split
 ·simp
 ·unfold zii
  have h1:=zhV p r (sig p r.exit) (r.path++r.over) (r.path++r.over) 0 ⟨zmF (sig p r.entry) ⟨0,0⟩ p.sections,[],[],false⟩
  have h2:=zjT r.flanks (zct p r (sig p r.exit) (r.path++r.over) 0 ⟨zmF (sig p r.entry) ⟨0,0⟩ p.sections,[],[],false⟩ (r.path++r.over)).asks
  simp only[List.length_append,List.length_nil]at h1 h2
  dsimp only
  omega
theorem zdg (hH:HasAll P inv) (hI:HasIds P inv) (p:Pln) (hp:Sm p):PC P inv 70 [.agg p.c] (·=.n (zbt p)):=by
 have hlr:=hp.rte
 have c0:=all_pc hH hI p hp
 have hs:=zkj p
 unfold zbt zbm
 cases ho:zco p with
 |false =>
  rw[ho,if_neg (by simp)]at hs
  rw[hs]at c0
  rw[Bool.false_and,if_neg (by simp)]
  refine zae (F:=cd70) (hH.has _ _ rfl) (Nat.le_of_ble_eq_true rfl) fun w0 M Q hM hQ hR=>?_;have hE:=hH.callable;dsimp only[cd70,qm,ql,qf,qi,qb,qc,qp,qv,qN,qT,qF,qt]at hQ ⊢
  repeat' (first|refine zaa [0,1,2,3,4,5,6,7,15,17,18,19,20,29,38,40] fun K hK=>?_|refine AWp.block ?_|(refine hK.go ?_;clear hK K)|refine Cont.go (by assumption) ?_|(refine cnd2 rfl (fun h=>?_) (fun h=>?_)<;>(try first|exact h.elim|obtain rfl:(_:Bool)=true:=h|obtain rfl:(_:Bool)=false:=h)<;>first|(exfalso;omega)|skip)|((first|refine AWp.reg hE hM ?_|refine AWp.regd hE hM ?_|refine AWp.ret ?_|refine AWp.skip ?_|refine AWp.exit ?_|(refine pk2 (fun h=>?_) (fun h=>?_)<;>(try first|exact h.elim|obtain rfl:(_:Bool)=true:=h|obtain rfl:(_:Bool)=false:=h))|refine zab (fun h=>?_) ?_|refine zac hM (c0) ?_|(refine hQ _ _ _ rfl ?_;clear hQ hR hE hM)|(refine hR _ _ (hQ _ _ _ rfl ?_);clear hQ hR hE hM)|(refine zaf ?_ ?_;focus first|omega|(refine zad ?_;(refine no_implicit_lambda% (st ?_);try with_reducible exact True.intro);done)))<;>try (refine no_implicit_lambda% (st ?_);try with_reducible exact True.intro)))
  all_goals first|rfl|(exfalso;contradiction)
 |true =>
  have hok:=zg0 ho
  rw[ho,if_pos rfl]at hs
  cases ha:allOk p with
  |false =>
   rw[ha,if_neg (by simp)]at hs
   rw[hs]at c0
   rw[Bool.false_and,Bool.true_and,if_neg (by simp)]
   refine zae (F:=cd70) (hH.has _ _ rfl) (Nat.le_of_ble_eq_true rfl) fun w0 M Q hM hQ hR=>?_;have hE:=hH.callable;dsimp only[cd70,qm,ql,qf,qi,qb,qc,qp,qv,qN,qT,qF,qt]at hQ ⊢
   repeat' (first|refine zaa [0,1,2,3,4,5,6,7,15,17,18,19,20,29,38,40] fun K hK=>?_|refine AWp.block ?_|(refine hK.go ?_;clear hK K)|refine Cont.go (by assumption) ?_|(refine cnd2 rfl (fun h=>?_) (fun h=>?_)<;>(try first|exact h.elim|obtain rfl:(_:Bool)=true:=h|obtain rfl:(_:Bool)=false:=h)<;>first|(exfalso;omega)|skip)|((first|refine AWp.reg hE hM ?_|refine AWp.regd hE hM ?_|refine AWp.ret ?_|refine AWp.skip ?_|refine AWp.exit ?_|(refine pk2 (fun h=>?_) (fun h=>?_)<;>(try first|exact h.elim|obtain rfl:(_:Bool)=true:=h|obtain rfl:(_:Bool)=false:=h))|refine zab (fun h=>?_) ?_|refine zac hM (c0) ?_|(refine hQ _ _ _ rfl ?_;clear hQ hR hE hM)|(refine hR _ _ (hQ _ _ _ rfl ?_);clear hQ hR hE hM)|(refine zaf ?_ ?_;focus first|omega|(refine zad ?_;(refine no_implicit_lambda% (st ?_);try with_reducible exact True.intro);done)))<;>try (refine no_implicit_lambda% (st ?_);try with_reducible exact True.intro)))
   all_goals first|rfl|(exfalso;contradiction)
  |true =>
   rw[ha,if_pos rfl]at hs
   rw[hs]at c0
   rw[Bool.true_and,Bool.true_and]
   dsimp only at c0
   clear hs
   obtain ⟨WS,hWS⟩:∃ WS,WS=p.routes.map fun r=>(zak p r).1:=⟨_,rfl⟩
   obtain ⟨OS,hOS⟩:∃ OS,OS=p.routes.map fun r=>(zak p r).2.1:=⟨_,rfl⟩
   rw[←hWS,←hOS]at c0
   have hl1:WS.length=p.routes.length:=by rw[hWS,List.length_map]
   have hl2:OS.length=p.routes.length:=by rw[hOS,List.length_map]
   refine zae (F:=cd70) (hH.has _ _ rfl) (Nat.le_of_ble_eq_true rfl) fun w0 M Q hM hQ hR=>?_;have hE:=hH.callable;dsimp only[cd70,qm,ql,qf,qi,qb,qc,qp,qv,qN,qT,qF,qt]at hQ ⊢
   repeat' (first|refine zaa [0,1,2,3,4,5,6,7,15,17,18,19,20,29,38,40] fun K hK=>?_|refine AWp.block ?_|(refine hK.go ?_;clear hK K)|refine Cont.go (by assumption) ?_|(refine cnd2 rfl (fun h=>?_) (fun h=>?_)<;>(try first|exact h.elim|obtain rfl:(_:Bool)=true:=h|obtain rfl:(_:Bool)=false:=h)<;>first|(exfalso;omega)|skip)|((first|refine AWp.reg hE hM ?_|refine AWp.regd hE hM ?_|refine AWp.ret ?_|refine AWp.skip ?_|refine AWp.exit ?_|(refine pk2 (fun h=>?_) (fun h=>?_)<;>(try first|exact h.elim|obtain rfl:(_:Bool)=true:=h|obtain rfl:(_:Bool)=false:=h))|refine zab (fun h=>?_) ?_|refine zac hM (c0) ?_|(refine hQ _ _ _ rfl ?_;clear hQ hR hE hM)|(refine hR _ _ (hQ _ _ _ rfl ?_);clear hQ hR hE hM)|(refine zaf ?_ ?_;focus first|omega|(refine zad ?_;(refine no_implicit_lambda% (st ?_);try with_reducible exact True.intro);done)))<;>try (refine no_implicit_lambda% (st ?_);try with_reducible exact True.intro)))
   all_goals first|(exfalso;contradiction)|skip
   refine zah (ι:=Nat) [1,2,3,4,17,18,19] (fun zz=>[(19,.n zz)]) (fun zz=>[]) (fun zz=>zz≤p.routes.length∧(((p.routes.drop zz).all (zcQ p))=(p.routes.all (zcQ p)))) (fun zz=>p.routes.length-zz) (0) ⟨Nat.zero_le _,(by first|rfl|assumption|omega|(simp;done)|(simp;omega)|grind)⟩ (by (try dsimp only);(refine no_implicit_lambda% (st ?_);try with_reducible exact True.intro)<;>first|omega|(simp;done)) (by (try dsimp only);(refine no_implicit_lambda% (st ?_);try with_reducible exact True.intro)<;>first|omega|(simp;done)) ?_;rintro k ⟨hk,hg⟩;(try dsimp only at hk hg ⊢);rcases Nat.lt_or_ge k p.routes.length with hlt|hge
   ·rw[zap hlt]at hg
    rw[List.all_cons]at hg
    have hm:=zal hlt
    have hwl:=zcY hok hm
    have hw:(zak p (nth p.routes k)).2.2=0:=by
     have:=(List.all_eq_true.1 ha) _ hm
     simpa using this
    have hwo:=zl8 hw
    have c1:=once_pc hH (zak p (nth p.routes k)).1.asks (by omega) (fun a h=>by have:=zbK hok hm h;omega)
    have c2:=clear_pc hH p hp (nth p.routes k) (zak p (nth p.routes k)).2.1 hwo (by omega)
    have e1:nth WS k=(zak p (nth p.routes k)).1:=by rw[hWS];exact nthm (fun r=>(zak p r).1) hlt
    have e2:nth OS k=(zak p (nth p.routes k)).2.1:=by rw[hOS];exact nthm (fun r=>(zak p r).2.1) hlt
    unfold zcQ at hg
    revert c1 c2 hg
    generalize hA:once (zak p (nth p.routes k)).1.asks=A
    generalize hB:zi1 p (nth p.routes k) (zak p (nth p.routes k)).2.1=B
    intro hg c1 c2
    repeat' (first|refine zaa [0,1,2,3,4,5,6,7,15,17,18,19,20,29,38,40] fun K hK=>?_|refine AWp.block ?_|(refine hK.go ?_;clear hK K)|refine Cont.go (by assumption) ?_|(refine cnd2 rfl (fun h=>?_) (fun h=>?_)<;>(try first|exact h.elim|obtain rfl:(_:Bool)=true:=h|obtain rfl:(_:Bool)=false:=h)<;>first|(exfalso;omega)|skip)|((first|refine AWp.reg hE hM ?_|refine AWp.regd hE hM ?_|refine AWp.ret ?_|refine AWp.skip ?_|refine AWp.exit ?_|(refine pk2 (fun h=>?_) (fun h=>?_)<;>(try first|exact h.elim|obtain rfl:(_:Bool)=true:=h|obtain rfl:(_:Bool)=false:=h))|refine zab (fun h=>?_) ?_|refine zac hM (c1) ?_|refine zac hM (c2) ?_|(refine hQ _ _ _ rfl ?_;clear hQ hR hE hM)|(refine hR _ _ (hQ _ _ _ rfl ?_);clear hQ hR hE hM)|(refine zaf ?_ ?_;focus first|omega|(refine zad ?_;(refine no_implicit_lambda% (st ?_);try with_reducible exact True.intro);done)))<;>try simp -dsimp -implicitDefEqProofs (disch:=omega) only[go_sem,reduceIte,↓reduceIte,Nat.reduceEqDiff,Nat.reduceLT,Nat.reduceLeDiff,Nat.reduceAdd,Nat.reduceSub,Nat.reduceMul,Int.reduceToNat,Int.reduceLT,Int.reduceLE,Int.reduceEq,Int.reduceNeg,Int.reduceNe,reduceCtorEq,e1,e2,jls]))
    all_goals first
     |(rw[if_neg];intro hh;unfold zcQ at hh;rw[←hg]at hh;simp at hh;done)
     |(exact ⟨k+1,by omega,⟨by omega,by unfold zcQ;rw[←hg];simp⟩,by omega⟩)
   ·rw[List.drop_eq_nil_of_le hge,List.all_nil]at hg
    repeat' (first|refine zaa [0,1,2,3,4,5,6,7,15,17,18,19,20,29,38,40] fun K hK=>?_|refine AWp.block ?_|(refine hK.go ?_;clear hK K)|refine Cont.go (by assumption) ?_|(refine cnd2 rfl (fun h=>?_) (fun h=>?_)<;>(try first|exact h.elim|obtain rfl:(_:Bool)=true:=h|obtain rfl:(_:Bool)=false:=h)<;>first|(exfalso;omega)|skip)|((first|refine AWp.reg hE hM ?_|refine AWp.regd hE hM ?_|refine AWp.ret ?_|refine AWp.skip ?_|refine AWp.exit ?_|(refine pk2 (fun h=>?_) (fun h=>?_)<;>(try first|exact h.elim|obtain rfl:(_:Bool)=true:=h|obtain rfl:(_:Bool)=false:=h))|refine zab (fun h=>?_) ?_|(refine hQ _ _ _ rfl ?_;clear hQ hR hE hM)|(refine hR _ _ (hQ _ _ _ rfl ?_);clear hQ hR hE hM)|(refine zaf ?_ ?_;focus first|omega|(refine zad ?_;(refine no_implicit_lambda% (st ?_);try with_reducible exact True.intro);done)))<;>try (refine no_implicit_lambda% (st ?_);try with_reducible exact True.intro)))
    rw[←hg,if_pos rfl]
end Go.Lev
namespace Go.Lev
open Go.Eng
def zkz:Sh:=.st [.i .i64,.i .u8]
def zit:Sh:=.st [.i .i64,.i .i64,.i .i64]
def znr:Sh:=.st [.i .i64,.i .u8,.i .i64,.i .i64]
def zkA:Sh:=.st [.s 2 zkz,.s 3 zit,.s 4 znr]
def U8 (x:Int):Prop:=0≤x∧x≤255
def Track.ok (t:Track):Prop:=I64 t.id∧U8 t.is
def Switch.ok (t:Switch):Prop:=I64 t.id∧I64 t.lie∧I64 t.call
def Lock.ok (t:Lock):Prop:=I64 t.id∧U8 t.phase∧I64 t.gone∧I64 t.left
def State.ok (s:State):Prop:=(s.tracks.length≤maxLen∧∀ t∈s.tracks,t.ok)∧(s.switches.length≤maxLen∧∀ t∈s.switches,t.ok)∧(s.locks.length≤maxLen∧∀ t∈s.locks,t.ok)
theorem of_track (d:D) (h:Sh.ok zkz d):∃ t:Track,Sh.av zkz d=t.c∧t.ok:=by
 obtain ⟨l,rfl,h⟩:=zg2 h
 obtain ⟨d1,l,rfl,h1,h⟩:=zaL h
 obtain ⟨d2,l,rfl,h2,h⟩:=zaL h
 obtain rfl:=zdI h
 obtain ⟨a,rfl,ha⟩:=zbe h1
 obtain ⟨b,rfl,hb⟩:=of_u8 h2
 exact ⟨⟨a,b⟩,rfl,ha,hb⟩
theorem znT (d:D) (h:Sh.ok zit d):∃ t:Switch,Sh.av zit d=t.c∧t.ok:=by
 obtain ⟨l,rfl,h⟩:=zg2 h
 obtain ⟨d1,l,rfl,h1,h⟩:=zaL h
 obtain ⟨d2,l,rfl,h2,h⟩:=zaL h
 obtain ⟨d3,l,rfl,h3,h⟩:=zaL h
 obtain rfl:=zdI h
 obtain ⟨a,rfl,ha⟩:=zbe h1
 obtain ⟨b,rfl,hb⟩:=zbe h2
 obtain ⟨c,rfl,hc⟩:=zbe h3
 exact ⟨⟨a,b,c⟩,rfl,ha,hb,hc⟩
theorem of_lock (d:D) (h:Sh.ok znr d):∃ t:Lock,Sh.av znr d=t.c∧t.ok:=by
 obtain ⟨l,rfl,h⟩:=zg2 h
 obtain ⟨d1,l,rfl,h1,h⟩:=zaL h
 obtain ⟨d2,l,rfl,h2,h⟩:=zaL h
 obtain ⟨d3,l,rfl,h3,h⟩:=zaL h
 obtain ⟨d4,l,rfl,h4,h⟩:=zaL h
 obtain rfl:=zdI h
 obtain ⟨a,rfl,ha⟩:=zbe h1
 obtain ⟨b,rfl,hb⟩:=of_u8 h2
 obtain ⟨c,rfl,hc⟩:=zbe h3
 obtain ⟨e,rfl,he⟩:=zbe h4
 exact ⟨⟨a,b,c,e⟩,rfl,ha,hb,hc,he⟩
theorem arg_state {d:D} (h:Sh.ok zkA d):∃ s:State,Sh.arg zkA d=.agg s.c∧s.ok:=by
 obtain ⟨l,rfl,h⟩:=zg2 h
 obtain ⟨d1,l,rfl,h1,h⟩:=zaL h
 obtain ⟨d2,l,rfl,h2,h⟩:=zaL h
 obtain ⟨d3,l,rfl,h3,h⟩:=zaL h
 obtain rfl:=zdI h
 obtain ⟨l1,rfl,m1,h1⟩:=of_s h1
 obtain ⟨l2,rfl,m2,h2⟩:=of_s h2
 obtain ⟨l3,rfl,m3,h3⟩:=of_s h3
 obtain ⟨t1,e1,f1,g1⟩:=zex of_track l1 h1
 obtain ⟨t2,e2,f2,g2⟩:=zex znT l2 h2
 obtain ⟨t3,e3,f3,g3⟩:=zex of_lock l3 h3
 refine ⟨⟨t1,t2,t3⟩, ?_,⟨by simpa [f1] using m1,g1⟩,⟨by simpa [f2] using m2,g2⟩,⟨by simpa [f3] using m3,g3⟩⟩
 simp only[Sh.arg,Sh.av,zcL,zkA,e1,e2,e3,State.c,List.cons_append,List.nil_append]
end Go.Lev
namespace Go.Lev
open Go.Eng
set_option maxRecDepth 10000
set_option maxHeartbeats 4000000
variable {P:Program} {inv:Nat→Option Nat} {w0:World} {M:Nat→Prop}
def zim (x:Track) (y:Section):Bool:=decide (x.id=y.id)&&decide (x.is≤2)
def ze2 (n:Int):Bool:=decide (0≤n)&&decide (n≤2)
def zgp (x:Switch) (y:Pnt):Bool:=decide (x.id=y.id)&&(ze2 x.lie&&ze2 x.call)
def zew (l:Lock) (x:Rte):Bool :=
 if l.phase=0∨l.phase=1 then decide (l.gone=0)&&decide (l.left=0)
 else if l.phase=2 then decide (0≤l.gone)&&(decide (l.gone≤(x.path.length:Int)-1)&&decide (l.left=0))
 else if l.phase=3 then decide (l.gone=(x.path.length:Int)-1)&&(decide (1≤l.left)&&decide (l.left≤x.timer))
 else if l.phase=4 then decide (l.gone=0)&&(decide (1≤l.left)&&decide (l.left≤x.timer))
 else false
def ze3 (x:Lock) (y:Rte):Bool:=decide (x.id=y.id)&&zew x y
theorem lie_pc (hH:HasAll P inv) (n:Int):PC P inv 110 [.n n] (·=.b (ze2 n)):=by
 refine zae (F:=cd110) (hH.has _ _ rfl) (Nat.le_of_ble_eq_true rfl) fun w0 M Q hM hQ hR=>?_;have hE:=hH.callable;dsimp only[cd110,qm,ql,qf,qi,qb,qc,qp,qv,qN,qT,qF,qt]at hQ ⊢
 repeat' (first|refine zaa [0,2] fun K hK=>?_|refine AWp.block ?_|(refine hK.go ?_;clear hK K)|refine Cont.go (by assumption) ?_|(refine cnd2 rfl (fun h=>?_) (fun h=>?_)<;>(try first|exact h.elim|obtain rfl:(_:Bool)=true:=h|obtain rfl:(_:Bool)=false:=h)<;>first|(exfalso;omega)|skip)|((first|refine AWp.reg hE hM ?_|refine AWp.regd hE hM ?_|refine AWp.ret ?_|refine AWp.skip ?_|refine AWp.exit ?_|(refine pk2 (fun h=>?_) (fun h=>?_)<;>(try first|exact h.elim|obtain rfl:(_:Bool)=true:=h|obtain rfl:(_:Bool)=false:=h))|refine zab (fun h=>?_) ?_|(refine hQ _ _ _ rfl ?_;clear hQ hR hE hM)|(refine hR _ _ (hQ _ _ _ rfl ?_);clear hQ hR hE hM)|(refine zaf ?_ ?_;focus first|omega|(refine zad ?_;(refine no_implicit_lambda% (st ?_);try with_reducible exact True.intro);done)))<;>try (refine no_implicit_lambda% (st ?_);try with_reducible exact True.intro)))
 all_goals (first|rfl|(grind[ze2])|(simp[ze2, *];done)|(simp_all [ze2];done)|(simp_all [ze2]<;>first|omega|((repeat' split)<;>first|rfl|(exfalso;omega))))
theorem zlp (hH:HasAll P inv) (x:Track) (y:Section):PC P inv 112 ([.agg x.c,.agg y.c]++[]) (·=.b (zim x y)):=by
 refine zae (F:=cd112) (hH.has _ _ rfl) (Nat.le_of_ble_eq_true rfl) fun w0 M Q hM hQ hR=>?_;have hE:=hH.callable;dsimp only[cd112,qm,ql,qf,qi,qb,qc,qp,qv,qN,qT,qF,qt]at hQ ⊢
 repeat' (first|refine zaa [0,1,2,3,4] fun K hK=>?_|refine AWp.block ?_|(refine hK.go ?_;clear hK K)|refine Cont.go (by assumption) ?_|(refine cnd2 rfl (fun h=>?_) (fun h=>?_)<;>(try first|exact h.elim|obtain rfl:(_:Bool)=true:=h|obtain rfl:(_:Bool)=false:=h)<;>first|(exfalso;omega)|skip)|((first|refine AWp.reg hE hM ?_|refine AWp.regd hE hM ?_|refine AWp.ret ?_|refine AWp.skip ?_|refine AWp.exit ?_|(refine pk2 (fun h=>?_) (fun h=>?_)<;>(try first|exact h.elim|obtain rfl:(_:Bool)=true:=h|obtain rfl:(_:Bool)=false:=h))|refine zab (fun h=>?_) ?_|(refine hQ _ _ _ rfl ?_;clear hQ hR hE hM)|(refine hR _ _ (hQ _ _ _ rfl ?_);clear hQ hR hE hM)|(refine zaf ?_ ?_;focus first|omega|(refine zad ?_;(refine no_implicit_lambda% (st ?_);try with_reducible exact True.intro);done)))<;>try (refine no_implicit_lambda% (st ?_);try with_reducible exact True.intro)))
 all_goals (first|rfl|(grind[zim])|(simp[zim, *];done)|(simp_all [zim];done)|(simp_all [zim]<;>first|omega|((repeat' split)<;>first|rfl|(exfalso;omega))))
theorem zls (hH:HasAll P inv) (x:Switch) (y:Pnt):PC P inv 114 ([.agg x.c,.agg y.c]++[.ip 1 [[.fn 110 []]] 0 0]) (·=.b (zgp x y)):=by
 have c1:=lie_pc hH x.lie
 have c2:=lie_pc hH x.call
 have he:zgp x y=(decide (x.id=y.id)&&(ze2 x.lie&&ze2 x.call)):=rfl
 revert c1 c2 he
 generalize ze2 x.lie=a
 generalize ze2 x.call=b
 intro c1 c2 he
 refine zae (F:=cd114) (hH.has _ _ rfl) (Nat.le_of_ble_eq_true rfl) fun w0 M Q hM hQ hR=>?_;have hE:=hH.callable;dsimp only[cd114,qm,ql,qf,qi,qb,qc,qp,qv,qN,qT,qF,qt]at hQ ⊢
 repeat' (first|refine zaa [0,1,2,3,4,5] fun K hK=>?_|refine AWp.block ?_|(refine hK.go ?_;clear hK K)|refine Cont.go (by assumption) ?_|(refine cnd2 rfl (fun h=>?_) (fun h=>?_)<;>(try first|exact h.elim|obtain rfl:(_:Bool)=true:=h|obtain rfl:(_:Bool)=false:=h)<;>first|(exfalso;omega)|skip)|((first|refine AWp.reg hE hM ?_|refine AWp.regd hE hM ?_|refine AWp.ret ?_|refine AWp.skip ?_|refine AWp.exit ?_|(refine pk2 (fun h=>?_) (fun h=>?_)<;>(try first|exact h.elim|obtain rfl:(_:Bool)=true:=h|obtain rfl:(_:Bool)=false:=h))|refine zab (fun h=>?_) ?_|refine zac hM (c1) ?_|refine zac hM (c2) ?_|(refine hQ _ _ _ rfl ?_;clear hQ hR hE hM)|(refine hR _ _ (hQ _ _ _ rfl ?_);clear hQ hR hE hM)|(refine zaf ?_ ?_;focus first|omega|(refine zad ?_;(refine no_implicit_lambda% (st ?_);try with_reducible exact True.intro);done)))<;>try (refine no_implicit_lambda% (st ?_);try with_reducible exact True.intro)))
 all_goals (rw[he];simp[*])
theorem phase_pc (hH:HasAll P inv) (l:Lock) (x:Rte) (h:x.path.length≤1000000):PC P inv 117 [.agg l.c,.agg x.c] (·=.b (zew l x)):=by
 refine zae (F:=cd117) (hH.has _ _ rfl) (Nat.le_of_ble_eq_true rfl) fun w0 M Q hM hQ hR=>?_;have hE:=hH.callable;dsimp only[cd117,qm,ql,qf,qi,qb,qc,qp,qv,qN,qT,qF,qt]at hQ ⊢
 repeat' (first|refine zaa [0,1,2,3,4,5,6,15,16,25,39,57] fun K hK=>?_|refine AWp.block ?_|(refine hK.go ?_;clear hK K)|refine Cont.go (by assumption) ?_|(refine cnd2 rfl (fun h=>?_) (fun h=>?_)<;>(try first|exact h.elim|obtain rfl:(_:Bool)=true:=h|obtain rfl:(_:Bool)=false:=h)<;>first|(exfalso;omega)|skip)|((first|refine AWp.reg hE hM ?_|refine AWp.regd hE hM ?_|refine AWp.ret ?_|refine AWp.skip ?_|refine AWp.exit ?_|(refine pk2 (fun h=>?_) (fun h=>?_)<;>(try first|exact h.elim|obtain rfl:(_:Bool)=true:=h|obtain rfl:(_:Bool)=false:=h))|refine zab (fun h=>?_) ?_|(refine hQ _ _ _ rfl ?_;clear hQ hR hE hM)|(refine hR _ _ (hQ _ _ _ rfl ?_);clear hQ hR hE hM)|(refine zaf ?_ ?_;focus first|omega|(refine zad ?_;(refine no_implicit_lambda% (st ?_);try with_reducible exact True.intro);done)))<;>try (refine no_implicit_lambda% (st ?_);try with_reducible exact True.intro)))
 all_goals (unfold zew;simp[*])
theorem zlM (hH:HasAll P inv) (x:Lock) (y:Rte) (h:y.path.length≤1000000):PC P inv 116 ([.agg x.c,.agg y.c]++[]) (·=.b (ze3 x y)):=by
 have c1:=phase_pc hH x y h
 unfold ze3
 revert c1
 generalize zew x y=a
 intro c1
 refine zae (F:=cd116) (hH.has _ _ rfl) (Nat.le_of_ble_eq_true rfl) fun w0 M Q hM hQ hR=>?_;have hE:=hH.callable;dsimp only[cd116,qm,ql,qf,qi,qb,qc,qp,qv,qN,qT,qF,qt]at hQ ⊢
 repeat' (first|refine zaa [0,1,2,3,4] fun K hK=>?_|refine AWp.block ?_|(refine hK.go ?_;clear hK K)|refine Cont.go (by assumption) ?_|(refine cnd2 rfl (fun h=>?_) (fun h=>?_)<;>(try first|exact h.elim|obtain rfl:(_:Bool)=true:=h|obtain rfl:(_:Bool)=false:=h)<;>first|(exfalso;omega)|skip)|((first|refine AWp.reg hE hM ?_|refine AWp.regd hE hM ?_|refine AWp.ret ?_|refine AWp.skip ?_|refine AWp.exit ?_|(refine pk2 (fun h=>?_) (fun h=>?_)<;>(try first|exact h.elim|obtain rfl:(_:Bool)=true:=h|obtain rfl:(_:Bool)=false:=h))|refine zab (fun h=>?_) ?_|refine zac hM (c1) ?_|(refine hQ _ _ _ rfl ?_;clear hQ hR hE hM)|(refine hR _ _ (hQ _ _ _ rfl ?_);clear hQ hR hE hM)|(refine zaf ?_ ?_;focus first|omega|(refine zad ?_;(refine no_implicit_lambda% (st ?_);try with_reducible exact True.intro);done)))<;>try (refine no_implicit_lambda% (st ?_);try with_reducible exact True.intro)))
 all_goals simp[*]
theorem eqfTrk (hH:HasAll P inv) {jc:Nat} {caps:List AV} {p:Track→Section→Bool} (a:List Track) (b:List Section) (hc:∀ x∈a,∀ y∈b,PC P inv jc ([.agg x.c,.agg y.c]++caps) (·=.b (p x y))) (hb:zag caps=0) (ha:a.length≤1000000):PC P inv 111 [.sl 2 (a.map Track.c),.sl 3 (b.map Section.c),.fn jc caps] (·=.b (zaK p a b)):=by
 refine zae (F:=cd111) (hH.has _ _ rfl) (Nat.le_of_ble_eq_true rfl) fun w0 M Q hM hQ hR=>?_;have hE:=hH.callable;dsimp only[cd111,qm,ql,qf,qi,qb,qc,qp,qv,qN,qT,qF,qt]at hQ ⊢
 repeat' (first|refine zaa [0,1,2,6,7,8,9,14,15,16,17,18,30] fun K hK=>?_|refine AWp.block ?_|(refine hK.go ?_;clear hK K)|refine Cont.go (by assumption) ?_|(refine cnd2 rfl (fun h=>?_) (fun h=>?_)<;>(try first|exact h.elim|obtain rfl:(_:Bool)=true:=h|obtain rfl:(_:Bool)=false:=h)<;>first|(exfalso;omega)|skip)|((first|refine AWp.reg hE hM ?_|refine AWp.regd hE hM ?_|refine AWp.ret ?_|refine AWp.skip ?_|refine AWp.exit ?_|(refine pk2 (fun h=>?_) (fun h=>?_)<;>(try first|exact h.elim|obtain rfl:(_:Bool)=true:=h|obtain rfl:(_:Bool)=false:=h))|refine zab (fun h=>?_) ?_|(refine hQ _ _ _ rfl ?_;clear hQ hR hE hM)|(refine hR _ _ (hQ _ _ _ rfl ?_);clear hQ hR hE hM)|(refine zaf ?_ ?_;focus first|omega|(refine zad ?_;(refine no_implicit_lambda% (st ?_);try with_reducible exact True.intro);done)))<;>try simp -dsimp -implicitDefEqProofs (disch:=omega) only[go_sem,reduceIte,↓reduceIte,Nat.reduceEqDiff,Nat.reduceLT,Nat.reduceLeDiff,Nat.reduceAdd,Nat.reduceSub,Nat.reduceMul,Int.reduceToNat,Int.reduceLT,Int.reduceLE,Int.reduceEq,Int.reduceNeg,Int.reduceNe,reduceCtorEq,hb]))
 ·have:zaK p a b=false:=by
   cases hz:zaK p a b with
   |false=>rfl
   |true=>have:=zbM hz;omega
  rw[this]
 refine zah (ι:=Nat) [1,2,6,15,16,17] (fun zz=>[(17,.n zz)]) (fun zz=>[]) (fun zz=>zz≤a.length∧(zaK p (a.drop zz) (b.drop zz)=zaK p a b)) (fun zz=>a.length-zz) (0) ⟨Nat.zero_le _,(by first|rfl|assumption|omega|(simp;done)|(simp;omega)|grind)⟩ (by (try dsimp only);(refine no_implicit_lambda% (st ?_);try with_reducible exact True.intro)<;>first|omega|(simp;done)) (by (try dsimp only);(refine no_implicit_lambda% (st ?_);try with_reducible exact True.intro)<;>first|omega|(simp;done)) ?_;rintro k ⟨hk,hg⟩;(try dsimp only at hk hg ⊢);rcases Nat.lt_or_ge k a.length with hlt|hge
 ·have hltb:k<b.length:=by omega
  rw[zap hlt,zap hltb,zaK]at hg
  have c1:=hc _ (zal hlt) _ (zal hltb)
  revert c1 hg
  generalize p (nth a k) (nth b k)=t
  intro hg c1
  repeat' (first|refine zaa [0,1,2,6,7,8,9,14,15,16,17,18,30] fun K hK=>?_|refine AWp.block ?_|(refine hK.go ?_;clear hK K)|refine Cont.go (by assumption) ?_|(refine cnd2 rfl (fun h=>?_) (fun h=>?_)<;>(try first|exact h.elim|obtain rfl:(_:Bool)=true:=h|obtain rfl:(_:Bool)=false:=h)<;>first|(exfalso;omega)|skip)|((first|refine AWp.reg hE hM ?_|refine AWp.regd hE hM ?_|refine AWp.ret ?_|refine AWp.skip ?_|refine AWp.exit ?_|(refine pk2 (fun h=>?_) (fun h=>?_)<;>(try first|exact h.elim|obtain rfl:(_:Bool)=true:=h|obtain rfl:(_:Bool)=false:=h))|refine zab (fun h=>?_) ?_|refine zac hM (c1) ?_|(refine hQ _ _ _ rfl ?_;clear hQ hR hE hM)|(refine hR _ _ (hQ _ _ _ rfl ?_);clear hQ hR hE hM)|(refine zaf ?_ ?_;focus first|omega|(refine zad ?_;(refine no_implicit_lambda% (st ?_);try with_reducible exact True.intro);done)))<;>try simp -dsimp -implicitDefEqProofs (disch:=omega) only[go_sem,reduceIte,↓reduceIte,Nat.reduceEqDiff,Nat.reduceLT,Nat.reduceLeDiff,Nat.reduceAdd,Nat.reduceSub,Nat.reduceMul,Int.reduceToNat,Int.reduceLT,Int.reduceLE,Int.reduceEq,Int.reduceNeg,Int.reduceNe,reduceCtorEq,hb]))
  all_goals first
   |(rw[←hg];rfl)
   |(exact ⟨k+1,by omega,⟨by omega,by rw[←hg];rfl⟩,by omega⟩)
 ·rw[List.drop_eq_nil_of_le hge,List.drop_eq_nil_of_le (by omega),zaK]at hg
  repeat' (first|refine zaa [0,1,2,6,7,8,9,14,15,16,17,18,30] fun K hK=>?_|refine AWp.block ?_|(refine hK.go ?_;clear hK K)|refine Cont.go (by assumption) ?_|(refine cnd2 rfl (fun h=>?_) (fun h=>?_)<;>(try first|exact h.elim|obtain rfl:(_:Bool)=true:=h|obtain rfl:(_:Bool)=false:=h)<;>first|(exfalso;omega)|skip)|((first|refine AWp.reg hE hM ?_|refine AWp.regd hE hM ?_|refine AWp.ret ?_|refine AWp.skip ?_|refine AWp.exit ?_|(refine pk2 (fun h=>?_) (fun h=>?_)<;>(try first|exact h.elim|obtain rfl:(_:Bool)=true:=h|obtain rfl:(_:Bool)=false:=h))|refine zab (fun h=>?_) ?_|(refine hQ _ _ _ rfl ?_;clear hQ hR hE hM)|(refine hR _ _ (hQ _ _ _ rfl ?_);clear hQ hR hE hM)|(refine zaf ?_ ?_;focus first|omega|(refine zad ?_;(refine no_implicit_lambda% (st ?_);try with_reducible exact True.intro);done)))<;>try simp -dsimp -implicitDefEqProofs (disch:=omega) only[go_sem,reduceIte,↓reduceIte,Nat.reduceEqDiff,Nat.reduceLT,Nat.reduceLeDiff,Nat.reduceAdd,Nat.reduceSub,Nat.reduceMul,Int.reduceToNat,Int.reduceLT,Int.reduceLE,Int.reduceEq,Int.reduceNeg,Int.reduceNe,reduceCtorEq,hb]))
  rw[←hg]
theorem eqfSwt (hH:HasAll P inv) {jc:Nat} {caps:List AV} {p:Switch→Pnt→Bool} (a:List Switch) (b:List Pnt) (hc:∀ x∈a,∀ y∈b,PC P inv jc ([.agg x.c,.agg y.c]++caps) (·=.b (p x y))) (hb:zag caps=0) (ha:a.length≤1000000):PC P inv 113 [.sl 3 (a.map Switch.c),.sl 2 (b.map Pnt.c),.fn jc caps] (·=.b (zaK p a b)):=by
 refine zae (F:=cd113) (hH.has _ _ rfl) (Nat.le_of_ble_eq_true rfl) fun w0 M Q hM hQ hR=>?_;have hE:=hH.callable;dsimp only[cd113,qm,ql,qf,qi,qb,qc,qp,qv,qN,qT,qF,qt]at hQ ⊢
 repeat' (first|refine zaa [0,1,2,6,7,8,9,14,15,16,17,18,30] fun K hK=>?_|refine AWp.block ?_|(refine hK.go ?_;clear hK K)|refine Cont.go (by assumption) ?_|(refine cnd2 rfl (fun h=>?_) (fun h=>?_)<;>(try first|exact h.elim|obtain rfl:(_:Bool)=true:=h|obtain rfl:(_:Bool)=false:=h)<;>first|(exfalso;omega)|skip)|((first|refine AWp.reg hE hM ?_|refine AWp.regd hE hM ?_|refine AWp.ret ?_|refine AWp.skip ?_|refine AWp.exit ?_|(refine pk2 (fun h=>?_) (fun h=>?_)<;>(try first|exact h.elim|obtain rfl:(_:Bool)=true:=h|obtain rfl:(_:Bool)=false:=h))|refine zab (fun h=>?_) ?_|(refine hQ _ _ _ rfl ?_;clear hQ hR hE hM)|(refine hR _ _ (hQ _ _ _ rfl ?_);clear hQ hR hE hM)|(refine zaf ?_ ?_;focus first|omega|(refine zad ?_;(refine no_implicit_lambda% (st ?_);try with_reducible exact True.intro);done)))<;>try simp -dsimp -implicitDefEqProofs (disch:=omega) only[go_sem,reduceIte,↓reduceIte,Nat.reduceEqDiff,Nat.reduceLT,Nat.reduceLeDiff,Nat.reduceAdd,Nat.reduceSub,Nat.reduceMul,Int.reduceToNat,Int.reduceLT,Int.reduceLE,Int.reduceEq,Int.reduceNeg,Int.reduceNe,reduceCtorEq,hb]))
 ·have:zaK p a b=false:=by
   cases hz:zaK p a b with
   |false=>rfl
   |true=>have:=zbM hz;omega
  rw[this]
 refine zah (ι:=Nat) [1,2,6,15,16,17] (fun zz=>[(17,.n zz)]) (fun zz=>[]) (fun zz=>zz≤a.length∧(zaK p (a.drop zz) (b.drop zz)=zaK p a b)) (fun zz=>a.length-zz) (0) ⟨Nat.zero_le _,(by first|rfl|assumption|omega|(simp;done)|(simp;omega)|grind)⟩ (by (try dsimp only);(refine no_implicit_lambda% (st ?_);try with_reducible exact True.intro)<;>first|omega|(simp;done)) (by (try dsimp only);(refine no_implicit_lambda% (st ?_);try with_reducible exact True.intro)<;>first|omega|(simp;done)) ?_;rintro k ⟨hk,hg⟩;(try dsimp only at hk hg ⊢);rcases Nat.lt_or_ge k a.length with hlt|hge
 ·have hltb:k<b.length:=by omega
  rw[zap hlt,zap hltb,zaK]at hg
  have c1:=hc _ (zal hlt) _ (zal hltb)
  revert c1 hg
  generalize p (nth a k) (nth b k)=t
  intro hg c1
  repeat' (first|refine zaa [0,1,2,6,7,8,9,14,15,16,17,18,30] fun K hK=>?_|refine AWp.block ?_|(refine hK.go ?_;clear hK K)|refine Cont.go (by assumption) ?_|(refine cnd2 rfl (fun h=>?_) (fun h=>?_)<;>(try first|exact h.elim|obtain rfl:(_:Bool)=true:=h|obtain rfl:(_:Bool)=false:=h)<;>first|(exfalso;omega)|skip)|((first|refine AWp.reg hE hM ?_|refine AWp.regd hE hM ?_|refine AWp.ret ?_|refine AWp.skip ?_|refine AWp.exit ?_|(refine pk2 (fun h=>?_) (fun h=>?_)<;>(try first|exact h.elim|obtain rfl:(_:Bool)=true:=h|obtain rfl:(_:Bool)=false:=h))|refine zab (fun h=>?_) ?_|refine zac hM (c1) ?_|(refine hQ _ _ _ rfl ?_;clear hQ hR hE hM)|(refine hR _ _ (hQ _ _ _ rfl ?_);clear hQ hR hE hM)|(refine zaf ?_ ?_;focus first|omega|(refine zad ?_;(refine no_implicit_lambda% (st ?_);try with_reducible exact True.intro);done)))<;>try simp -dsimp -implicitDefEqProofs (disch:=omega) only[go_sem,reduceIte,↓reduceIte,Nat.reduceEqDiff,Nat.reduceLT,Nat.reduceLeDiff,Nat.reduceAdd,Nat.reduceSub,Nat.reduceMul,Int.reduceToNat,Int.reduceLT,Int.reduceLE,Int.reduceEq,Int.reduceNeg,Int.reduceNe,reduceCtorEq,hb]))
  all_goals first
   |(rw[←hg];rfl)
   |(exact ⟨k+1,by omega,⟨by omega,by rw[←hg];rfl⟩,by omega⟩)
 ·rw[List.drop_eq_nil_of_le hge,List.drop_eq_nil_of_le (by omega),zaK]at hg
  repeat' (first|refine zaa [0,1,2,6,7,8,9,14,15,16,17,18,30] fun K hK=>?_|refine AWp.block ?_|(refine hK.go ?_;clear hK K)|refine Cont.go (by assumption) ?_|(refine cnd2 rfl (fun h=>?_) (fun h=>?_)<;>(try first|exact h.elim|obtain rfl:(_:Bool)=true:=h|obtain rfl:(_:Bool)=false:=h)<;>first|(exfalso;omega)|skip)|((first|refine AWp.reg hE hM ?_|refine AWp.regd hE hM ?_|refine AWp.ret ?_|refine AWp.skip ?_|refine AWp.exit ?_|(refine pk2 (fun h=>?_) (fun h=>?_)<;>(try first|exact h.elim|obtain rfl:(_:Bool)=true:=h|obtain rfl:(_:Bool)=false:=h))|refine zab (fun h=>?_) ?_|(refine hQ _ _ _ rfl ?_;clear hQ hR hE hM)|(refine hR _ _ (hQ _ _ _ rfl ?_);clear hQ hR hE hM)|(refine zaf ?_ ?_;focus first|omega|(refine zad ?_;(refine no_implicit_lambda% (st ?_);try with_reducible exact True.intro);done)))<;>try simp -dsimp -implicitDefEqProofs (disch:=omega) only[go_sem,reduceIte,↓reduceIte,Nat.reduceEqDiff,Nat.reduceLT,Nat.reduceLeDiff,Nat.reduceAdd,Nat.reduceSub,Nat.reduceMul,Int.reduceToNat,Int.reduceLT,Int.reduceLE,Int.reduceEq,Int.reduceNeg,Int.reduceNe,reduceCtorEq,hb]))
  rw[←hg]
theorem eqfLck (hH:HasAll P inv) {jc:Nat} {caps:List AV} {p:Lock→Rte→Bool} (a:List Lock) (b:List Rte) (hc:∀ x∈a,∀ y∈b,PC P inv jc ([.agg x.c,.agg y.c]++caps) (·=.b (p x y))) (hb:zag caps=0) (ha:a.length≤1000000):PC P inv 115 [.sl 4 (a.map Lock.c),.sl 7 (b.map Rte.c),.fn jc caps] (·=.b (zaK p a b)):=by
 refine zae (F:=cd115) (hH.has _ _ rfl) (Nat.le_of_ble_eq_true rfl) fun w0 M Q hM hQ hR=>?_;have hE:=hH.callable;dsimp only[cd115,qm,ql,qf,qi,qb,qc,qp,qv,qN,qT,qF,qt]at hQ ⊢
 repeat' (first|refine zaa [0,1,2,6,7,8,9,14,15,16,17,18,30] fun K hK=>?_|refine AWp.block ?_|(refine hK.go ?_;clear hK K)|refine Cont.go (by assumption) ?_|(refine cnd2 rfl (fun h=>?_) (fun h=>?_)<;>(try first|exact h.elim|obtain rfl:(_:Bool)=true:=h|obtain rfl:(_:Bool)=false:=h)<;>first|(exfalso;omega)|skip)|((first|refine AWp.reg hE hM ?_|refine AWp.regd hE hM ?_|refine AWp.ret ?_|refine AWp.skip ?_|refine AWp.exit ?_|(refine pk2 (fun h=>?_) (fun h=>?_)<;>(try first|exact h.elim|obtain rfl:(_:Bool)=true:=h|obtain rfl:(_:Bool)=false:=h))|refine zab (fun h=>?_) ?_|(refine hQ _ _ _ rfl ?_;clear hQ hR hE hM)|(refine hR _ _ (hQ _ _ _ rfl ?_);clear hQ hR hE hM)|(refine zaf ?_ ?_;focus first|omega|(refine zad ?_;(refine no_implicit_lambda% (st ?_);try with_reducible exact True.intro);done)))<;>try simp -dsimp -implicitDefEqProofs (disch:=omega) only[go_sem,reduceIte,↓reduceIte,Nat.reduceEqDiff,Nat.reduceLT,Nat.reduceLeDiff,Nat.reduceAdd,Nat.reduceSub,Nat.reduceMul,Int.reduceToNat,Int.reduceLT,Int.reduceLE,Int.reduceEq,Int.reduceNeg,Int.reduceNe,reduceCtorEq,hb]))
 ·have:zaK p a b=false:=by
   cases hz:zaK p a b with
   |false=>rfl
   |true=>have:=zbM hz;omega
  rw[this]
 refine zah (ι:=Nat) [1,2,6,15,16,17] (fun zz=>[(17,.n zz)]) (fun zz=>[]) (fun zz=>zz≤a.length∧(zaK p (a.drop zz) (b.drop zz)=zaK p a b)) (fun zz=>a.length-zz) (0) ⟨Nat.zero_le _,(by first|rfl|assumption|omega|(simp;done)|(simp;omega)|grind)⟩ (by (try dsimp only);(refine no_implicit_lambda% (st ?_);try with_reducible exact True.intro)<;>first|omega|(simp;done)) (by (try dsimp only);(refine no_implicit_lambda% (st ?_);try with_reducible exact True.intro)<;>first|omega|(simp;done)) ?_;rintro k ⟨hk,hg⟩;(try dsimp only at hk hg ⊢);rcases Nat.lt_or_ge k a.length with hlt|hge
 ·have hltb:k<b.length:=by omega
  rw[zap hlt,zap hltb,zaK]at hg
  have c1:=hc _ (zal hlt) _ (zal hltb)
  revert c1 hg
  generalize p (nth a k) (nth b k)=t
  intro hg c1
  repeat' (first|refine zaa [0,1,2,6,7,8,9,14,15,16,17,18,30] fun K hK=>?_|refine AWp.block ?_|(refine hK.go ?_;clear hK K)|refine Cont.go (by assumption) ?_|(refine cnd2 rfl (fun h=>?_) (fun h=>?_)<;>(try first|exact h.elim|obtain rfl:(_:Bool)=true:=h|obtain rfl:(_:Bool)=false:=h)<;>first|(exfalso;omega)|skip)|((first|refine AWp.reg hE hM ?_|refine AWp.regd hE hM ?_|refine AWp.ret ?_|refine AWp.skip ?_|refine AWp.exit ?_|(refine pk2 (fun h=>?_) (fun h=>?_)<;>(try first|exact h.elim|obtain rfl:(_:Bool)=true:=h|obtain rfl:(_:Bool)=false:=h))|refine zab (fun h=>?_) ?_|refine zac hM (c1) ?_|(refine hQ _ _ _ rfl ?_;clear hQ hR hE hM)|(refine hR _ _ (hQ _ _ _ rfl ?_);clear hQ hR hE hM)|(refine zaf ?_ ?_;focus first|omega|(refine zad ?_;(refine no_implicit_lambda% (st ?_);try with_reducible exact True.intro);done)))<;>try simp -dsimp -implicitDefEqProofs (disch:=omega) only[go_sem,reduceIte,↓reduceIte,Nat.reduceEqDiff,Nat.reduceLT,Nat.reduceLeDiff,Nat.reduceAdd,Nat.reduceSub,Nat.reduceMul,Int.reduceToNat,Int.reduceLT,Int.reduceLE,Int.reduceEq,Int.reduceNeg,Int.reduceNe,reduceCtorEq,hb]))
  all_goals first
   |(rw[←hg];rfl)
   |(exact ⟨k+1,by omega,⟨by omega,by rw[←hg];rfl⟩,by omega⟩)
 ·rw[List.drop_eq_nil_of_le hge,List.drop_eq_nil_of_le (by omega),zaK]at hg
  repeat' (first|refine zaa [0,1,2,6,7,8,9,14,15,16,17,18,30] fun K hK=>?_|refine AWp.block ?_|(refine hK.go ?_;clear hK K)|refine Cont.go (by assumption) ?_|(refine cnd2 rfl (fun h=>?_) (fun h=>?_)<;>(try first|exact h.elim|obtain rfl:(_:Bool)=true:=h|obtain rfl:(_:Bool)=false:=h)<;>first|(exfalso;omega)|skip)|((first|refine AWp.reg hE hM ?_|refine AWp.regd hE hM ?_|refine AWp.ret ?_|refine AWp.skip ?_|refine AWp.exit ?_|(refine pk2 (fun h=>?_) (fun h=>?_)<;>(try first|exact h.elim|obtain rfl:(_:Bool)=true:=h|obtain rfl:(_:Bool)=false:=h))|refine zab (fun h=>?_) ?_|(refine hQ _ _ _ rfl ?_;clear hQ hR hE hM)|(refine hR _ _ (hQ _ _ _ rfl ?_);clear hQ hR hE hM)|(refine zaf ?_ ?_;focus first|omega|(refine zad ?_;(refine no_implicit_lambda% (st ?_);try with_reducible exact True.intro);done)))<;>try simp -dsimp -implicitDefEqProofs (disch:=omega) only[go_sem,reduceIte,↓reduceIte,Nat.reduceEqDiff,Nat.reduceLT,Nat.reduceLeDiff,Nat.reduceAdd,Nat.reduceSub,Nat.reduceMul,Int.reduceToNat,Int.reduceLT,Int.reduceLE,Int.reduceEq,Int.reduceNeg,Int.reduceNe,reduceCtorEq,hb]))
  rw[←hg]
end Go.Lev
namespace Go.Lev
open Go.Eng
set_option maxRecDepth 10000
set_option maxHeartbeats 4000000
variable {P:Program} {inv:Nat→Option Nat} {w0:World} {M:Nat→Prop}
def gc (H A:List Int) (W:AV):List AV:=H.map AV.n++(A.map AV.n++[W])
section gc
variable {H A:List Int} {W:AV}
theorem zf1 (h:H.length=100) (h':A.length=100):(gc H A W).length=201:=by simp[gc,h,h']
theorem zoz (h:H.length=100) {i:Nat} (hi:i<100):(gc H A W)[i]?=some (.n (nth H i)):=by
 unfold gc
 rw[List.getElem?_append_left (by simp[h,hi]),ziK (by omega)]
theorem gc_get2 (h:H.length=100) (h':A.length=100) {i:Nat} (hi:i<100):(gc H A W)[100+i]?=some (.n (nth A i)):=by
 unfold gc
 rw[List.getElem?_append_right (by simp[h]),List.length_map,h,show 100+i-100=i by omega,List.getElem?_append_left (by simp[h',hi]),ziK (by omega)]
theorem gc_get3 (h:H.length=100) (h':A.length=100):(gc H A W)[200]?=some W:=by
 unfold gc
 rw[List.getElem?_append_right (by simp[h]),List.length_map,h,List.getElem?_append_right (by simp[h']),List.length_map,h']
 rfl
theorem gc_set1 (h:H.length=100) {i:Nat} (hi:i<100) (x:Int):(gc H A W).set i (.n x)=gc (H.set i x) A W:=by
 unfold gc
 rw[List.set_append_left _ _ (by simp[h,hi]),List.map_set]
theorem gc_set2 (h:H.length=100) (h':A.length=100) {i:Nat} (hi:i<100) (x:Int):(gc H A W).set (100+i) (.n x)=gc H (A.set i x) W:=by
 unfold gc
 rw[List.set_append_right _ _ (by simp[h]),List.length_map,h,show 100+i-100=i by omega,List.set_append_left _ _ (by simp[h',hi]),List.map_set]
theorem gc_set3 (h:H.length=100) (h':A.length=100) (W':AV):(gc H A W).set 200 W'=gc H A W':=by
 unfold gc
 rw[List.set_append_right _ _ (by simp[h]),List.length_map,h,List.set_append_right _ _ (by simp[h']),List.length_map,h']
 rfl
theorem zlR (h:W.plain=true):zaC (gc H A W)=true:=by
 unfold gc
 rw[zcv,zcv,zcE,zcE]
 simp[zaC,h]
theorem zoB (h:W.plain=true):zai (gc H A W)=true:=zcb _ (zlR h)
theorem zfb (h:W.plain=true):zag (gc H A W)=0:=zbd _ (zoB h)
theorem gc_snap (h:W.plain=true) (k:Nat) (σ:AS):zbE k σ (gc H A W)=gc H A W:=zgf k σ (zlR h)
end gc
def wsl (ws:List WayR):AV:=.sl 4 (ws.map Way.c)
theorem zeF (ws:List WayR):(wsl ws).plain=true:=rfl
def zbL (w:WayR) (l:Lock):List Int:=if l.phase=0 then [] else w.path.drop l.gone.toNat++w.over
def zdS (l:Lock) (a:AskR):Bool:=decide (a.pos<0)||decide (l.gone≤a.pos)
def zbw (n:Int):List Int→List Int→Bool→List Int×Bool
 |[],H,t=>(H,t)
 |s::r,H,t=>if t=true∧nth H s.toNat=0 then zbw n r (H.set s.toNat n) true else (H.set s.toNat n,false)
def zep (l:Lock) (C:List (Int×Int)):List AskR→List Int→Bool→List Int×Bool
 |[],A,t=>(A,t)
 |a::r,A,t=>if zdS l a=true then (if t=true∧zfm C a.pnt=a.lie then zep l C r (A.set a.pnt.toNat a.lie) true else (A.set a.pnt.toNat a.lie,false)) else zep l C r A t
def stG (p:Pln) (s:State) (ws:List WayR) (C:List (Int×Int)) (l:Lock) (H A:List Int) (t:Bool):List (Nat×AO):=[(0,.cells p.c true),(1,.cells s.c true),(2,.cells (gc H A (wsl ws)) true),(3,.cells [.b t] true),(4,.cells [.fn 110 []] true),(5,.imap C),(6,.cells [.mp 5] true),(7,.cells l.c true)]
theorem held_ac (hH:HasAll P inv) (hM:∀ b,M b→b<w0.heap.size) (p:Pln) (s:State) (ws:List WayR) (C:List (Int×Int)) (l:Lock) (w:WayR) (H A:List Int) (t:Bool) (hg:0≤l.gone∧l.gone≤w.path.length) (h1:w.path.length≤1000) (h2:w.over.length≤1000) (hs:∀ x∈w.path++w.over,0≤x∧x≤99) (hHl:H.length=100) (hAl:A.length=100) :
  AC P inv w0 M 30 118 [.agg w.c,.agg l.c,.fn 119 [.ptr 3 1 0,.ptr 2 201 0,.ptr 7 4 0]] (stG p s ws C l H A t) fun r0 σ'=>r0=.tup []∧σ'=stG p s ws C l (zbw l.id (zbL w l) H t).1 A (if l.phase=0 then t else (zbw l.id (zbL w l) H t).2):=by
 have c3:=zj7 hH [w.path.drop l.gone.toNat,w.over] (by simp) (by simp[ziP];omega)
 rw[show [w.path.drop l.gone.toNat,w.over].flatten=w.path.drop l.gone.toNat++w.over by simp,show [w.path.drop l.gone.toNat,w.over].map lst=[[.sl 1 ((w.path.map ze6).drop l.gone.toNat)],[.sl 1 (w.over.map ze6)]] by simp[lst,List.map_drop]]at c3
 have hn1:¬l.gone<0:=by omega
 have hn2:¬((w.path.length:Int)<l.gone):=by omega
 have hgb:=zfb (H:=H) (A:=A) (zeF ws)
 unfold zbL
 by_cases hph:l.phase=0
 ·simp only[hph,if_true,zbw]
  refine zaX (F:=cd118) (hH.has _ _ rfl) rfl (Nat.le_of_ble_eq_true rfl) fun Q hQ hR=>?_;have hE:=hH.callable;dsimp only[cd118,qm,ql,qf,qi,qb,qc,qp,qv,qN,qT,qF,qt]at hQ ⊢
  unfold stG
  (refine no_implicit_lambda% (st ?_);try with_reducible exact True.intro)
  repeat' (first|refine zaa [0,1,2,3,4,7,10,24,25,26,27,33] fun K hK=>?_|refine AWp.block ?_|(refine hK.go ?_;clear hK K)|refine Cont.go (by assumption) ?_|(refine cnd2 rfl (fun h=>?_) (fun h=>?_)<;>(try first|exact h.elim|obtain rfl:(_:Bool)=true:=h|obtain rfl:(_:Bool)=false:=h)<;>first|(exfalso;omega)|skip)|((first|refine AWp.reg hE hM ?_|refine AWp.regd hE hM ?_|refine AWp.ret ?_|refine AWp.skip ?_|refine AWp.exit ?_|(refine pk2 (fun h=>?_) (fun h=>?_)<;>(try first|exact h.elim|obtain rfl:(_:Bool)=true:=h|obtain rfl:(_:Bool)=false:=h))|refine zab (fun h=>?_) ?_|(refine zaf ?_ ?_;focus first|omega|(refine zad ?_;(refine no_implicit_lambda% (st ?_);try with_reducible exact True.intro);done)))<;>try simp -dsimp -implicitDefEqProofs (disch:=omega) only[go_sem,reduceIte,↓reduceIte,Nat.reduceEqDiff,Nat.reduceLT,Nat.reduceLeDiff,Nat.reduceAdd,Nat.reduceSub,Nat.reduceMul,Int.reduceToNat,Int.reduceLT,Int.reduceLE,Int.reduceEq,Int.reduceNeg,Int.reduceNe,reduceCtorEq,hgb])|(refine hQ _ _ _ rfl ?_;clear hQ hR hE hM)|(refine hR _ _ (hQ _ _ _ rfl ?_);clear hQ hR hE hM))
  all_goals first|(exfalso;contradiction)|skip
  all_goals ((first|refine ⟨[],trivial, ?_⟩|refine ⟨[],⟨rfl,trivial⟩, ?_⟩);simp only[swS,stG];(refine no_implicit_lambda% (st ?_);try with_reducible exact True.intro);(try simp))
 ·simp only[hph,if_false]
  obtain ⟨L,hL⟩:∃ L,L=w.path.drop l.gone.toNat++w.over:=⟨_,rfl⟩
  have hLs:∀ x∈L,0≤x∧x≤99:=fun x hx=>hs x (by
   rw[hL]at hx
   rcases List.mem_append.1 hx with h|h
   ·exact List.mem_append.2 (.inl (List.mem_of_mem_drop h))
   ·exact List.mem_append.2 (.inr h))
  have hLl:L.length≤2000:=by rw[hL];simp;omega
  rw[←hL]at c3 ⊢
  clear hL
  refine zaX (F:=cd118) (hH.has _ _ rfl) rfl (Nat.le_of_ble_eq_true rfl) fun Q hQ hR=>?_;have hE:=hH.callable;dsimp only[cd118,qm,ql,qf,qi,qb,qc,qp,qv,qN,qT,qF,qt]at hQ ⊢
  skip
  unfold stG
  (refine no_implicit_lambda% (st ?_);try with_reducible exact True.intro)
  repeat' (first|refine zaa [0,1,2,3,4,5,7,10,24,25,26,27,33] fun K hK=>?_|refine AWp.block ?_|(refine hK.go ?_;clear hK K)|refine Cont.go (by assumption) ?_|(refine cnd2 rfl (fun h=>?_) (fun h=>?_)<;>(try first|exact h.elim|obtain rfl:(_:Bool)=true:=h|obtain rfl:(_:Bool)=false:=h)<;>first|(exfalso;omega)|skip)|((first|refine AWp.reg hE hM ?_|refine AWp.regd hE hM ?_|refine AWp.ret ?_|refine AWp.skip ?_|refine AWp.exit ?_|(refine pk2 (fun h=>?_) (fun h=>?_)<;>(try first|exact h.elim|obtain rfl:(_:Bool)=true:=h|obtain rfl:(_:Bool)=false:=h))|refine zab (fun h=>?_) ?_|refine zac hM (c3) ?_|(refine hQ _ _ _ rfl ?_;clear hQ hR)|(refine hR _ _ (hQ _ _ _ rfl ?_);clear hQ hR)|(refine zaf ?_ ?_;focus first|omega|(refine zad ?_;(refine no_implicit_lambda% (st ?_);try with_reducible exact True.intro);done)))<;>try simp -dsimp -implicitDefEqProofs (disch:=omega) only[go_sem,reduceIte,↓reduceIte,Nat.reduceEqDiff,Nat.reduceLT,Nat.reduceLeDiff,Nat.reduceAdd,Nat.reduceSub,Nat.reduceMul,Int.reduceToNat,Int.reduceLT,Int.reduceLE,Int.reduceEq,Int.reduceNeg,Int.reduceNe,reduceCtorEq,hn1,hn2,hgb]))
  all_goals first|(exfalso;contradiction)|skip
  refine zah (ι:=Nat×(List Int)×Bool) [2,24,25,26] (fun zz=>[(26,.n zz.1)]) (fun zz=>[(2,.cells (gc zz.2.1 A (wsl ws)) true),(3,.cells [.b zz.2.2] true)]) (fun zz=>zz.1≤L.length∧(zz.2.1.length=100)∧(zbw l.id (L.drop zz.1) zz.2.1 zz.2.2=zbw l.id L H t)) (fun zz=>L.length-zz.1) (0,H,t) ⟨Nat.zero_le _,(by first|rfl|assumption|omega|(simp;done)|(simp;omega)|grind),(by first|rfl|assumption|omega|(simp;done)|(simp;omega)|grind)⟩ (by (try dsimp only);(refine no_implicit_lambda% (st ?_);try with_reducible exact True.intro)<;>first|omega|(simp;done)) (by (try dsimp only);(refine no_implicit_lambda% (st ?_);try with_reducible exact True.intro)<;>first|omega|(simp;done)) ?_;rintro ⟨k,X,u⟩ ⟨hk,hx,hgo⟩;(try dsimp only at hk hx hgo ⊢);rcases Nat.lt_or_ge k L.length with hlt|hge
  ·rw[zap hlt,zbw]at hgo
   have hb:=hLs _ (zal hlt)
   have hgb2:=zfb (H:=X) (A:=A) (zeF ws)
   have e1:=zoz (H:=X) (A:=A) (W:=wsl ws) hx (i:=(nth L k).toNat) (by omega)
   have e2:=gc_set1 (H:=X) (A:=A) (W:=wsl ws) hx (i:=(nth L k).toNat) (by omega) l.id
   have e3:=zf1 (H:=X) (A:=A) (W:=wsl ws) hx hAl
   repeat' (first|refine zaa [0,1,2,3,4,5,7,10,24,25,26,27,33] fun K hK=>?_|refine AWp.block ?_|(refine hK.go ?_;clear hK K)|refine Cont.go (by assumption) ?_|(refine cnd2 rfl (fun h=>?_) (fun h=>?_)<;>(try first|exact h.elim|obtain rfl:(_:Bool)=true:=h|obtain rfl:(_:Bool)=false:=h)<;>first|(exfalso;omega)|skip)|((first|refine AWp.reg hE hM ?_|refine AWp.regd hE hM ?_|refine AWp.ret ?_|refine AWp.skip ?_|refine AWp.exit ?_|(refine pk2 (fun h=>?_) (fun h=>?_)<;>(try first|exact h.elim|obtain rfl:(_:Bool)=true:=h|obtain rfl:(_:Bool)=false:=h))|refine zab (fun h=>?_) ?_|(refine AC.callK 40 (by omega) (by first|omega|(simp -dsimp -implicitDefEqProofs (disch:=omega) only[go_sem,reduceIte,↓reduceIte,Nat.reduceEqDiff,Nat.reduceLT,Nat.reduceLeDiff,Nat.reduceAdd,Nat.reduceSub,Nat.reduceMul,Int.reduceToNat,Int.reduceLT,Int.reduceLE,Int.reduceEq,Int.reduceNeg,Int.reduceNe,reduceCtorEq,hgb2,e1,e2,e3];done)|(simp -dsimp -implicitDefEqProofs (disch:=omega) only[go_sem,reduceIte,↓reduceIte,Nat.reduceEqDiff,Nat.reduceLT,Nat.reduceLeDiff,Nat.reduceAdd,Nat.reduceSub,Nat.reduceMul,Int.reduceToNat,Int.reduceLT,Int.reduceLE,Int.reduceEq,Int.reduceNeg,Int.reduceNe,reduceCtorEq,hgb2,e1,e2,e3];omega)) (zax (F:=cd119) (hH.has _ _ rfl) (Nat.le_of_ble_eq_true rfl) fun Q hQ hR=>?_);dsimp only[cd119,qm,ql,qf,qi,qb,qc,qp,qv,qN,qT,qF,qt]at hQ ⊢)|(refine hQ _ _ _ rfl ?_;clear hQ hR)|(refine hR _ _ (hQ _ _ _ rfl ?_);clear hQ hR)|(refine zaf ?_ ?_;focus first|omega|(refine zad ?_;(refine no_implicit_lambda% (st ?_);try with_reducible exact True.intro);done)))<;>try simp -dsimp -implicitDefEqProofs (disch:=omega) only[go_sem,reduceIte,↓reduceIte,Nat.reduceEqDiff,Nat.reduceLT,Nat.reduceLeDiff,Nat.reduceAdd,Nat.reduceSub,Nat.reduceMul,Int.reduceToNat,Int.reduceLT,Int.reduceLE,Int.reduceEq,Int.reduceNeg,Int.reduceNe,reduceCtorEq,hgb2,e1,e2,e3]))
   all_goals first
    |(rw[if_neg (by simp[*])]at hgo;rw[←hgo];refine ⟨[],trivial, ?_⟩;simp only[swS,stG];(refine no_implicit_lambda% (st ?_);try with_reducible exact True.intro);(try simp[*]);done)
    |(rw[if_pos ⟨by simp[*],by simp[*]⟩]at hgo;exact ⟨(k+1,X.set (nth L k).toNat l.id,true),by dsimp only;omega,⟨by dsimp only;omega,by simp[hx],hgo⟩,by dsimp only;omega,rfl,by simp[*]⟩)
  ·rw[List.drop_eq_nil_of_le hge,zbw]at hgo
   repeat' (first|refine zaa [0,1,2,3,4,5,7,10,24,25,26,27,33] fun K hK=>?_|refine AWp.block ?_|(refine hK.go ?_;clear hK K)|refine Cont.go (by assumption) ?_|(refine cnd2 rfl (fun h=>?_) (fun h=>?_)<;>(try first|exact h.elim|obtain rfl:(_:Bool)=true:=h|obtain rfl:(_:Bool)=false:=h)<;>first|(exfalso;omega)|skip)|((first|refine AWp.reg hE hM ?_|refine AWp.regd hE hM ?_|refine AWp.ret ?_|refine AWp.skip ?_|refine AWp.exit ?_|(refine pk2 (fun h=>?_) (fun h=>?_)<;>(try first|exact h.elim|obtain rfl:(_:Bool)=true:=h|obtain rfl:(_:Bool)=false:=h))|refine zab (fun h=>?_) ?_|(refine hQ _ _ _ rfl ?_;clear hQ hR)|(refine hR _ _ (hQ _ _ _ rfl ?_);clear hQ hR)|(refine zaf ?_ ?_;focus first|omega|(refine zad ?_;(refine no_implicit_lambda% (st ?_);try with_reducible exact True.intro);done)))<;>try (refine no_implicit_lambda% (st ?_);try with_reducible exact True.intro)))
   rw[←hgo];refine ⟨[],trivial, ?_⟩;simp only[swS,stG];(refine no_implicit_lambda% (st ?_);try with_reducible exact True.intro);(try simp[*])
theorem asks_ac (hH:HasAll P inv) (hM:∀ b,M b→b<w0.heap.size) (p:Pln) (s:State) (ws:List WayR) (C:List (Int×Int)) (l:Lock) (w:WayR) (H A:List Int) (t:Bool) (h1:w.asks.length≤1000) (hs:∀ a∈w.asks,0≤a.pnt∧a.pnt≤99) (hHl:H.length=100) (hAl:A.length=100) :
  AC P inv w0 M 30 120 [.agg w.c,.agg l.c,.fn 121 [.ptr 3 1 0,.ptr 6 1 0,.ptr 2 201 0]] (stG p s ws C l H A t) fun r0 σ'=>r0=.tup []∧σ'=stG p s ws C l H (if l.phase=0 then (A,t) else zep l C w.asks A t).1 (if l.phase=0 then (A,t) else zep l C w.asks A t).2:=by
 have hgb:=zfb (H:=H) (A:=A) (zeF ws)
 by_cases hph:l.phase=0
 ·simp only[hph,if_true]
  refine zaX (F:=cd120) (hH.has _ _ rfl) rfl (Nat.le_of_ble_eq_true rfl) fun Q hQ hR=>?_;have hE:=hH.callable;dsimp only[cd120,qm,ql,qf,qi,qb,qc,qp,qv,qN,qT,qF,qt]at hQ ⊢
  unfold stG
  (refine no_implicit_lambda% (st ?_);try with_reducible exact True.intro)
  repeat' (first|refine zaa [0,1,2,3,4,7,10,12,13,14,15,33] fun K hK=>?_|refine AWp.block ?_|(refine hK.go ?_;clear hK K)|refine Cont.go (by assumption) ?_|(refine cnd2 rfl (fun h=>?_) (fun h=>?_)<;>(try first|exact h.elim|obtain rfl:(_:Bool)=true:=h|obtain rfl:(_:Bool)=false:=h)<;>first|(exfalso;omega)|skip)|((first|refine AWp.reg hE hM ?_|refine AWp.regd hE hM ?_|refine AWp.ret ?_|refine AWp.skip ?_|refine AWp.exit ?_|(refine pk2 (fun h=>?_) (fun h=>?_)<;>(try first|exact h.elim|obtain rfl:(_:Bool)=true:=h|obtain rfl:(_:Bool)=false:=h))|refine zab (fun h=>?_) ?_|(refine zaf ?_ ?_;focus first|omega|(refine zad ?_;(refine no_implicit_lambda% (st ?_);try with_reducible exact True.intro);done)))<;>try simp -dsimp -implicitDefEqProofs (disch:=omega) only[go_sem,reduceIte,↓reduceIte,Nat.reduceEqDiff,Nat.reduceLT,Nat.reduceLeDiff,Nat.reduceAdd,Nat.reduceSub,Nat.reduceMul,Int.reduceToNat,Int.reduceLT,Int.reduceLE,Int.reduceEq,Int.reduceNeg,Int.reduceNe,reduceCtorEq,hgb])|(refine hQ _ _ _ rfl ?_;clear hQ hR hE hM)|(refine hR _ _ (hQ _ _ _ rfl ?_);clear hQ hR hE hM))
  all_goals first|(exfalso;contradiction)|skip
  all_goals ((first|refine ⟨[],trivial, ?_⟩|refine ⟨[],⟨rfl,trivial⟩, ?_⟩);simp only[swS,stG];(refine no_implicit_lambda% (st ?_);try with_reducible exact True.intro);(try simp))
 ·simp only[hph,if_false]
  refine zaX (F:=cd120) (hH.has _ _ rfl) rfl (Nat.le_of_ble_eq_true rfl) fun Q hQ hR=>?_;have hE:=hH.callable;dsimp only[cd120,qm,ql,qf,qi,qb,qc,qp,qv,qN,qT,qF,qt]at hQ ⊢
  skip
  unfold stG
  (refine no_implicit_lambda% (st ?_);try with_reducible exact True.intro)
  repeat' (first|refine zaa [0,1,2,3,4,5,7,10,12,13,14,15,33] fun K hK=>?_|refine AWp.block ?_|(refine hK.go ?_;clear hK K)|refine Cont.go (by assumption) ?_|(refine cnd2 rfl (fun h=>?_) (fun h=>?_)<;>(try first|exact h.elim|obtain rfl:(_:Bool)=true:=h|obtain rfl:(_:Bool)=false:=h)<;>first|(exfalso;omega)|skip)|((first|refine AWp.reg hE hM ?_|refine AWp.regd hE hM ?_|refine AWp.ret ?_|refine AWp.skip ?_|refine AWp.exit ?_|(refine pk2 (fun h=>?_) (fun h=>?_)<;>(try first|exact h.elim|obtain rfl:(_:Bool)=true:=h|obtain rfl:(_:Bool)=false:=h))|refine zab (fun h=>?_) ?_|(refine hQ _ _ _ rfl ?_;clear hQ hR)|(refine hR _ _ (hQ _ _ _ rfl ?_);clear hQ hR)|(refine zaf ?_ ?_;focus first|omega|(refine zad ?_;(refine no_implicit_lambda% (st ?_);try with_reducible exact True.intro);done)))<;>try simp -dsimp -implicitDefEqProofs (disch:=omega) only[go_sem,reduceIte,↓reduceIte,Nat.reduceEqDiff,Nat.reduceLT,Nat.reduceLeDiff,Nat.reduceAdd,Nat.reduceSub,Nat.reduceMul,Int.reduceToNat,Int.reduceLT,Int.reduceLE,Int.reduceEq,Int.reduceNeg,Int.reduceNe,reduceCtorEq,hgb]))
  all_goals first|(exfalso;contradiction)|skip
  refine zah (ι:=Nat×(List Int)×Bool) [2,4,12,13,14] (fun zz=>[(14,.n zz.1)]) (fun zz=>[(2,.cells (gc H zz.2.1 (wsl ws)) true),(3,.cells [.b zz.2.2] true)]) (fun zz=>zz.1≤w.asks.length∧(zz.2.1.length=100)∧(zep l C (w.asks.drop zz.1) zz.2.1 zz.2.2=zep l C w.asks A t)) (fun zz=>w.asks.length-zz.1) (0,A,t) ⟨Nat.zero_le _,(by first|rfl|assumption|omega|(simp;done)|(simp;omega)|grind),(by first|rfl|assumption|omega|(simp;done)|(simp;omega)|grind)⟩ (by (try dsimp only);(refine no_implicit_lambda% (st ?_);try with_reducible exact True.intro)<;>first|omega|(simp;done)) (by (try dsimp only);(refine no_implicit_lambda% (st ?_);try with_reducible exact True.intro)<;>first|omega|(simp;done)) ?_;rintro ⟨k,X,u⟩ ⟨hk,hx,hgo⟩;(try dsimp only at hk hx hgo ⊢);rcases Nat.lt_or_ge k w.asks.length with hlt|hge
  ·rw[zap hlt,zep]at hgo
   have hb:=hs _ (zal hlt)
   have hgb2:=zfb (H:=H) (A:=X) (zeF ws)
   have e2:=gc_set2 (H:=H) (A:=X) (W:=wsl ws) hHl hx (i:=(nth w.asks k).pnt.toNat) (by omega) (nth w.asks k).lie
   have e3:=zf1 (H:=H) (A:=X) (W:=wsl ws) hHl hx
   repeat' (first|refine zaa [0,1,2,3,4,5,7,10,12,13,14,15,33] fun K hK=>?_|refine AWp.block ?_|(refine hK.go ?_;clear hK K)|refine Cont.go (by assumption) ?_|(refine cnd2 rfl (fun h=>?_) (fun h=>?_)<;>(try first|exact h.elim|obtain rfl:(_:Bool)=true:=h|obtain rfl:(_:Bool)=false:=h)<;>first|(exfalso;omega)|skip)|((first|refine AWp.reg hE hM ?_|refine AWp.regd hE hM ?_|refine AWp.ret ?_|refine AWp.skip ?_|refine AWp.exit ?_|(refine pk2 (fun h=>?_) (fun h=>?_)<;>(try first|exact h.elim|obtain rfl:(_:Bool)=true:=h|obtain rfl:(_:Bool)=false:=h))|refine zab (fun h=>?_) ?_|(refine AC.callK 40 (by omega) (by first|omega|(simp -dsimp -implicitDefEqProofs (disch:=omega) only[go_sem,reduceIte,↓reduceIte,Nat.reduceEqDiff,Nat.reduceLT,Nat.reduceLeDiff,Nat.reduceAdd,Nat.reduceSub,Nat.reduceMul,Int.reduceToNat,Int.reduceLT,Int.reduceLE,Int.reduceEq,Int.reduceNeg,Int.reduceNe,reduceCtorEq,hgb2,e2,e3];done)|(simp -dsimp -implicitDefEqProofs (disch:=omega) only[go_sem,reduceIte,↓reduceIte,Nat.reduceEqDiff,Nat.reduceLT,Nat.reduceLeDiff,Nat.reduceAdd,Nat.reduceSub,Nat.reduceMul,Int.reduceToNat,Int.reduceLT,Int.reduceLE,Int.reduceEq,Int.reduceNeg,Int.reduceNe,reduceCtorEq,hgb2,e2,e3];omega)) (zax (F:=cd121) (hH.has _ _ rfl) (Nat.le_of_ble_eq_true rfl) fun Q hQ hR=>?_);dsimp only[cd121,qm,ql,qf,qi,qb,qc,qp,qv,qN,qT,qF,qt]at hQ ⊢)|(refine hQ _ _ _ rfl ?_;clear hQ hR)|(refine hR _ _ (hQ _ _ _ rfl ?_);clear hQ hR)|(refine zaf ?_ ?_;focus first|omega|(refine zad ?_;(refine no_implicit_lambda% (st ?_);try with_reducible exact True.intro);done)))<;>try simp -dsimp -implicitDefEqProofs (disch:=omega) only[go_sem,reduceIte,↓reduceIte,Nat.reduceEqDiff,Nat.reduceLT,Nat.reduceLeDiff,Nat.reduceAdd,Nat.reduceSub,Nat.reduceMul,Int.reduceToNat,Int.reduceLT,Int.reduceLE,Int.reduceEq,Int.reduceNeg,Int.reduceNe,reduceCtorEq,hgb2,e2,e3]))
   all_goals first
    |(rw[show zdS l (nth w.asks k)=true by simp[zdS, *],if_pos rfl,if_neg (by simp[*])]at hgo;rw[←hgo];refine ⟨[],trivial, ?_⟩;simp only[swS,stG];(refine no_implicit_lambda% (st ?_);try with_reducible exact True.intro);(try simp[*]);done)
    |(rw[show zdS l (nth w.asks k)=true by simp[zdS, *],if_pos rfl,if_pos ⟨by simp[*],by simp[*]⟩]at hgo;exact ⟨(k+1,X.set (nth w.asks k).pnt.toNat (nth w.asks k).lie,true),by dsimp only;omega,⟨by dsimp only;omega,by simp[hx],hgo⟩,by dsimp only;omega,rfl,by simp[*]⟩)
    |(rw[show zdS l (nth w.asks k)=false by simp[zdS];omega,if_neg (by simp)]at hgo;exact ⟨(k+1,X,_),by dsimp only;omega,⟨by dsimp only;omega,by simp[hx],hgo⟩,by dsimp only;omega,rfl,rfl⟩)
  ·rw[List.drop_eq_nil_of_le hge,zep]at hgo
   repeat' (first|refine zaa [0,1,2,3,4,5,7,10,12,13,14,15,33] fun K hK=>?_|refine AWp.block ?_|(refine hK.go ?_;clear hK K)|refine Cont.go (by assumption) ?_|(refine cnd2 rfl (fun h=>?_) (fun h=>?_)<;>(try first|exact h.elim|obtain rfl:(_:Bool)=true:=h|obtain rfl:(_:Bool)=false:=h)<;>first|(exfalso;omega)|skip)|((first|refine AWp.reg hE hM ?_|refine AWp.regd hE hM ?_|refine AWp.ret ?_|refine AWp.skip ?_|refine AWp.exit ?_|(refine pk2 (fun h=>?_) (fun h=>?_)<;>(try first|exact h.elim|obtain rfl:(_:Bool)=true:=h|obtain rfl:(_:Bool)=false:=h))|refine zab (fun h=>?_) ?_|(refine hQ _ _ _ rfl ?_;clear hQ hR)|(refine hR _ _ (hQ _ _ _ rfl ?_);clear hQ hR)|(refine zaf ?_ ?_;focus first|omega|(refine zad ?_;(refine no_implicit_lambda% (st ?_);try with_reducible exact True.intro);done)))<;>try (refine no_implicit_lambda% (st ?_);try with_reducible exact True.intro)))
   rw[←hgo];refine ⟨[],trivial, ?_⟩;simp only[swS,stG];(refine no_implicit_lambda% (st ?_);try with_reducible exact True.intro);(try simp[*])
end Go.Lev
