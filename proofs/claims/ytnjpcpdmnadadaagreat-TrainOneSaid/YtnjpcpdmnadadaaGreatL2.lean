/-
  A part of the engine that walks the functions' codes, and of the functions' contracts. Conditions: those that each theorem names.
-/
import Derived.Test.YtnjpcpdmnadadaaGreatL1
import Derived.IntWalk
import Derived.Laws.IdiomCopy
set_option linter.unusedSimpArgs false
set_option linter.unusedVariables false
set_option linter.unusedSectionVars false
namespace Go.Eng
structure Pnt where
 id:Int
 sec:Int
 deriving DecidableEq,Inhabited
def Pnt.c (x:Pnt):List AV:=[.n x.id,.n x.sec]
structure Sgn where
 id:Int
 sec:Int
 ed:Int
 deriving DecidableEq,Inhabited
def Sgn.c (x:Sgn):List AV:=[.n x.id,.n x.sec,.n x.ed]
structure Flk where
 pnt:Int
 lie:Int
 deriving DecidableEq,Inhabited
def Flk.c (x:Flk):List AV:=[.n x.pnt,.n x.lie]
structure Rte where
 id:Int
 entry:Int
 exit:Int
 path:List Int
 over:List Int
 flanks:List Flk
 timer:Int
 deriving DecidableEq,Inhabited
def Rte.c (x:Rte):List AV:=[.n x.id,.n x.entry,.n x.exit,.sl 1 (x.path.map zck),.sl 1 (x.over.map zck),.sl 2 (x.flanks.map Flk.c),.n x.timer]
structure Pln where
 version:Int
 parent:Int
 sections:List Section
 points:List Pnt
 signals:List Sgn
 routes:List Rte
 deriving Inhabited
def Pln.c (x:Pln):List AV:=[.n x.version,.n x.parent,.sl 3 (x.sections.map Section.c),.sl 2 (x.points.map Pnt.c),.sl 3 (x.signals.map Sgn.c),.sl 7 (x.routes.map Rte.c)]
instance:Cells Pnt.c 2:=⟨fun _=>rfl,fun _=>rfl⟩
instance:Cells Sgn.c 3:=⟨fun _=>rfl,fun _=>rfl⟩
instance:Cells Flk.c 2:=⟨fun _=>rfl,fun _=>rfl⟩
instance:Cells Rte.c 7:=⟨fun _=>rfl,fun _=>rfl⟩
instance:Cells Pln.c 6:=⟨fun _=>rfl,fun _=>rfl⟩
attribute [go_sem] Pnt.c Sgn.c Flk.c Rte.c Pln.c
end Go.Eng
namespace Go.Lev
open Go.Eng
def shPnt:Sh:=.st [.i .i64,.i .i64]
def shSgn:Sh:=.st [.i .i64,.i .i64,.i .i64]
def shFlk:Sh:=.st [.i .i64,.i .i64]
def shRte:Sh:=.st [.i .i64,.i .i64,.i .i64,.s 1 (.i .i64),.s 1 (.i .i64),.s 2 shFlk,.i .i64]
def shPln:Sh:=.st [.i .i64,.i .i64,.s 3 zfh,.s 2 shPnt,.s 3 shSgn,.s 7 shRte]
def Pnt.ok (x:Pnt):Prop:=I64 x.id∧I64 x.sec
def Sgn.ok (x:Sgn):Prop:=I64 x.id∧I64 x.sec∧I64 x.ed
def Flk.ok (x:Flk):Prop:=I64 x.pnt∧I64 x.lie
def ints (l:List Int):Prop:=l.length≤maxLen∧∀ x∈l,I64 x
def Rte.ok (x:Rte):Prop:=I64 x.id∧I64 x.entry∧I64 x.exit∧ints x.path∧ints x.over∧(x.flanks.length≤maxLen∧∀ f∈x.flanks,Flk.ok f)∧I64 x.timer
def Pln.ok (x:Pln):Prop:=I64 x.version∧I64 x.parent∧(x.sections.length≤maxLen∧∀ s∈x.sections,Section.ok s)∧(x.points.length≤maxLen∧∀ s∈x.points,Pnt.ok s)∧(x.signals.length≤maxLen∧∀ s∈x.signals,Sgn.ok s)∧(x.routes.length≤maxLen∧∀ s∈x.routes,Rte.ok s)
theorem of_pnt (d:D) (h:Sh.ok shPnt d):∃ j:Pnt,Sh.av shPnt d=j.c∧Pnt.ok j:=by
 obtain ⟨l,rfl,h⟩:=zfw h
 obtain ⟨d1,l,rfl,h1,h⟩:=zau h
 obtain ⟨d2,l,rfl,h2,h⟩:=zau h
 obtain rfl:=zda h
 obtain ⟨a,rfl,ha⟩:=zaY h1
 obtain ⟨b,rfl,hb⟩:=zaY h2
 exact ⟨⟨a,b⟩,rfl,ha,hb⟩
theorem of_flk (d:D) (h:Sh.ok shFlk d):∃ j:Flk,Sh.av shFlk d=j.c∧Flk.ok j:=by
 obtain ⟨l,rfl,h⟩:=zfw h
 obtain ⟨d1,l,rfl,h1,h⟩:=zau h
 obtain ⟨d2,l,rfl,h2,h⟩:=zau h
 obtain rfl:=zda h
 obtain ⟨a,rfl,ha⟩:=zaY h1
 obtain ⟨b,rfl,hb⟩:=zaY h2
 exact ⟨⟨a,b⟩,rfl,ha,hb⟩
theorem of_sgn (d:D) (h:Sh.ok shSgn d):∃ j:Sgn,Sh.av shSgn d=j.c∧Sgn.ok j:=by
 obtain ⟨l,rfl,h⟩:=zfw h
 obtain ⟨d1,l,rfl,h1,h⟩:=zau h
 obtain ⟨d2,l,rfl,h2,h⟩:=zau h
 obtain ⟨d3,l,rfl,h3,h⟩:=zau h
 obtain rfl:=zda h
 obtain ⟨a,rfl,ha⟩:=zaY h1
 obtain ⟨b,rfl,hb⟩:=zaY h2
 obtain ⟨e,rfl,he⟩:=zaY h3
 exact ⟨⟨a,b,e⟩,rfl,ha,hb,he⟩
theorem of_int (d:D) (h:Sh.ok (.i .i64) d):∃ n:Int,Sh.av (.i .i64) d=zck n∧I64 n:=by
 obtain ⟨a,rfl,ha⟩:=zaY h
 exact ⟨a,rfl,ha⟩
theorem zlz {d:D} (h:Sh.ok (.s 1 (.i .i64)) d):∃ l:List Int,Sh.av (.s 1 (.i .i64)) d=[.sl 1 (l.map zck)]∧ints l:=by
 obtain ⟨l,rfl,h1,h2⟩:=of_s h
 obtain ⟨as,h3,h4,h5⟩:=zeW of_int l h2
 exact ⟨as,by simp only[Sh.av,h3],by omega,h5⟩
theorem zes {α:Type} {c:α→List AV} {p:α→Prop} {sz:Nat} {e:Sh} (h:∀ d,Sh.ok e d→∃ a,Sh.av e d=c a∧p a) {d:D} (hd:Sh.ok (.s sz e) d):∃ l:List α,Sh.av (.s sz e) d=[.sl sz (l.map c)]∧l.length≤maxLen∧∀ x∈l,p x:=by
 obtain ⟨l,rfl,h1,h2⟩:=of_s hd
 obtain ⟨as,h3,h4,h5⟩:=zeW h l h2
 exact ⟨as,by simp only[Sh.av,h3],by omega,h5⟩
theorem of_rte (d:D) (h:Sh.ok shRte d):∃ j:Rte,Sh.av shRte d=j.c∧Rte.ok j:=by
 obtain ⟨l,rfl,h⟩:=zfw h
 obtain ⟨d1,l,rfl,h1,h⟩:=zau h
 obtain ⟨d2,l,rfl,h2,h⟩:=zau h
 obtain ⟨d3,l,rfl,h3,h⟩:=zau h
 obtain ⟨d4,l,rfl,h4,h⟩:=zau h
 obtain ⟨d5,l,rfl,h5,h⟩:=zau h
 obtain ⟨d6,l,rfl,h6,h⟩:=zau h
 obtain ⟨d7,l,rfl,h7,h⟩:=zau h
 obtain rfl:=zda h
 obtain ⟨a,rfl,ha⟩:=zaY h1
 obtain ⟨b,rfl,hb⟩:=zaY h2
 obtain ⟨e,rfl,he⟩:=zaY h3
 obtain ⟨p,ep,hp⟩:=zlz h4
 obtain ⟨o,eo,ho⟩:=zlz h5
 obtain ⟨f,ef,hf⟩:=zes of_flk h6
 obtain ⟨t,rfl,ht⟩:=zaY h7
 exact ⟨⟨a,b,e,p,o,f,t⟩,by simp only[shRte,Sh.av,zcp,ep,eo,ef,Rte.c];rfl,ha,hb,he,hp,ho,hf,ht⟩
theorem arg_plan {d:D} (h:Sh.ok shPln d):∃ p:Pln,Sh.arg shPln d=.agg p.c∧Pln.ok p:=by
 obtain ⟨l,rfl,h⟩:=zfw h
 obtain ⟨d1,l,rfl,h1,h⟩:=zau h
 obtain ⟨d2,l,rfl,h2,h⟩:=zau h
 obtain ⟨d3,l,rfl,h3,h⟩:=zau h
 obtain ⟨d4,l,rfl,h4,h⟩:=zau h
 obtain ⟨d5,l,rfl,h5,h⟩:=zau h
 obtain ⟨d6,l,rfl,h6,h⟩:=zau h
 obtain rfl:=zda h
 obtain ⟨a,rfl,ha⟩:=zaY h1
 obtain ⟨b,rfl,hb⟩:=zaY h2
 obtain ⟨s,es,hs⟩:=zes znO h3
 obtain ⟨p,ep,hp⟩:=zes of_pnt h4
 obtain ⟨g,eg,hg⟩:=zes of_sgn h5
 obtain ⟨r,er,hr⟩:=zes of_rte h6
 exact ⟨⟨a,b,s,p,g,r⟩,by simp only[shPln,Sh.arg,Sh.av,zcp,es,ep,eg,er,Pln.c];rfl,ha,hb,hs,hp,hg,hr⟩
end Go.Lev
namespace Go.Lev
open Go.Eng
set_option maxRecDepth 10000
set_option maxHeartbeats 4000000
variable {P:Program} {inv:Nat→Option Nat}
structure HasIds (P:Program) (inv:Nat→Option Nat):Prop where
 pnt:∀ x:Pnt,PC P inv 141 [.agg x.c] (·=.n x.id)
 sgn:∀ x:Sgn,PC P inv 142 [.agg x.c] (·=.n x.id)
 rte:∀ x:Rte,PC P inv 135 [.agg x.c] (·=.n x.id)
def zdH:Option Int→List Int→Bool
 |_,[]=>true
 |p,x::r=>!decide (x<1)&&!decide (99<x)&&!(match p with|some y=>decide (x≤y)|none=>false)&&zdH (some x) r
def zkj (l:List Int) (k:Nat):Option Int:=match k with|0=>none|k+1=>some (nth l k)
def rise (l:List Int) (most:Int):Bool:=zdH none l&&decide ((l.length:Int)≤most)
def zc3 (a:List Int) (id:Int):Bool:=decide (0≤id)&&decide (id≤99)&&decide (0<nth a id.toNat)
theorem zmx (hH:HasAll P inv) (a:List Int) (ha:a.length=100) (id:Int):PC P inv 134 [.agg (a.map AV.n),.n id] (·=.b (zc3 a id)):=by
 refine PC.fn hH cd134 fun w0 M Q hM hE hQ hR=>?_;dsimp only[cd134,qm,ql,qf,qi,qb,qc,qp,qv,qN,qT,qF,qt]at hQ ⊢
 (have hX:=zA @List.length_map.{0,0} @ha;(repeat' first|refine zaa [0,1,2,4] fun K hK=>?_|(refine hK.go ?_;clear hK K)|with_reducible exact wT|refine wA ?_|(refine wB (fun h=>?_) (fun h=>?_)<;>first|exact wN h|subst (h:(_:Bool)=_)|skip)|(refine wQ ?_;clear hQ hR hE hM)|fail);all_goals clear hX)
 all_goals (first|rfl|(grind[zc3])|(simp[zc3, *];done)|(simp_all [zc3];done)|(simp_all [zc3]<;>first|omega|((repeat' split)<;>first|rfl|(exfalso;omega))))
theorem zpw {α:Type} [Inhabited α] (f:α→Int) {l:List α} {k:Nat} (h:k<l.length):nth (l.map f) k=f (nth l k):=by simp[nth,h]
theorem zpl {α:Type} [Inhabited α] (f:α→Int) {l:List α} {k:Nat} (h:k<l.length):zkj (l.map f) k=if 0<(k:Int) then some (f (nth l ((k:Int)-1).toNat)) else none:=by
 rcases k with _|k
 ·rfl
 ·rw[if_pos (by omega)]
  show some (nth (l.map f) k)=_
  rw[zpw f (by omega),show (((k+1:Nat):Int)-1).toNat=k by omega]
theorem zki {α:Type} [Inhabited α] (f:α→Int) {l:List α} {k:Nat} (h:k<l.length):zkj (l.map f) (k+1)=some (f (nth l k)):=congrArg some (zpw f h)
theorem zf3 {α:Type} [Inhabited α] {f:α→Int} {l:List α} {k:Nat} {most:Int} {b:Bool} (hlt:k<l.length) (hg:zdH (zkj (l.map f) k) ((nth l k::l.drop (k+1)).map f)=b) :
  (f (nth l k)<1→b=false)∧(99<f (nth l k)→b=false)∧(0<(k:Int)→f (nth l k)≤f (nth l ((k:Int)-1).toNat)→b=false) ∧
  (¬f (nth l k)<1→¬99<f (nth l k)→(0<(k:Int)→¬f (nth l k)≤f (nth l ((k:Int)-1).toNat))→zdH (zkj (l.map f) (k+1)) ((l.drop (k+1)).map f)=b):=by
 rw[zpl f hlt,List.map_cons]at hg
 simp only[zdH]at hg
 rw[zki f hlt]
 generalize f (nth l ((k:Int)-1).toNat)=y at hg ⊢
 refine ⟨fun h=>by rw[←hg];simp[h],fun h=>by rw[←hg];simp[h],fun h1 h2=>by rw[←hg,if_pos h1];simp[h2],fun h1 h2 h3=>?_⟩
 rw[←hg]
 by_cases h0:0<(k:Int)
 ·rw[if_pos h0];simp[h1,h2,h3 h0]
 ·rw[if_neg h0];simp[h1,h2]
theorem znH (hH:HasAll P inv) (hI:HasIds P inv) (l:List Pnt) (most:Int) (hl:l.length≤1000000000):PC P inv 131 [.sl 2 (l.map Pnt.c),.n most] (·=.b (rise (l.map Pnt.id) most)):=by
 refine PC.fn hH cd131 fun w0 M Q hM hE hQ hR=>?_;dsimp only[cd131,qm,ql,qf,qi,qb,qc,qp,qv,qN,qT,qF,qt]at hQ ⊢
 (repeat' first|refine zaa [0,1,4,5,6,7,8,9,10,11,36] fun K hK=>?_|(refine hK.go ?_;clear hK K)|with_reducible exact wT|refine wA ?_|(refine wB (fun h=>?_) (fun h=>?_)<;>first|exact wN h|subst (h:(_:Bool)=_)|skip)|(refine wQ ?_;clear hQ hR hE hM)|fail)
 refine zcH (fun k=>[(0,.sl 2 (l.map Pnt.c)),(1,.n most),(8,.sl 2 (l.map Pnt.c)),(9,.n l.length),(10,.n k)]) (fun k=>[]) (l.length) (fun k=>zdH (zkj (l.map Pnt.id) k) ((l.drop k).map Pnt.id)=zdH none (l.map Pnt.id)) ?_;rintro k ⟨hk,hg⟩;rcases Nat.lt_or_ge k l.length with hlt|hge
 ·rw[zag hlt]at hg
  obtain ⟨r1,r2,r3,r4⟩:=zf3 (most:=most) hlt hg
  (repeat' first|refine zaa [0,1,4,5,6,7,8,9,10,11,36] fun K hK=>?_|(refine hK.go ?_;clear hK K)|with_reducible exact wT|refine wA ?_|(refine wB (fun h=>?_) (fun h=>?_)<;>first|exact wN h|subst (h:(_:Bool)=_)|skip)|(refine wQ ?_;clear hQ hR hE hM)|(refine zaj hM (hI.pnt _) ?_;try (refine no_implicit_lambda% (st ?_);try with_reducible exact wT))|fail)
  ·rw[rise,r1 (by assumption)];rfl
  ·rw[rise,r2 (by assumption)];rfl
  ·rw[rise,r3 (by assumption) h];rfl
  ·exact ⟨k+1,by omega,⟨by omega,r4 (by assumption) (by assumption) fun _=>h⟩,(by (try dsimp only);(first|omega|(simp;done)|(simp;omega)))⟩
  ·exact ⟨k+1,by omega,⟨by omega,r4 (by assumption) (by assumption) fun h'=>absurd h' (by assumption)⟩,(by (try dsimp only);(first|omega|(simp;done)|(simp;omega)))⟩
 ·rw[List.drop_eq_nil_of_le hge]at hg
  (repeat' first|refine zaa [0,1,4,5,6,7,8,9,10,11,36] fun K hK=>?_|(refine hK.go ?_;clear hK K)|with_reducible exact wT|refine wA ?_|(refine wB (fun h=>?_) (fun h=>?_)<;>first|exact wN h|subst (h:(_:Bool)=_)|skip)|(refine wQ ?_;clear hQ hR hE hM)|fail)
  rw[rise,←hg];simp[zdH]
theorem znF (hH:HasAll P inv) (hI:HasIds P inv) (l:List Sgn) (most:Int) (hl:l.length≤1000000000):PC P inv 133 [.sl 3 (l.map Sgn.c),.n most] (·=.b (rise (l.map Sgn.id) most)):=by
 refine PC.fn hH cd133 fun w0 M Q hM hE hQ hR=>?_;dsimp only[cd133,qm,ql,qf,qi,qb,qc,qp,qv,qN,qT,qF,qt]at hQ ⊢
 (repeat' first|refine zaa [0,1,4,5,6,7,8,9,10,11,36] fun K hK=>?_|(refine hK.go ?_;clear hK K)|with_reducible exact wT|refine wA ?_|(refine wB (fun h=>?_) (fun h=>?_)<;>first|exact wN h|subst (h:(_:Bool)=_)|skip)|(refine wQ ?_;clear hQ hR hE hM)|fail)
 refine zcH (fun k=>[(0,.sl 3 (l.map Sgn.c)),(1,.n most),(8,.sl 3 (l.map Sgn.c)),(9,.n l.length),(10,.n k)]) (fun k=>[]) (l.length) (fun k=>zdH (zkj (l.map Sgn.id) k) ((l.drop k).map Sgn.id)=zdH none (l.map Sgn.id)) ?_;rintro k ⟨hk,hg⟩;rcases Nat.lt_or_ge k l.length with hlt|hge
 ·rw[zag hlt]at hg
  obtain ⟨r1,r2,r3,r4⟩:=zf3 (most:=most) hlt hg
  (repeat' first|refine zaa [0,1,4,5,6,7,8,9,10,11,36] fun K hK=>?_|(refine hK.go ?_;clear hK K)|with_reducible exact wT|refine wA ?_|(refine wB (fun h=>?_) (fun h=>?_)<;>first|exact wN h|subst (h:(_:Bool)=_)|skip)|(refine wQ ?_;clear hQ hR hE hM)|(refine zaj hM (hI.sgn _) ?_;try (refine no_implicit_lambda% (st ?_);try with_reducible exact wT))|fail)
  ·rw[rise,r1 (by assumption)];rfl
  ·rw[rise,r2 (by assumption)];rfl
  ·rw[rise,r3 (by assumption) h];rfl
  ·exact ⟨k+1,by omega,⟨by omega,r4 (by assumption) (by assumption) fun _=>h⟩,(by (try dsimp only);(first|omega|(simp;done)|(simp;omega)))⟩
  ·exact ⟨k+1,by omega,⟨by omega,r4 (by assumption) (by assumption) fun h'=>absurd h' (by assumption)⟩,(by (try dsimp only);(first|omega|(simp;done)|(simp;omega)))⟩
 ·rw[List.drop_eq_nil_of_le hge]at hg
  (repeat' first|refine zaa [0,1,4,5,6,7,8,9,10,11,36] fun K hK=>?_|(refine hK.go ?_;clear hK K)|with_reducible exact wT|refine wA ?_|(refine wB (fun h=>?_) (fun h=>?_)<;>first|exact wN h|subst (h:(_:Bool)=_)|skip)|(refine wQ ?_;clear hQ hR hE hM)|fail)
  rw[rise,←hg];simp[zdH]
theorem znG (hH:HasAll P inv) (hI:HasIds P inv) (l:List Rte) (most:Int) (hl:l.length≤1000000000):PC P inv 125 [.sl 7 (l.map Rte.c),.n most] (·=.b (rise (l.map Rte.id) most)):=by
 refine PC.fn hH cd125 fun w0 M Q hM hE hQ hR=>?_;dsimp only[cd125,qm,ql,qf,qi,qb,qc,qp,qv,qN,qT,qF,qt]at hQ ⊢
 (repeat' first|refine zaa [0,1,4,5,6,7,8,9,10,11,36] fun K hK=>?_|(refine hK.go ?_;clear hK K)|with_reducible exact wT|refine wA ?_|(refine wB (fun h=>?_) (fun h=>?_)<;>first|exact wN h|subst (h:(_:Bool)=_)|skip)|(refine wQ ?_;clear hQ hR hE hM)|fail)
 refine zcH (fun k=>[(0,.sl 7 (l.map Rte.c)),(1,.n most),(8,.sl 7 (l.map Rte.c)),(9,.n l.length),(10,.n k)]) (fun k=>[]) (l.length) (fun k=>zdH (zkj (l.map Rte.id) k) ((l.drop k).map Rte.id)=zdH none (l.map Rte.id)) ?_;rintro k ⟨hk,hg⟩;rcases Nat.lt_or_ge k l.length with hlt|hge
 ·rw[zag hlt]at hg
  obtain ⟨r1,r2,r3,r4⟩:=zf3 (most:=most) hlt hg
  (repeat' first|refine zaa [0,1,4,5,6,7,8,9,10,11,36] fun K hK=>?_|(refine hK.go ?_;clear hK K)|with_reducible exact wT|refine wA ?_|(refine wB (fun h=>?_) (fun h=>?_)<;>first|exact wN h|subst (h:(_:Bool)=_)|skip)|(refine wQ ?_;clear hQ hR hE hM)|(refine zaj hM (hI.rte _) ?_;try (refine no_implicit_lambda% (st ?_);try with_reducible exact wT))|fail)
  ·rw[rise,r1 (by assumption)];rfl
  ·rw[rise,r2 (by assumption)];rfl
  ·rw[rise,r3 (by assumption) h];rfl
  ·exact ⟨k+1,by omega,⟨by omega,r4 (by assumption) (by assumption) fun _=>h⟩,(by (try dsimp only);(first|omega|(simp;done)|(simp;omega)))⟩
  ·exact ⟨k+1,by omega,⟨by omega,r4 (by assumption) (by assumption) fun h'=>absurd h' (by assumption)⟩,(by (try dsimp only);(first|omega|(simp;done)|(simp;omega)))⟩
 ·rw[List.drop_eq_nil_of_le hge]at hg
  (repeat' first|refine zaa [0,1,4,5,6,7,8,9,10,11,36] fun K hK=>?_|(refine hK.go ?_;clear hK K)|with_reducible exact wT|refine wA ?_|(refine wB (fun h=>?_) (fun h=>?_)<;>first|exact wN h|subst (h:(_:Bool)=_)|skip)|(refine wQ ?_;clear hQ hR hE hM)|fail)
  rw[rise,←hg];simp[zdH]
end Go.Lev
namespace Go.Eng
structure AskR where
 pnt:Int
 lie:Int
 pos:Int
 deriving DecidableEq,Inhabited
def AskR.c (x:AskR):List AV:=[.n x.pnt,.n x.lie,.n x.pos]
structure Way where
 path:List Int
 over:List Int
 asks:List AskR
 near:Int
 deriving DecidableEq,Inhabited
def Way.c (x:Way):List AV:=[.sl 1 (x.path.map zck),.sl 1 (x.over.map zck),.sl 3 (x.asks.map AskR.c),.n x.near]
structure Shw where
 sgn:Int
 asp:Int
 deriving DecidableEq,Inhabited
def Shw.c (x:Shw):List AV:=[.n x.sgn,.i .u8 x.asp]
instance:Cells AskR.c 3:=⟨fun _=>rfl,fun _=>rfl⟩
instance:Cells Way.c 4:=⟨fun _=>rfl,fun _=>rfl⟩
instance:Cells Shw.c 2:=⟨fun _=>rfl,fun _=>rfl⟩
attribute [go_sem] AskR.c Way.c Shw.c
end Go.Eng
namespace Go.Eng
open Go.RowKit
mutual
/-- Names moved. -/
def shV (b:Nat):AV→AV
 |.agg cs=>.agg (shL b cs)
 |.tup cs=>.tup (shL b cs)
 |.fn j cs=>.fn j (shL b cs)
 |.ptr l ver off=>.ptr (l+b) ver off
 |.sm l ver off n sz=>.sm (l+b) ver off n sz
 |.mp l=>.mp (l+b)
 |.i k n=>.i k n
 |.b t=>.b t
 |.v x=>.v x
 |.u=>.u
 |.s0 sz=>.s0 sz
 |.sl sz es=>.sl sz es
 |.ip sz es i k=>.ip sz es i k
 |.top=>.top
def shL (b:Nat):List AV→List AV
 |[]=>[]
 |x::xs=>shV b x::shL b xs
end
def shO (b:Nat):AO→AO
 |.cells cs r=>.cells (shL b cs) r
 |.imap kvs=>.imap kvs
 |.rsv=>.rsv
def shS (b:Nat):List (Nat×AO)→List (Nat×AO)
 |[]=>[]
 |(l,o)::r=>(l+b,shO b o)::shS b r
def zjU:List (Nat×AO)→List (Nat×AO)→List (Nat×AO)
 |[],τ=>τ
 |(l,o)::r,τ=>(l,o)::zjU r τ
theorem zds (b:Nat):∀ xs:List AV,(shL b xs).length=xs.length
 |[]=>rfl
 |x::xs=>by simp[shL,zds b xs]
theorem zem (b:Nat) (o:AO):(shO b o).real=o.real:=by cases o<;>rfl
theorem zhb (b:Nat):∀ (σ:AS) (l:Nat),l<b→zax (shS b σ) l=none
 |[],l,_=>rfl
 |(k,o)::r,l,h=>by simp only[shS,zax,if_neg (show ¬l=k+b by omega),zhb b r l h]
theorem zmE (b:Nat):∀ (σ:AS) (l:Nat),zax (shS b σ) (l+b)=(zax σ l).map (shO b)
 |[],l=>rfl
 |(k,o)::r,l=>by
  simp only[shS,zax,zmE b r l]
  by_cases h:l=k
  ·subst h;simp
  ·rw[if_neg (by omega),if_neg h]
theorem zhc (τ:AS):∀ (σ:AS) (l:Nat),zax (zjU σ τ) l=match zax σ l with|some o=>some o|none=>zax τ l
 |[],l=>rfl
 |(k,o)::r,l=>by
  simp only[zjU,zax]
  split
  ·rfl
  ·exact zhc τ r l
theorem zaN {c c':Ctx} (hle:c.Le c') {x:AV} {y:Value} (hu:x.under 0=true) (r:rel c x y):rel c' x y :=
 zbS (N:=0) hle x y (.inl ⟨fun l hl=>absurd hl (Nat.not_lt_zero _),hu⟩) r
mutual
theorem zpg {c c':Ctx} (hle:c.Le c') (b:Nat) (hS:∀ l,c'.S (l+b)=c.S l):∀ (x:AV) (y:Value),rel c x y→rel c' (shV b x) y
 |.agg cs,y,r=>by
  simp only[rel,shV]at r ⊢
  obtain ⟨xs,e,r⟩:=r
  exact ⟨xs,e,zjd hle b hS cs _ r⟩
 |.tup cs,y,r=>by
  simp only[rel,shV]at r ⊢
  obtain ⟨xs,e,r⟩:=r
  exact ⟨xs,e,zlo hle b hS cs _ r⟩
 |.fn j cs,y,r=>by
  simp only[rel,shV]at r ⊢
  obtain ⟨g,xs,e,hi,r⟩:=r
  exact ⟨g,xs,e,by rw[hle.inv];exact hi,zlo hle b hS cs _ r⟩
 |.ptr l ver off,y,r=>by
  simp only[rel,shV]at r ⊢
  rw[hS];exact r
 |.sm l ver off n sz,y,r=>by
  simp only[rel,shV]at r ⊢
  rw[hS];exact r
 |.mp l,y,r=>by
  simp only[rel,shV]at r ⊢
  rw[hS];exact r
 |.i k n,y,r=>by simp only[shV];exact zaN hle rfl r
 |.b t,y,r=>by simp only[shV];exact zaN hle rfl r
 |.v x,y,r=>by simp only[shV];exact zaN hle rfl r
 |.u,y,r=>by simp only[shV];exact zaN hle rfl r
 |.s0 sz,y,r=>by simp only[shV];exact zaN hle rfl r
 |.sl sz es,y,r=>by simp only[shV];exact zaN hle rfl r
 |.ip sz es i k,y,r=>by simp only[shV];exact zaN hle rfl r
 |.top,y,r=>by simp only[shV,rel]
theorem zlo {c c':Ctx} (hle:c.Le c') (b:Nat) (hS:∀ l,c'.S (l+b)=c.S l):∀ (xs:List AV) (ys:List Value),zbz c xs ys→zbz c' (shL b xs) ys
 |[],ys,r=>by simpa only[shL,zbz] using r
 |x::xs,ys,r=>by
  simp only[shL,zbz]at r ⊢
  obtain ⟨y,ys',e,r1,r2⟩:=r
  exact ⟨y,ys',e,zpg hle b hS x y r1,zlo hle b hS xs ys' r2⟩
theorem zjd {c c':Ctx} (hle:c.Le c') (b:Nat) (hS:∀ l,c'.S (l+b)=c.S l):∀ (xs:List AV) (ys:List Value),relCs c xs ys→relCs c' (shL b xs) ys
 |[],ys,r=>by simpa only[shL,relCs] using r
 |x::xs,ys,r=>by
  simp only[shL,relCs]at r ⊢
  obtain ⟨y,ys',e,ho,r1,r2⟩:=r
  exact ⟨y,ys',e,ho,zpg hle b hS x y r1,zjd hle b hS xs ys' r2⟩
end
section
variable {P:Program} {inv:Nat→Option Nat} {w0:World} {M:Nat→Prop} {n N:Nat} {φ:AF} {σ:AS} {β:Nat→Nat} {w:World}
theorem Mem.join {w':World} {σ':AS} {β':Nat→Nat} (hm:Mem inv w0 M σ β w) (hm':Mem inv w (avoid M σ β) σ' β' w') (b:Nat) (hb:zaR σ≤b) :
  Mem inv w0 M (zjU σ (shS b σ')) (fun l=>if l<b then β l else β' (l-b)) w'∧Ext b (ctx inv M σ β w) (ctx inv M (zjU σ (shS b σ')) (fun l=>if l<b then β l else β' (l-b)) w') ∧
   (∀ x y,rel (ctx inv (avoid M σ β) σ' β' w') x y→rel (ctx inv M (zjU σ (shS b σ')) (fun l=>if l<b then β l else β' (l-b)) w') (shV b x) y):=by
 have hbel:=hm'.below
 have lo:∀ l,l<b→zax (zjU σ (shS b σ')) l=zax σ l:=fun l hl=>by
  rw[zhc,zhb b σ' l hl];cases zax σ l<;>rfl
 have hi:∀ l,zax (zjU σ (shS b σ')) (l+b)=(zax σ' l).map (shO b):=fun l=>by
  rw[zhc,ziq (by omega),zmE]
 have cases_:∀ l,l<b∨∃ k,l=k+b:=fun l=>by
  rcases Nat.lt_or_ge l b with h|h
  ·exact .inl h
  ·exact .inr ⟨l-b,by omega⟩
 have pl_lo:∀ l,l<b→zah (fun l=>if l<b then β l else β' (l-b)) w' (zjU σ (shS b σ')) l=zah β w σ l:=fun l hl=>by
  unfold zah
  rw[lo l hl]
  cases e:zax σ l with
  |none=>rfl
  |some o =>
   cases o with
   |rsv=>rfl
   |imap kvs=>simp only[if_pos hl]
   |cells cs r =>
    cases r with
    |true=>simp only[if_pos hl];rw[zdb (hbel.block _ (hm.own l _ e rfl).2)]
    |false=>rfl
 have pl_hi:∀ l,zah (fun l=>if l<b then β l else β' (l-b)) w' (zjU σ (shS b σ')) (l+b)=zah β' w' σ' l:=fun l=>by
  unfold zah
  rw[hi l]
  have hnot:¬l+b<b:=by omega
  cases e:zax σ' l with
  |none=>rfl
  |some o =>
   cases o with
   |rsv=>rfl
   |imap kvs=>simp only[Option.map_some,shO,if_neg hnot,Nat.add_sub_cancel]
   |cells cs r =>
    cases r with
    |true=>simp only[Option.map_some,shO,if_neg hnot,Nat.add_sub_cancel,zds]
    |false=>simp only[Option.map_some,shO,zds]
 have av:∀ x,avoid M (zjU σ (shS b σ')) (fun l=>if l<b then β l else β' (l-b)) x→avoid (avoid M σ β) σ' β' x:=by
  rintro x (h|⟨l,o,e,hr,hx⟩)
  ·exact .inl (.inl h)
  ·rcases cases_ l with hl|⟨k,rfl⟩
   ·rw[lo l hl]at e
    simp only[if_pos hl]at hx
    exact .inl (.inr ⟨l,o,e,hr,hx⟩)
   ·rw[hi k]at e
    obtain ⟨o',e',rfl⟩:=Option.map_eq_some_iff.1 e
    simp only[if_neg (show ¬k+b<b by omega),Nat.add_sub_cancel]at hx
    exact .inr ⟨k,o',e',by rw[zem]at hr;exact hr,hx⟩
 have hext:Ext b (ctx inv M σ β w) (ctx inv M (zjU σ (shS b σ')) (fun l=>if l<b then β l else β' (l-b)) w'):=by
  refine ⟨⟨rfl,hbel.size,fun x hlt _=>hbel.block x hlt,fun x hlt hx=>?_⟩,fun l hl p' hp'=>?_⟩
  ·rcases av x hx with h|⟨k,o,e,hr,hx⟩
   ·exact h
   ·have h1:=(hm'.own k o e hr).1
    have hlt:x<w.heap.size:=hlt
    omega
  ·have hp':zah (fun l=>if l<b then β l else β' (l-b)) w' (zjU σ (shS b σ')) l=some p':=hp'
   rw[pl_lo l hl]at hp'
   exact ⟨p',hp',Nat.le_refl _,fun _=>rfl⟩
 have hle:(ctx inv (avoid M σ β) σ' β' w').Le (ctx inv M (zjU σ (shS b σ')) (fun l=>if l<b then β l else β' (l-b)) w') :=
  ⟨rfl,Nat.le_refl _,fun _ _ _=>rfl,fun x _ hx=>av x hx⟩
 have hsh:∀ x y,rel (ctx inv (avoid M σ β) σ' β' w') x y→rel (ctx inv M (zjU σ (shS b σ')) (fun l=>if l<b then β l else β' (l-b)) w') (shV b x) y:=zpg hle b pl_hi
 refine ⟨⟨hm.below.trans (hbel.mono hm.below.size),fun l l' o o' e e' hr hr' hbb=>?_,fun l o e hr=>?_,fun l cs e=>?_,fun l cs e=>?_,fun l kvs e=>?_⟩,hext,hsh⟩
 ·rcases cases_ l with hl|⟨k,rfl⟩<;>rcases cases_ l' with hl'|⟨k',rfl⟩
  ·rw[lo l hl]at e;rw[lo l' hl']at e'
   simp only[if_pos hl,if_pos hl']at hbb
   exact hm.inj l l' o o' e e' hr hr' hbb
  ·rw[lo l hl]at e;rw[hi k']at e'
   obtain ⟨o2,e2,rfl⟩:=Option.map_eq_some_iff.1 e'
   simp only[if_pos hl,if_neg (show ¬k'+b<b by omega),Nat.add_sub_cancel]at hbb
   have h1:=(hm.own l o e hr).2
   have h2:=(hm'.own k' o2 e2 (by rw[zem]at hr';exact hr')).1
   omega
  ·rw[hi k]at e;rw[lo l' hl']at e'
   obtain ⟨o2,e2,rfl⟩:=Option.map_eq_some_iff.1 e
   simp only[if_pos hl',if_neg (show ¬k+b<b by omega),Nat.add_sub_cancel]at hbb
   have h1:=(hm.own l' o' e' hr').2
   have h2:=(hm'.own k o2 e2 (by rw[zem]at hr;exact hr)).1
   omega
  ·rw[hi k]at e;rw[hi k']at e'
   obtain ⟨o2,e2,rfl⟩:=Option.map_eq_some_iff.1 e
   obtain ⟨o3,e3,rfl⟩:=Option.map_eq_some_iff.1 e'
   simp only[if_neg (show ¬k+b<b by omega),if_neg (show ¬k'+b<b by omega),Nat.add_sub_cancel]at hbb
   rw[hm'.inj k k' o2 o3 e2 e3 (by rw[zem]at hr;exact hr) (by rw[zem]at hr';exact hr') hbb]
 ·rcases cases_ l with hl|⟨k,rfl⟩
  ·rw[lo l hl]at e
   simp only[if_pos hl]
   have:=hm.own l o e hr
   exact ⟨this.1,Nat.lt_of_lt_of_le this.2 hbel.size⟩
  ·rw[hi k]at e
   obtain ⟨o2,e2,rfl⟩:=Option.map_eq_some_iff.1 e
   simp only[if_neg (show ¬k+b<b by omega),Nat.add_sub_cancel]
   have:=hm'.own k o2 e2 (by rw[zem]at hr;exact hr)
   exact ⟨Nat.le_trans hm.below.size this.1,this.2⟩
 ·rcases cases_ l with hl|⟨k,rfl⟩
  ·rw[lo l hl]at e
   simp only[if_pos hl]
   obtain ⟨xs,ty,e1,e2,e3⟩:=hm.cells l cs e
   refine ⟨xs,ty,(hbel.block _ (hm.own l _ e rfl).2).trans e1,e2,hext.relCs (zat cs ?_) e3⟩
   have:=(zap σ l _ e).2
   exact Nat.le_trans this hb
  ·rw[hi k]at e
   obtain ⟨o2,e2,e3⟩:=Option.map_eq_some_iff.1 e
   cases o2 with
   |cells cs2 r2 =>
    simp only[shO,AO.cells.injEq]at e3
    obtain ⟨rfl,rfl⟩:=e3
    simp only[if_neg (show ¬k+b<b by omega),Nat.add_sub_cancel]
    obtain ⟨xs,ty,k1,k2,k3⟩:=hm'.cells k cs2 e2
    exact ⟨xs,ty,k1,by rw[zds];exact k2,by rw[zds];exact zjd hle b pl_hi cs2 _ k3⟩
   |imap kvs=>simp[shO]at e3
   |rsv=>simp[shO]at e3
 ·rcases cases_ l with hl|⟨k,rfl⟩
  ·rw[lo l hl]at e
   exact hm.ghost l cs e
  ·rw[hi k]at e
   obtain ⟨o2,e2,e3⟩:=Option.map_eq_some_iff.1 e
   cases o2 with
   |cells cs2 r2 =>
    simp only[shO,AO.cells.injEq]at e3
    obtain ⟨rfl,rfl⟩:=e3
    rw[hm'.ghost k cs2 e2]
    rfl
   |imap kvs=>simp[shO]at e3
   |rsv=>simp[shO]at e3
 ·rcases cases_ l with hl|⟨k,rfl⟩
  ·rw[lo l hl]at e
   simp only[if_pos hl]
   obtain ⟨es,clk,e1,e2⟩:=hm.maps l kvs e
   have hlt:β l<w.heap.size:=(hm.own l _ e rfl).2
   exact ⟨es,clk,(hbel.block _ hlt).trans e1,e2⟩
  ·rw[hi k]at e
   obtain ⟨o2,e2,e3⟩:=Option.map_eq_some_iff.1 e
   cases o2 with
   |imap kvs2 =>
    simp only[shO,AO.imap.injEq]at e3
    subst e3
    simp only[if_neg (show ¬k+b<b by omega),Nat.add_sub_cancel]
    exact hm'.maps k kvs2 e2
   |cells cs2 r2=>simp[shO]at e3
   |rsv=>simp[shO]at e3
def PO (P:Program) (inv:Nat→Option Nat) (j:Nat) (args:List AV) (r:AV) (σ0:AS):Prop :=
 ∀ (w0:World) (M:Nat→Prop),(∀ b,M b→b<w0.heap.size)→AC P inv w0 M 0 j args [] fun r' σ'=>r'=r∧σ'=σ0
theorem Mem.none (w:World):Mem inv w M [] (fun _=>0) w:=⟨.refl _ _,by intro l l' o o' e;simp[zax]at e,by intro l o e;simp[zax]at e,by intro l cs e;simp[zax]at e,by intro l cs e;simp[zax]at e,by intro l kvs e;simp[zax]at e⟩
theorem PO.introQ {j:Nat} {F:AFn} (hF:Has P inv j F) {args:List AV} {r0:AV} {σ0:AS} (hl:args.length≤F.ntmps)
  (h:∀ (w0:World) (M:Nat→Prop) (Q:Exit→AF→AS→Prop),(∀ b,M b→b<w0.heap.size)→(∀ φ σ r,zdP φ σ F.res=some r→r=r0∧ze7 σ0 σ→Q .ret φ σ)→(∀ φ σ,Q .ret φ σ→Q .normal φ σ)→AWp P inv w0 M 0 F.ntmps F.body Q (zk5 0 args) []):PO P inv j args r0 σ0:=by
 intro w0 M hM g hg β w vs hm ha
 refine (AC.body hF hl (R:=fun r σ=>r=r0∧ze7 σ0 σ) (h w0 M _ hM (fun φ σ r h1 h2=>⟨r,h1,h2⟩) fun _ _ h=>h) g hg β w vs hm ha).mono ?_
 rintro e w' ⟨v,r,σ',β',rfl,⟨rfl,hs⟩,hm',hx,hr⟩
 have hd:=fun N=>hm'.drop (zek hs) N
 exact ⟨v,r,σ0,β',rfl,⟨rfl,rfl⟩,(hd 0).1,hx.trans (hd 0).2,(hd r.bound).2.rel (zaI _ (Nat.le_refl _)) hr⟩
theorem PO.callK (hM:∀ b,M b→b<w0.heap.size) {j:Nat} {args:List AV} {r:AV} {σ0:AS} (h:PO P inv j args r σ0) {K:AV→AS→Prop} (hk:K (shV (zas N φ σ) r) (zjU σ (shS (zas N φ σ) σ0))):CallK P inv w0 M N φ σ j args K:=by
 obtain ⟨f1,f2,f3⟩:=zbe N φ σ
 refine ⟨zas N φ σ,f1,f2,fun g hg β w vs hm ha=>?_⟩
 have hle:(ctx inv M σ β w).Le (ctx inv (avoid M σ β) [] (fun _=>0) w):=⟨rfl,Nat.le_refl _,fun _ _ _=>rfl,fun b _ hb=>by
  rcases hb with hb|⟨l,o,e,_⟩
  ·exact hb
  ·simp[zax]at e⟩
 have hS:(ctx inv (avoid M σ β) [] (fun _=>0) w).S=fun _=>Option.none:=by funext l;simp[ctx,zah,zax]
 refine (h w (avoid M σ β) (zjN hm hM) g hg (fun _=>0) w vs (Mem.none w) (zbI (N:=0) hle _ _ (.inr hS) ha)).mono ?_
 rintro e w' ⟨v,r',σ',β',rfl,⟨rfl,rfl⟩,hm',_,hr⟩
 obtain ⟨j1,j2,j3⟩:=hm.join hm' (zas N φ σ) f3
 exact ⟨v,_,_,_,rfl,hk,j1,j2,j3 _ _ hr⟩
end
end Go.Eng
namespace Go.Eng
open Go.RowKit
section
variable {P:Program} {inv:Nat→Option Nat} {w0:World} {M:Nat→Prop} {n N:Nat} {φ:AF} {σ:AS} {β:Nat→Nat} {a:Act} {w:World}
theorem Mem.empty (hm:Mem inv w0 M σ β w) {l:Nat} (hl:zaR σ≤l):Mem inv w0 M (zaQ σ l (.cells [] false)) β w∧∀ K,K≤l→Ext K (ctx inv M σ β w) (ctx inv M (zaQ σ l (.cells [] false)) β w):=by
 have hg:∀ k,k≠l→zax (zaQ σ l (.cells [] false)) k=zax σ k:=fun k hk=>by rw[zaf,if_neg hk]
 have hgl:zax (zaQ σ l (.cells [] false)) l=some (.cells [] false):=by rw[zaf,if_pos rfl]
 have hreal:∀ k o,zax (zaQ σ l (.cells [] false)) k=some o→o.real=true→zax σ k=some o:=by
  intro k o e hr
  by_cases hk:k=l
  ·subst hk;rw[hgl]at e;cases e;cases hr
  ·rw[hg k hk]at e;exact e
 have hav:∀ b,avoid M (zaQ σ l (.cells [] false)) β b→avoid M σ β b:=by
  rintro b (h|⟨k,o,e,hr,hb⟩)
  ·exact .inl h
  ·exact .inr ⟨k,o,hreal k o e hr,hr,hb⟩
 have hx:∀ K,K≤l→Ext K (ctx inv M σ β w) (ctx inv M (zaQ σ l (.cells [] false)) β w):=fun K hK =>
  ⟨⟨rfl,Nat.le_refl _,fun _ _ _=>rfl,fun b _ h=>hav b h⟩,fun k hk p' hp'=>⟨p',by
   have hp':zah β w (zaQ σ l (.cells [] false)) k=some p':=hp'
   show zah β w σ k=some p'
   unfold zah at hp' ⊢
   rw[hg k (by omega)]at hp'
   exact hp',Nat.le_refl _,fun _=>rfl⟩⟩
 refine ⟨⟨hm.below,fun k k' o o' e e' hr hr' hb=>hm.inj k k' o o' (hreal k o e hr) (hreal k' o' e' hr') hr hr' hb,fun k o e hr=>hm.own k o (hreal k o e hr) hr,fun k cs e=>?_,fun k cs e=>?_,fun k kvs e=>?_⟩,hx⟩
 ·obtain ⟨xs,ty,e1,e2,e3⟩:=hm.cells k cs (hreal k _ e rfl)
  have hb:=(zap σ k _ (hreal k _ e rfl)).2
  exact ⟨xs,ty,e1,e2,(hx l (Nat.le_refl _)).relCs (zat cs (Nat.le_trans hb hl)) e3⟩
 ·by_cases hk:k=l
  ·subst hk;rw[hgl]at e;cases e;rfl
  ·rw[hg k hk]at e;exact hm.ghost k cs e
 ·exact hm.maps k kvs (hreal k _ e rfl)
theorem zhk {l sz:Nat} {x:Value} (h:rel (ctx inv M σ β w) (.s0 sz) x):rel (ctx inv M (zaQ σ l (.cells [] false)) β w) (.sm l 0 0 0 sz) x:=by
 simp only[rel]at h ⊢
 obtain ⟨ad,rfl⟩:=h
 refine ⟨rfl,fun p hp=>?_⟩
 have hp:zah β w (zaQ σ l (.cells [] false)) l=some p:=hp
 unfold zah at hp
 rw[zaf,if_pos rfl]at hp
 simp only[Option.some.injEq]at hp
 subst hp
 exact ⟨Nat.le_refl _,fun _=>⟨by simp,ad,0,rfl,Nat.le_refl _,by simp⟩⟩
theorem AWp.empty {c:ACode} {Q:Exit→AF→AS→Prop} (t l sz:Nat) (ht:za3 φ t=.s0 sz) (h1:N≤l) (h2:zaC φ≤l) (h3:zaR σ≤l)
  (h:AWp P inv w0 M N n c Q (za5 φ t (.sm l 0 0 0 sz)) (zaQ σ l (.cells [] false))):AWp P inv w0 M N n c Q φ σ:=by
 intro c₀ hc β a w hs
 obtain ⟨hm,hx⟩:=hs.mem.empty h3
 refine Code.wp_mono ?_ (h c₀ hc β a w ⟨⟨fun i=>?_,hm⟩,hs.size,hs.defers⟩)
 ·rintro e a' w' ⟨φ2,σ2,β2,q2,hst2,hext2⟩
  exact ⟨φ2,σ2,β2,q2,hst2,(hx N h1).trans hext2⟩
 ·rw[zaU]
  split
  ·rename_i e
   subst e
   have:=hs.slots i
   rw[ht]at this
   exact zhk this
  ·exact (hx l (Nat.le_refl _)).rel (zaI _ (Nat.le_trans (zbC φ i) h2)) (hs.slots i)
mutual
def rnV (f:Nat→Nat):AV→AV
 |.agg cs=>.agg (rnL f cs)
 |.tup cs=>.tup (rnL f cs)
 |.fn j cs=>.fn j (rnL f cs)
 |.ptr l ver off=>.ptr (f l) ver off
 |.sm l ver off n sz=>.sm (f l) ver off n sz
 |.mp l=>.mp (f l)
 |.i k n=>.i k n
 |.b t=>.b t
 |.v x=>.v x
 |.u=>.u
 |.s0 sz=>.s0 sz
 |.sl sz es=>.sl sz es
 |.ip sz es i k=>.ip sz es i k
 |.top=>.top
def rnL (f:Nat→Nat):List AV→List AV
 |[]=>[]
 |x::xs=>rnV f x::rnL f xs
end
def rnO (f:Nat→Nat):AO→AO
 |.cells cs r=>.cells (rnL f cs) r
 |.imap kvs=>.imap kvs
 |.rsv=>.rsv
def rnS (f:Nat→Nat):List (Nat×AO)→List (Nat×AO)
 |[]=>[]
 |(l,o)::r=>(f l,rnO f o)::rnS f r
def rnF (f:Nat→Nat):List (Nat×AV)→List (Nat×AV)
 |[]=>[]
 |(i,x)::r=>(i,rnV f x)::rnF f r
def swN (a b l:Nat):Nat:=if l=a then b else if l=b then a else l
theorem zoI (a b l:Nat):swN a b (swN a b l)=l:=by unfold swN;grind
theorem zeo (f:Nat→Nat):∀ xs:List AV,(rnL f xs).length=xs.length
 |[]=>rfl
 |x::xs=>by simp[rnL,zeo f xs]
theorem zi9 (f:Nat→Nat) (o:AO):(rnO f o).real=o.real:=by cases o<;>rfl
theorem zm9 (f:Nat→Nat):∀ (φ:AF) (i:Nat),za3 (rnF f φ) i=rnV f (za3 φ i)
 |[],i=>rfl
 |(j,x)::r,i=>by
  simp only[rnF,za3]
  split
  ·rfl
  ·exact zm9 f r i
theorem zmF {f:Nat→Nat} (hf:∀ l,f (f l)=l):∀ (σ:AS) (l:Nat),zax (rnS f σ) (f l)=(zax σ l).map (rnO f)
 |[],l=>rfl
 |(k,o)::r,l=>by
  simp only[rnS,zax,zmF hf r l]
  by_cases h:l=k
  ·subst h;simp
  ·rw[if_neg (fun e=>h (by rw[←hf l,e,hf])),if_neg h]
mutual
theorem zph {c c':Ctx} (hle:c.Le c') (f:Nat→Nat) (hS:∀ l,c'.S (f l)=c.S l):∀ (x:AV) (y:Value),rel c x y→rel c' (rnV f x) y
 |.agg cs,y,r=>by
  simp only[rel,rnV]at r ⊢
  obtain ⟨xs,e,r⟩:=r
  exact ⟨xs,e,zje hle f hS cs _ r⟩
 |.tup cs,y,r=>by
  simp only[rel,rnV]at r ⊢
  obtain ⟨xs,e,r⟩:=r
  exact ⟨xs,e,zlp hle f hS cs _ r⟩
 |.fn j cs,y,r=>by
  simp only[rel,rnV]at r ⊢
  obtain ⟨g,xs,e,hi,r⟩:=r
  exact ⟨g,xs,e,by rw[hle.inv];exact hi,zlp hle f hS cs _ r⟩
 |.ptr l ver off,y,r=>by
  simp only[rel,rnV]at r ⊢
  rw[hS];exact r
 |.sm l ver off n sz,y,r=>by
  simp only[rel,rnV]at r ⊢
  rw[hS];exact r
 |.mp l,y,r=>by
  simp only[rel,rnV]at r ⊢
  rw[hS];exact r
 |.i k n,y,r=>by simp only[rnV];exact zaN hle rfl r
 |.b t,y,r=>by simp only[rnV];exact zaN hle rfl r
 |.v x,y,r=>by simp only[rnV];exact zaN hle rfl r
 |.u,y,r=>by simp only[rnV];exact zaN hle rfl r
 |.s0 sz,y,r=>by simp only[rnV];exact zaN hle rfl r
 |.sl sz es,y,r=>by simp only[rnV];exact zaN hle rfl r
 |.ip sz es i k,y,r=>by simp only[rnV];exact zaN hle rfl r
 |.top,y,r=>by simp only[rnV,rel]
theorem zlp {c c':Ctx} (hle:c.Le c') (f:Nat→Nat) (hS:∀ l,c'.S (f l)=c.S l):∀ (xs:List AV) (ys:List Value),zbz c xs ys→zbz c' (rnL f xs) ys
 |[],ys,r=>by simpa only[rnL,zbz] using r
 |x::xs,ys,r=>by
  simp only[rnL,zbz]at r ⊢
  obtain ⟨y,ys',e,r1,r2⟩:=r
  exact ⟨y,ys',e,zph hle f hS x y r1,zlp hle f hS xs ys' r2⟩
theorem zje {c c':Ctx} (hle:c.Le c') (f:Nat→Nat) (hS:∀ l,c'.S (f l)=c.S l):∀ (xs:List AV) (ys:List Value),relCs c xs ys→relCs c' (rnL f xs) ys
 |[],ys,r=>by simpa only[rnL,relCs] using r
 |x::xs,ys,r=>by
  simp only[rnL,relCs]at r ⊢
  obtain ⟨y,ys',e,ho,r1,r2⟩:=r
  exact ⟨y,ys',e,ho,zph hle f hS x y r1,zje hle f hS xs ys' r2⟩
end
theorem Mem.rename {f:Nat→Nat} (hf:∀ l,f (f l)=l) (hm:Mem inv w0 M σ β w):Mem inv w0 M (rnS f σ) (fun l=>β (f l)) w∧(∀ K,(∀ l,l<K→f l=l)→Ext K (ctx inv M σ β w) (ctx inv M (rnS f σ) (fun l=>β (f l)) w)) ∧
  ∀ x y,rel (ctx inv M σ β w) x y→rel (ctx inv M (rnS f σ) (fun l=>β (f l)) w) (rnV f x) y:=by
 have hg:=zmF hf σ
 have hg':∀ l,zax (rnS f σ) l=(zax σ (f l)).map (rnO f):=fun l=>by rw[←hg (f l),hf]
 have hpl:∀ l,zah (fun l=>β (f l)) w (rnS f σ) (f l)=zah β w σ l:=fun l=>by
  unfold zah
  rw[hg l]
  cases e:zax σ l with
  |none=>rfl
  |some o =>
   cases o with
   |rsv=>rfl
   |imap kvs=>simp only[Option.map_some,rnO,hf]
   |cells cs r=>cases r<;>simp only[Option.map_some,rnO,hf,zeo]
 have hback:∀ l o,zax (rnS f σ) l=some o→∃ o',zax σ (f l)=some o'∧o=rnO f o':=fun l o e=>by
  rw[hg' l]at e
  obtain ⟨o',e',rfl⟩:=Option.map_eq_some_iff.1 e
  exact ⟨o',e',rfl⟩
 have hav:∀ b,avoid M (rnS f σ) (fun l=>β (f l)) b→avoid M σ β b:=by
  rintro b (h|⟨k,o,e,hr,hb⟩)
  ·exact .inl h
  ·obtain ⟨o',e',rfl⟩:=hback k o e
   exact .inr ⟨f k,o',e',by rw[zi9]at hr;exact hr,hb⟩
 have hle:(ctx inv M σ β w).Le (ctx inv M (rnS f σ) (fun l=>β (f l)) w):=⟨rfl,Nat.le_refl _,fun _ _ _=>rfl,fun b _ h=>hav b h⟩
 refine ⟨⟨hm.below,fun k k' o o' e e' hr hr' hb=>?_,fun k o e hr=>?_,fun k cs e=>?_,fun k cs e=>?_,fun k kvs e=>?_⟩,fun K hK=>⟨hle,fun l hl p' hp'=>?_⟩,zph hle f hpl⟩
 ·obtain ⟨o1,e1,rfl⟩:=hback k o e
  obtain ⟨o2,e2,rfl⟩:=hback k' o' e'
  rw[zi9]at hr hr'
  have:=hm.inj _ _ _ _ e1 e2 hr hr' hb
  rw[←hf k,this,hf]
 ·obtain ⟨o1,e1,rfl⟩:=hback k o e
  rw[zi9]at hr
  exact hm.own _ _ e1 hr
 ·obtain ⟨o1,e1,e2⟩:=hback k _ e
  cases o1 with
  |cells cs1 r1 =>
   simp only[rnO,AO.cells.injEq]at e2
   obtain ⟨rfl,rfl⟩:=e2
   obtain ⟨xs,ty,k1,k2,k3⟩:=hm.cells _ cs1 e1
   exact ⟨xs,ty,k1,by rw[zeo];exact k2,by rw[zeo];exact zje hle f hpl cs1 _ k3⟩
  |imap kvs=>simp[rnO]at e2
  |rsv=>simp[rnO]at e2
 ·obtain ⟨o1,e1,e2⟩:=hback k _ e
  cases o1 with
  |cells cs1 r1 =>
   simp only[rnO,AO.cells.injEq]at e2
   obtain ⟨rfl,rfl⟩:=e2
   rw[hm.ghost _ cs1 e1];rfl
  |imap kvs=>simp[rnO]at e2
  |rsv=>simp[rnO]at e2
 ·obtain ⟨o1,e1,e2⟩:=hback k _ e
  cases o1 with
  |imap kvs1 =>
   simp only[rnO,AO.imap.injEq]at e2
   subst e2
   exact hm.maps _ kvs e1
  |cells cs1 r1=>simp[rnO]at e2
  |rsv=>simp[rnO]at e2
 ·have hp':zah (fun l=>β (f l)) w (rnS f σ) l=some p':=hp'
  have:zah (fun l=>β (f l)) w (rnS f σ) l=zah β w σ l:=by rw[←hpl l,hK l hl]
  refine ⟨p', ?_,Nat.le_refl _,fun _=>rfl⟩
  show zah β w σ l=some p'
  rw[←this]
  exact hp'
def swF:List (Nat×Nat)→List (Nat×AV)→List (Nat×AV)
 |[],φ=>φ
 |(a,b)::r,φ=>swF r (rnF (swN a b) φ)
def swS:List (Nat×Nat)→List (Nat×AO)→List (Nat×AO)
 |[],σ=>σ
 |(a,b)::r,σ=>swS r (rnS (swN a b) σ)
def swOk (N:Nat):List (Nat×Nat)→Prop
 |[]=>True
 |(a,b)::r=>(N≤a∧N≤b)∧swOk N r
theorem St.swap (N:Nat):∀ (sw:List (Nat×Nat)) {φ:AF} {σ:AS} {β:Nat→Nat},swOk N sw→St inv w0 M n φ σ β a w→∃ β',St inv w0 M n (swF sw φ) (swS sw σ) β' a w∧Ext N (ctx inv M σ β w) (ctx inv M (swS sw σ) β' w)
 |[],φ,σ,β,_,hs=>⟨β,hs,.refl _ _⟩
 |(x,y)::r,φ,σ,β,hok,hs=>by
  obtain ⟨h1,h2,h3⟩:=hs.mem.rename (zoI x y)
  have hst:St inv w0 M n (rnF (swN x y) φ) (rnS (swN x y) σ) (fun l=>β (swN x y l)) a w:=⟨⟨fun i=>by rw[zm9];exact h3 _ _ (hs.slots i),h1⟩,hs.size,hs.defers⟩
  obtain ⟨β',k1,k2⟩:=St.swap N r hok.2 hst
  exact ⟨β',k1,(h2 N fun l hl=>by have:=hok.1;unfold swN;rw[if_neg (by omega),if_neg (by omega)]).trans k2⟩
def ends (N:Nat) (F:List (Nat×AV)) (S:List (Nat×AO)) (sw:List (Nat×Nat)) (φ:List (Nat×AV)) (σ:List (Nat×AO)):Prop:=swOk N sw∧zgA F (swF sw φ)∧ze7 S (swS sw σ)
def lendR {ι:Type} (N:Nat) (F:ι→List (Nat×AV)) (S:ι→List (Nat×AO)) (Inv:ι→Prop) (μ:ι→Nat) (s:ι):List (Nat×AV)→List (Nat×AO)→Prop:=fun φ' σ'=>∃ s' sw,(μ s'<μ s∧Inv s')∧ends N (F s') (S s') sw φ' σ'
theorem zpG {ι:Type} (N:Nat) (F:ι→List (Nat×AV)) (S:ι→List (Nat×AO)) (Inv:ι→Prop) (μ:ι→Nat) (s:ι) (φ':List (Nat×AV)) (σ':List (Nat×AO)):lendR N F S Inv μ s φ' σ'=∃ s' sw,(μ s'<μ s∧Inv s')∧ends N (F s') (S s') sw φ' σ':=rfl
attribute [go_sem] zpG
theorem zqY {ι:Type} {x:ACode} {Q:Exit→AF→AS→Prop} (F:ι→AF) (S:ι→AS) (Inv:ι→Prop) (μ:ι→Nat) (s0:ι) (hi:Inv s0) (h1:zgA (F s0) φ) (h2:ze7 (S s0) σ)
  (hr:∀ s,Inv s→AWp P inv w0 M N n x (zou (lendR N F S Inv μ s) Q) (F s) (S s)):AWp P inv w0 M N n (.loop x) Q φ σ:=by
 intro c₀ hc β a w hs
 obtain ⟨x₀,rfl,hx⟩:=zmZ hc
 obtain ⟨hs0,he0⟩:=hs.sub h1 h2 N
 refine Code.wp_mono (fun _ _ _ h=>h) (wp_loop_ghost (fun m' a' w'=>∃ s β',m'=μ s∧Inv s∧St inv w0 M n (F s) (S s) β' a' w'∧Ext N (ctx inv M σ β w) (ctx inv M (S s) β' w')) (μ s0) ⟨s0,β,rfl,hi,hs0,he0⟩ ?_)
 rintro m1 a1 w1 ⟨s1,β1,rfl,hI1,hs1,he1⟩
 refine Code.wp_mono ?_ (hr s1 hI1 x₀ hx β1 a1 w1 hs1)
 rintro e a2 w2 ⟨φ2,σ2,β2,q,hst,hext⟩
 cases e with
 |normal =>
  obtain ⟨s',sw,⟨hlt,hI'⟩,hok,hf,hss⟩:=q
  obtain ⟨β3,hst3,hext3⟩:=hst.swap N sw hok
  obtain ⟨hst4,hext4⟩:=hst3.sub hf hss N
  exact ⟨_,hlt,s',β3,rfl,hI',hst4,he1.trans (hext.trans (hext3.trans hext4))⟩
 |exit id=>exact ⟨φ2,σ2,β2,q,hst,he1.trans hext⟩
 |goto l=>exact ⟨φ2,σ2,β2,q,hst,he1.trans hext⟩
 |ret=>exact ⟨φ2,σ2,β2,q,hst,he1.trans hext⟩
 |panic ch=>exact ⟨φ2,σ2,β2,q,hst,he1.trans hext⟩
 |outgrown=>exact ⟨φ2,σ2,β2,q,hst,he1.trans hext⟩
theorem SLe_of {σ σ':AS} (h:ze7 σ σ'):SLe σ σ':=fun l o e _=>zek h l o e
theorem zqT {j:Nat} {F:AFn} (hF:Has P inv j F) {args:List AV} {r0:AV} {σ0:AS} (hl:args.length≤F.ntmps)
  (h:∀ (w0:World) (M:Nat→Prop) (Q:Exit→AF→AS→Prop),(∀ b,M b→b<w0.heap.size)→(∀ φ σ r,zdP φ σ F.res=some r→(r=r0∧ze7 σ0 σ)∨(∃ sz,r=.s0 sz∧r0=.sm 0 0 0 0 sz∧σ0=[(0,.cells [] false)])→Q .ret φ σ)→(∀ φ σ,Q .ret φ σ→Q .normal φ σ)→AWp P inv w0 M 0 F.ntmps F.body Q (zk5 0 args) []):PO P inv j args r0 σ0:=by
 intro w0 M hM g hg β w vs hm ha
 refine (AC.body hF hl (R:=fun r σ=>(r=r0∧ze7 σ0 σ)∨(∃ sz,r=.s0 sz∧r0=.sm 0 0 0 0 sz∧σ0=[(0,.cells [] false)])) (h w0 M _ hM (fun φ σ r h1 h2=>⟨r,h1,h2⟩) fun _ _ h=>h) g hg β w vs hm ha).mono ?_
 rintro e w' ⟨v,r,σ',β',rfl,hR,hm',hx,hr⟩
 rcases hR with ⟨rfl,hs⟩|⟨sz,rfl,rfl,rfl⟩
 ·have hd:=fun N=>hm'.drop (zek hs) N
  exact ⟨v,r,σ0,β',rfl,⟨rfl,rfl⟩,(hd 0).1,hx.trans (hd 0).2,(hd r.bound).2.rel (zaI _ (Nat.le_refl _)) hr⟩
 ·have hd:=fun N=>hm'.drop (σ':=[]) (fun l o e=>by simp[zax]at e) N
  obtain ⟨g1,g2⟩:=(hd 0).1.empty (l:=0) (Nat.le_refl _)
  have hr0:=(hd 0).2.rel (zaI (AV.s0 sz) (Nat.le_refl _)) hr
  exact ⟨v,_,[(0,.cells [] false)],β',rfl,⟨rfl,rfl⟩,g1,hx.trans ((hd 0).2.trans (g2 0 (Nat.le_refl _))),zhk hr0⟩
end
mutual
theorem plain_sh (b:Nat):∀ x:AV,x.plain=true→shV b x=x
 |.agg cs,h=>by simp only[AV.plain]at h;simp only[shV,zhv b cs h]
 |.i _ _,_=>rfl|.b _,_=>rfl|.v _,_=>rfl|.sl _ _,_=>rfl|.ip _ _ _ _,_=>rfl
 |.tup _,h=>by simp[AV.plain]at h
 |.u,h=>by simp[AV.plain]at h
 |.s0 _,h=>by simp[AV.plain]at h
 |.ptr _ _ _,h=>by simp[AV.plain]at h
 |.sm _ _ _ _ _,h=>by simp[AV.plain]at h
 |.fn _ _,h=>by simp[AV.plain]at h
 |.mp _,h=>by simp[AV.plain]at h
 |.top,h=>by simp[AV.plain]at h
theorem zhv (b:Nat):∀ xs:List AV,zaD xs=true→shL b xs=xs
 |[],_=>rfl
 |x::xs,h=>by
  simp only[zaD,Bool.and_eq_true]at h
  simp only[shL,plain_sh b x h.1,zhv b xs h.2]
end
mutual
theorem plain_rn (f:Nat→Nat):∀ x:AV,x.plain=true→rnV f x=x
 |.agg cs,h=>by simp only[AV.plain]at h;simp only[rnV,zhw f cs h]
 |.i _ _,_=>rfl|.b _,_=>rfl|.v _,_=>rfl|.sl _ _,_=>rfl|.ip _ _ _ _,_=>rfl
 |.tup _,h=>by simp[AV.plain]at h
 |.u,h=>by simp[AV.plain]at h
 |.s0 _,h=>by simp[AV.plain]at h
 |.ptr _ _ _,h=>by simp[AV.plain]at h
 |.sm _ _ _ _ _,h=>by simp[AV.plain]at h
 |.fn _ _,h=>by simp[AV.plain]at h
 |.mp _,h=>by simp[AV.plain]at h
 |.top,h=>by simp[AV.plain]at h
theorem zhw (f:Nat→Nat):∀ xs:List AV,zaD xs=true→rnL f xs=xs
 |[],_=>rfl
 |x::xs,h=>by
  simp only[zaD,Bool.and_eq_true]at h
  simp only[rnL,plain_rn f x h.1,zhw f xs h.2]
end
section cells
variable {α:Type} {c:α→List AV} {sz:Nat} [h:Cells c sz]
include h
theorem flat_sh (b:Nat) (l:List α):shL b (l.map c).flatten=(l.map c).flatten:=zhv b _ (zcv l)
theorem flat_rn (f:Nat→Nat) (l:List α):rnL f (l.map c).flatten=(l.map c).flatten:=zhw f _ (zcv l)
theorem zcA {l:List α} {k i:Nat} [Inhabited α] (hk:k<l.length) (hi:i<sz):(l.map c).flatten[k*sz+i]?=(c (nth l k))[i]?:=by
 have e:(l.map c).flatten[k*sz+i]?=((l.map c).flatten.drop (k*sz))[i]?:=by rw[List.getElem?_drop]
 rw[e,zfF l k (by omega),zag hk,List.map_cons,List.flatten_cons,List.getElem?_append_left (by rw[h.len];exact hi)]
theorem zgf {l:List α} {k:Nat} [Inhabited α] (hk:k<l.length) (hs:0<sz):zbY (l.map c).flatten (k*sz) (some sz)=some (.agg (c (nth l k))):=by
 have hle:k*sz+sz≤(l.map c).flatten.length:=by
  rw[zbm]
  have:(k+1)*sz≤l.length*sz:=Nat.mul_le_mul_right _ hk
  rw[Nat.add_mul,Nat.one_mul]at this
  exact this
 show (if 0<sz∧k*sz+sz≤(l.map c).flatten.length then some (AV.agg (seg (l.map c).flatten (k*sz) sz)) else none)=_
 rw[if_pos ⟨hs,hle⟩,flat_seg l k hk,zay hk]
theorem zey {l:List α} {k i:Nat} [Inhabited α] (hk:k<l.length) (hi:i<sz) (x:AV) (a:α) (ha:c a=(c (nth l k)).set i x):(l.map c).flatten.set (k*sz+i) x=((l.set k a).map c).flatten:=by
 induction l generalizing k with
 |nil=>simp at hk
 |cons y l ih =>
  cases k with
  |zero =>
   simp only[Nat.zero_mul,Nat.zero_add,List.map_cons,List.flatten_cons,List.set_cons_zero]
   rw[List.set_append_left _ _ (by rw[h.len];exact hi),ha]
   rfl
  |succ k =>
   simp only[List.map_cons,List.flatten_cons,List.set_cons_succ]
   rw[List.set_append_right _ _ (by rw[h.len,Nat.add_mul];omega),h.len,show (k+1)*sz+i-sz=k*sz+i by rw[Nat.add_mul];omega]
   rw[ih (by simpa using hk) (by simpa [nth] using ha)]
end cells
attribute [go_sem] flat_sh flat_rn Nat.zero_le
attribute [go_sem high] zgf
attribute [go_sem] shV shL shO shS zjU rnV rnL rnO rnS rnF swN swF swS swOk zir
theorem PO.fn {P:Program} {inv:Nat→Option Nat} (hH:HasAll P inv) {j:Nat} (F:AFn) {args:List AV} {r0:AV} {σ0:AS}
  (h:∀ (w0:World) (M:Nat→Prop) (Q:Exit→AF→AS→Prop),(∀ b,M b→b<w0.heap.size)→zb0 P inv→(∀ φ σ r,zdP φ σ F.res=some r→(r=r0∧ze7 σ0 σ)∨(∃ sz,r=.s0 sz∧r0=.sm 0 0 0 0 sz∧σ0=[(0,.cells [] false)])→Q .ret φ σ)→(∀ φ σ,Q .ret φ σ→Q .normal φ σ)→AWp P inv w0 M 0 F.ntmps F.body Q (zk5 0 args) []) (hF:code j=some F:=by rfl) (hl:args.length≤F.ntmps:=by exact Nat.le_of_ble_eq_true rfl):PO P inv j args r0 σ0 :=
 zqT (hH.has _ _ hF) hl fun w0 M Q hM hQ hR=>h w0 M Q hM hH.callable hQ hR
end Go.Eng
namespace Go.Eng
open Go.RowKit
mutual
/-- The row l,whose cells are cs,as a slice that nobody writes. -/
def frV (l:Nat) (cs:List AV):AV→AV
 |.agg ds=>.agg (frL l cs ds)
 |.tup ds=>.tup (frL l cs ds)
 |.fn j ds=>.fn j (frL l cs ds)
 |.sm l' ver off n sz=>if l'=l∧ver=cs.length∧off=0 then .sl sz (zbv sz n cs) else .sm l' ver off n sz
 |.ptr l' ver off=>.ptr l' ver off
 |.mp l'=>.mp l'
 |.i k n=>.i k n
 |.b t=>.b t
 |.v x=>.v x
 |.u=>.u
 |.s0 sz=>.s0 sz
 |.sl sz es=>.sl sz es
 |.ip sz es i k=>.ip sz es i k
 |.top=>.top
def frL (l:Nat) (cs:List AV):List AV→List AV
 |[]=>[]
 |x::xs=>frV l cs x::frL l cs xs
end
def frO (l:Nat) (cs:List AV):AO→AO
 |.cells ds r=>.cells (frL l cs ds) r
 |.imap kvs=>.imap kvs
 |.rsv=>.rsv
def frS (l:Nat) (cs:List AV):List (Nat×AO)→List (Nat×AO)
 |[]=>[]
 |(k,o)::r=>(k,frO l cs o)::frS l cs r
def frF (l:Nat) (cs:List AV):List (Nat×AV)→List (Nat×AV)
 |[]=>[]
 |(i,x)::r=>(i,frV l cs x)::frF l cs r
mutual
theorem rel_fr {c c':Ctx} {l:Nat} {cs:List AV} (hle:c.Le c') (hS:∀ k p,c'.S k=some p→c.S k=some p) (hrow:∀ (n sz:Nat) (y:Value),rel c (.sm l cs.length 0 n sz) y→rel c' (.sl sz (zbv sz n cs)) y):∀ (x:AV) (y:Value),rel c x y→rel c' (frV l cs x) y
 |.agg ds,y,r=>by
  simp only[rel,frV]at r ⊢
  obtain ⟨xs,e,r⟩:=r
  exact ⟨xs,e,zmP hle hS hrow ds _ r⟩
 |.tup ds,y,r=>by
  simp only[rel,frV]at r ⊢
  obtain ⟨xs,e,r⟩:=r
  exact ⟨xs,e,zlr hle hS hrow ds _ r⟩
 |.fn j ds,y,r=>by
  simp only[rel,frV]at r ⊢
  obtain ⟨g,xs,e,hi,r⟩:=r
  exact ⟨g,xs,e,by rw[hle.inv];exact hi,zlr hle hS hrow ds _ r⟩
 |.sm l' ver off n sz,y,r=>by
  simp only[frV]
  split
  ·rename_i h
   obtain ⟨rfl,rfl,rfl⟩:=h
   exact hrow n sz y r
  ·simp only[rel]at r ⊢
   exact ⟨r.1,fun p hp=>r.2 p (hS _ _ hp)⟩
 |.ptr l' ver off,y,r=>by
  simp only[rel,frV]at r ⊢
  exact ⟨r.1,fun p hp=>r.2 p (hS _ _ hp)⟩
 |.mp l',y,r=>by
  simp only[rel,frV]at r ⊢
  exact ⟨r.1,fun p hp=>r.2 p (hS _ _ hp)⟩
 |.i k n,y,r=>by simp only[frV];exact zaN hle rfl r
 |.b t,y,r=>by simp only[frV];exact zaN hle rfl r
 |.v x,y,r=>by simp only[frV];exact zaN hle rfl r
 |.u,y,r=>by simp only[frV];exact zaN hle rfl r
 |.s0 sz,y,r=>by simp only[frV];exact zaN hle rfl r
 |.sl sz es,y,r=>by simp only[frV];exact zaN hle rfl r
 |.ip sz es i k,y,r=>by simp only[frV];exact zaN hle rfl r
 |.top,y,r=>by simp only[frV,rel]
theorem zlr {c c':Ctx} {l:Nat} {cs:List AV} (hle:c.Le c') (hS:∀ k p,c'.S k=some p→c.S k=some p) (hrow:∀ (n sz:Nat) (y:Value),rel c (.sm l cs.length 0 n sz) y→rel c' (.sl sz (zbv sz n cs)) y):∀ (xs:List AV) (ys:List Value),zbz c xs ys→zbz c' (frL l cs xs) ys
 |[],ys,r=>by simpa only[frL,zbz] using r
 |x::xs,ys,r=>by
  simp only[frL,zbz]at r ⊢
  obtain ⟨y,ys',e,r1,r2⟩:=r
  exact ⟨y,ys',e,rel_fr hle hS hrow x y r1,zlr hle hS hrow xs ys' r2⟩
theorem zmP {c c':Ctx} {l:Nat} {cs:List AV} (hle:c.Le c') (hS:∀ k p,c'.S k=some p→c.S k=some p) (hrow:∀ (n sz:Nat) (y:Value),rel c (.sm l cs.length 0 n sz) y→rel c' (.sl sz (zbv sz n cs)) y):∀ (xs:List AV) (ys:List Value),relCs c xs ys→relCs c' (frL l cs xs) ys
 |[],ys,r=>by simpa only[frL,relCs] using r
 |x::xs,ys,r=>by
  simp only[frL,relCs]at r ⊢
  obtain ⟨y,ys',e,ho,r1,r2⟩:=r
  exact ⟨y,ys',e,ho,rel_fr hle hS hrow x y r1,zmP hle hS hrow xs ys' r2⟩
end
section
variable {P:Program} {inv:Nat→Option Nat} {w0:World} {M:Nat→Prop} {n N:Nat} {φ:AF} {σ:AS}
end
section cells
variable {α:Type} {c:α→List AV} {sz:Nat} [h:Cells c sz]
include h
mutual
theorem plain_fr (l:Nat) (cs:List AV):∀ x:AV,x.plain=true→frV l cs x=x
 |.agg ds,h=>by simp only[AV.plain]at h;simp only[frV,zhx l cs ds h]
 |.i _ _,_=>by simp only[frV]
 |.b _,_=>by simp only[frV]
 |.v _,_=>by simp only[frV]
 |.sl _ _,_=>by simp only[frV]
 |.ip _ _ _ _,_=>by simp only[frV]
 |.tup _,h=>by simp[AV.plain]at h
 |.u,h=>by simp[AV.plain]at h
 |.s0 _,h=>by simp[AV.plain]at h
 |.ptr _ _ _,h=>by simp[AV.plain]at h
 |.sm _ _ _ _ _,h=>by simp[AV.plain]at h
 |.fn _ _,h=>by simp[AV.plain]at h
 |.mp _,h=>by simp[AV.plain]at h
 |.top,h=>by simp[AV.plain]at h
theorem zhx (l:Nat) (cs:List AV):∀ xs:List AV,zaD xs=true→frL l cs xs=xs
 |[],_=>by simp only[frL]
 |x::xs,h=>by
  simp only[zaD,Bool.and_eq_true]at h
  simp only[frL,plain_fr l cs x h.1,zhx l cs xs h.2]
end
theorem flat_fr (l':Nat) (cs:List AV) (l:List α):frL l' cs (l.map c).flatten=(l.map c).flatten:=zhx (c:=c) l' cs _ (zcv l)
end cells
attribute [go_sem] flat_fr
attribute [go_sem] frV frL frO frS frF
end Go.Eng
namespace Go.Eng
open Go.RowKit
def zeG:List (Nat×AV)→List (Nat×AV)→List (Nat×AV)
 |[],φ=>φ
 |(i,x)::r,φ=>zeG r (za5 φ i x)
def zeF:List (Nat×AO)→List (Nat×AO)→List (Nat×AO)
 |[],σ=>σ
 |(i,x)::r,σ=>zeF r (zaQ σ i x)
attribute [go_sem] zeG zeF
section
variable {P:Program} {inv:Nat→Option Nat} {w0:World} {M:Nat→Prop} {n N:Nat} {φ:AF} {σ:AS}
theorem zqZ {ι:Type} {x:ACode} {Q:Exit→AF→AS→Prop} (ks:List Nat) (m:ι→List (Nat×AV)) (t:ι→List (Nat×AO)) (Inv:ι→Prop) (μ:ι→Nat) (s0:ι) (hi:Inv s0) (h1:zgA (zeG (m s0) (zdh ks φ)) φ) (h2:ze7 (zeF (t s0) σ) σ)
  (hr:∀ s,Inv s→AWp P inv w0 M N n x (zou (lend (fun s=>zeG (m s) (zdh ks φ)) (fun s=>zeF (t s) σ) Inv μ s) Q) (zeG (m s) (zdh ks φ)) (zeF (t s) σ)):AWp P inv w0 M N n (.loop x) Q φ σ :=
 zbP (fun s=>zeG (m s) (zdh ks φ)) (fun s=>zeF (t s) σ) Inv μ s0 hi h1 h2 hr
theorem zoo {ι:Type} {x:ACode} {Q:Exit→AF→AS→Prop} (ks:List Nat) (m:ι→List (Nat×AV)) (t:ι→List (Nat×AO)) (Inv:ι→Prop) (μ:ι→Nat) (s0:ι) (hi:Inv s0) (h1:zgA (zeG (m s0) (zdh ks φ)) φ) (h2:ze7 (zeF (t s0) σ) σ)
  (hr:∀ s,Inv s→AWp P inv w0 M N n x (zou (lendR N (fun s=>zeG (m s) (zdh ks φ)) (fun s=>zeF (t s) σ) Inv μ s) Q) (zeG (m s) (zdh ks φ)) (zeF (t s) σ)):AWp P inv w0 M N n (.loop x) Q φ σ :=
 zqY (fun s=>zeG (m s) (zdh ks φ)) (fun s=>zeF (t s) σ) Inv μ s0 hi h1 h2 hr
theorem zaz {ι:Type} {x:ACode} {Q:Exit→AF→AS→Prop} (ks:List Nat) (m:ι→List (Nat×AV)) (t:ι→List (Nat×AO)) (c:ι→Nat) (b:Nat) (Inv:ι→Prop) (s0:ι)
  (hr:∀ s,c s≤b∧Inv s→AWp P inv w0 M N n x (zou (lend (fun s=>zeG (m s) (zdh ks φ)) (fun s=>zeF (t s) σ) (fun s=>c s≤b∧Inv s) (fun s=>b-c s) s) Q) (zeG (m s) (zdh ks φ)) (zeF (t s) σ))
  (hi:c s0≤b∧Inv s0:=by ((try dsimp only);refine ⟨Nat.zero_le _, ?_⟩;(repeat' refine And.intro ?_ ?_)<;>first|exact wT|assumption|rfl|omega|(simp;done)|(simp;omega)|grind)) (h1:zgA (zeG (m s0) (zdh ks φ)) φ:=by ((try dsimp only);refine wD ?_;first|with_reducible exact wT|omega|(simp;done))) (h2:ze7 (zeF (t s0) σ) σ:=by ((try dsimp only);refine wD ?_;first|with_reducible exact wT|omega|(simp;done))):AWp P inv w0 M N n (.loop x) Q φ σ :=
 zqZ ks m t (fun s=>c s≤b∧Inv s) (fun s=>b-c s) s0 hi h1 h2 hr
theorem AWp.lMR {ι:Type} {x:ACode} {Q:Exit→AF→AS→Prop} (ks:List Nat) (m:ι→List (Nat×AV)) (t:ι→List (Nat×AO)) (c:ι→Nat) (b:Nat) (Inv:ι→Prop) (s0:ι)
  (hr:∀ s,c s≤b∧Inv s→AWp P inv w0 M N n x (zou (lendR N (fun s=>zeG (m s) (zdh ks φ)) (fun s=>zeF (t s) σ) (fun s=>c s≤b∧Inv s) (fun s=>b-c s) s) Q) (zeG (m s) (zdh ks φ)) (zeF (t s) σ))
  (hi:c s0≤b∧Inv s0:=by ((try dsimp only);refine ⟨Nat.zero_le _, ?_⟩;(repeat' refine And.intro ?_ ?_)<;>first|exact wT|assumption|rfl|omega|(simp;done)|(simp;omega)|grind)) (h1:zgA (zeG (m s0) (zdh ks φ)) φ:=by ((try dsimp only);refine wD ?_;first|with_reducible exact wT|omega|(simp;done))) (h2:ze7 (zeF (t s0) σ) σ:=by ((try dsimp only);refine wD ?_;first|with_reducible exact wT|omega|(simp;done))):AWp P inv w0 M N n (.loop x) Q φ σ :=
 zoo ks m t (fun s=>c s≤b∧Inv s) (fun s=>b-c s) s0 hi h1 h2 hr
theorem AWp.swap {c:ACode} {Q:Exit→AF→AS→Prop} (sw:List (Nat×Nat)) (hok:swOk N sw) (h:AWp P inv w0 M N n c Q (swF sw φ) (swS sw σ)):AWp P inv w0 M N n c Q φ σ:=by
 intro c₀ hc β a w hs
 obtain ⟨β',hst,hx⟩:=St.swap N sw hok hs
 exact Code.wp_mono (fun _ _ _ ⟨φ2,σ2,β2,q2,hst2,hext2⟩=>⟨φ2,σ2,β2,q2,hst2,hx.trans hext2⟩) (h c₀ hc β' a w hst)
theorem PO.pc {j:Nat} {args:List AV} {r:AV} {σ0:AS} (h:PO P inv j args r σ0):PC P inv j args (·=zdU 4 σ0 r):=by
 intro g hg M w vs hM ha
 have hm:=Mem.none (inv:=inv) (M:=M) w
 have hle:(⟨inv,w,M,fun _=>none⟩:Ctx).Le (ctx inv M [] (fun _=>0) w):=⟨rfl,Nat.le_refl _,fun _ _ _=>rfl,fun b _ h=>by
  rcases h with h|⟨l,o,e,_⟩
  ·exact h
  ·simp[zax]at e⟩
 have hS:(ctx inv M [] (fun _=>0) w).S=fun _=>none:=by funext l;simp[ctx,zah,zax]
 refine (h w M hM g hg (fun _=>0) w vs hm (zbI (N:=0) hle _ _ (.inr hS) ha)).mono ?_
 rintro e w' ⟨v,r',σ',β',rfl,⟨rfl,rfl⟩,hm',_,hr⟩
 have hf:=zc7 hm' hM (A':=M) (fun _ h=>h) 4
 exact ⟨v,_,rfl,rfl,hm'.below,zel hf _,zdo hm' hM (fun _ h=>h) hf _ v hr⟩
theorem AC.mono {j:Nat} {args:List AV} {R R':AV→AS→Prop} (h:AC P inv w0 M N j args σ R) (hr:∀ r σ',R r σ'→R' r σ'):AC P inv w0 M N j args σ R' :=
 fun g hg β w vs hm ha=>(h g hg β w vs hm ha).mono fun _ _ ⟨v,r,σ',β',e,h1,h2⟩=>⟨v,r,σ',β',e,hr r σ' h1,h2⟩
theorem zb1 (N':Nat) {j:Nat} {args:List AV} {r0:AV} {τ:AS} (h:AC P inv w0 M N' j args σ fun r σ'=>r=r0∧σ'=τ) (hN:N≤N') (hφ:zaC φ≤N') {K:AV→AS→Prop} (hk:K r0 τ):CallK P inv w0 M N φ σ j args K :=
 ⟨N',hN,hφ,h.mono fun _ _ ⟨e1,e2⟩=>e1▸e2▸hk⟩
theorem za1 {j:Nat} {F:AFn} (hF:Has P inv j F) {args:List AV} {r0:AV} {σ0 τ:AS} (hb:r0.bare=true) (hl:args.length≤F.ntmps)
  (h:∀ Q:Exit→AF→AS→Prop,(∀ φ σ r,zdP φ σ F.res=some r→(∃ sw,(r=r0∧swOk N sw)∧ze7 τ (swS sw σ))→Q .ret φ σ)→(∀ φ σ,Q .ret φ σ→Q .normal φ σ)→AWp P inv w0 M N F.ntmps F.body Q (zk5 0 args) σ0) :
  AC P inv w0 M N j args σ0 fun r σ'=>r=r0∧σ'=τ:=by
 intro g hg β w vs hm ha
 refine (AC.body hF hl (R:=fun r σ=>∃ sw,(r=r0∧swOk N sw)∧ze7 τ (swS sw σ)) (h _ (fun φ σ r h1 h2=>⟨r,h1,h2⟩) fun _ _ h=>h) g hg β w vs hm ha).mono ?_
 rintro e w' ⟨v,r,σ',β',rfl,⟨sw,⟨rfl,hok⟩,hs⟩,hm',hx,hr⟩
 have key:∀ (sw:List (Nat×Nat)) {σ:AS} {β:Nat→Nat},swOk N sw→Mem inv w0 M σ β w'→rel (ctx inv M σ β w') r v→∃ β',Mem inv w0 M (swS sw σ) β' w'∧Ext N (ctx inv M σ β w') (ctx inv M (swS sw σ) β' w')∧rel (ctx inv M (swS sw σ) β' w') r v:=by
  intro sw
  induction sw with
  |nil=>intro σ β _ hm hr;exact ⟨β,hm,.refl _ _,hr⟩
  |cons p sw ih =>
   obtain ⟨x,y⟩:=p
   intro σ β hok hm hr
   obtain ⟨h1,h2,h3⟩:=hm.rename (zoI x y)
   have hx:=h2 N fun l hl=>by have:=hok.1;unfold swN;rw[if_neg (by omega),if_neg (by omega)]
   obtain ⟨β',k1,k2,k3⟩:=ih hok.2 h1 ((h2 0 fun l hl=>absurd hl (Nat.not_lt_zero _)).rel (zaI r (by rw[zgk r hb];exact Nat.le_refl _)) hr)
   exact ⟨β',k1,hx.trans k2,k3⟩
 obtain ⟨β'',k1,k2,k3⟩:=key sw hok hm' hr
 have hd:=fun N=>k1.drop (zek hs) N
 exact ⟨v,r,τ,β'',rfl,⟨rfl,rfl⟩,(hd 0).1,hx.trans (k2.trans (hd N).2),(hd 0).2.rel (zaI r (by rw[zgk r hb];exact Nat.le_refl _)) k3⟩
theorem PC.pure1 (hM:∀ b,M b→b<w0.heap.size) {j:Nat} {args:List AV} {r:AV} (h:PC P inv j args (·=r)) {K:AV→Prop} (hk:K r):zqS P inv w0 M σ j args K :=
 ⟨r,fun _ _ _ _=>h.callK hM fun _ e=>⟨e,rfl⟩,hk⟩
end
end Go.Eng
