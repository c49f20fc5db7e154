/-
  A part of the engine that walks the functions' codes, and of the functions' contracts. Conditions: those that each theorem names.
-/
import Derived.Test.YtnjpcpdmnadadaaGreatL6
import Derived.IntWalk
import Derived.Laws.IdiomCopy
set_option linter.unusedSimpArgs false
set_option linter.unusedVariables false
set_option linter.unusedSectionVars false
namespace Go.Lev
open Go.Eng
theorem zdY {p:Pln} {w:Wk} {s i:Int} {R:Int→Join→Bool} (h:(zaJ p w s i R).lost=false):w.lost=false∧w.outs.length+1=(zaJ p w s i R).outs.length:=by
 unfold zaJ at h ⊢
 split
 ·rename_i h1;rw[if_pos h1,h1]at h;cases h
 ·rename_i h1
  rw[if_neg h1]at h
  split
  ·rename_i h2;rw[h2]at h;cases h
  ·rename_i s' h2
   rw[h2]at h
   dsimp only at h
   split
   ·rename_i h3;rw[h3]at h;cases h
   ·refine ⟨by simpa using h1,by simp⟩
theorem zoL {p:Pln} {w:Wk} {s i:Int} (h:(zfc p w s i).lost=false):w.lost=false∧w.outs.length=(zfc p w s i).outs.length:=by
 unfold zfc at h ⊢
 split
 ·rename_i h2;rw[h2]at h;cases h
 ·rename_i s' h2
  rw[h2]at h
  dsimp only at h
  split
  ·rename_i h3;exact ⟨h3.1,rfl⟩
  ·rename_i h3;rw[if_neg h3]at h;exact ⟨h,rfl⟩
theorem zoJ {p:Pln} {r:Rte} {y:Sgn} {all:List Int} {i:Nat} {s:Int} {w:Wk} (hl:r.path.length≤all.length) (h:(zg3 p r y all i s w).lost=false):w.lost=false∧w.outs.length≤(zg3 p r y all i s w).outs.length∧(i<r.path.length→w.outs.length+1≤(zg3 p r y all i s w).outs.length):=by
 unfold zg3 at h ⊢
 split
 ·rename_i h1;rw[if_pos h1]at h;have:=zdY h;exact ⟨this.1,by omega,fun _=>by omega⟩
 ·rename_i h1
  rw[if_neg h1]at h
  split
  ·rename_i h2;rw[if_pos h2]at h;have:=zdY h;exact ⟨this.1,by omega,fun _=>by omega⟩
  ·rename_i h2
   rw[if_neg h2]at h
   split
   ·rename_i h3;rw[if_pos h3]at h;have:=zoL h;exact ⟨this.1,by omega,fun _=>by omega⟩
   ·rename_i h3;rw[if_neg h3]at h;have:=zdY h;exact ⟨this.1,by omega,fun _=>by omega⟩
theorem zim {p:Pln} {r:Rte} {y:Sgn} {all:List Int} (hl:r.path.length≤all.length):∀ (l:List Int) (i:Nat) (w:Wk),i+l.length=all.length→(zcL p r y all i w l).lost=false→w.lost=false∧w.outs.length+(r.path.length-i)≤(zcL p r y all i w l).outs.length
 |[],i,w,hi,h=>by
  rw[zcL]at h ⊢
  simp only[List.length_nil]at hi
  exact ⟨h,by omega⟩
 |s::l,i,w,hi,h=>by
  rw[zcL]at h ⊢
  simp only[List.length_cons]at hi
  have h1:=zim hl l (i+1) _ (by omega) h
  have h2:=zoJ hl h1.1
  refine ⟨h2.1, ?_⟩
  have h3:=h2.2.2
  have h4:=h2.2.1
  omega
theorem znn {p:Pln} {r:Rte} (h:(zaq p r).2.2=0):r.path.length≤(zaq p r).2.1.length:=by
 unfold zaq at h ⊢
 split
 ·rename_i h1;rw[if_pos h1]at h;cases h
 ·rename_i h1
  have h2:(ziV p r).lost=false:=by simpa using h1
  have:=(zim (by simp) _ _ _ (by simp) h2).2
  dsimp only at this ⊢
  unfold ziV
  simp only[List.length_nil]at this
  omega
theorem zoy (p:Pln) (r:Rte):(zaq p r).2.2=0∨(zaq p r).2.2=90:=by unfold zaq;split<;>simp
theorem zei {p:Pln} {r:Rte} (h:(zaq p r).2.2=0):(zaq p r).1.path=r.path∧(zaq p r).1.over=r.over∧(zaq p r).1.near=(sig p r.entry).sec:=by
 unfold zaq at h ⊢
 split
 ·rename_i h1;rw[if_pos h1]at h;cases h
 ·exact ⟨rfl,rfl,rfl⟩
def zon (p:Pln) (a:AskR):Prop:=((∃ s∈p.sections,s.pt=a.pnt)∨(∃ x∈p.points,x.id=a.pnt))∧0<a.pnt∧(a.lie=1∨a.lie=2)
theorem zmh {p:Pln} {pt lie pos:Int} {l:List AskR} (hl:∀ a∈l,zon p a) (h:0<pt∧0<lie→((∃ s∈p.sections,s.pt=pt)∨(∃ x∈p.points,x.id=pt))∧(lie=1∨lie=2)):∀ a∈zoh pt lie pos l,zon p a:=by
 unfold zoh
 split
 ·rename_i hc
  intro a ha
  rcases List.mem_append.1 ha with ha|ha
  ·exact hl a ha
  ·simp only[List.mem_singleton]at ha
   subst ha
   exact ⟨(h hc).1,hc.1,(h hc).2⟩
 ·exact hl
end Go.Lev
namespace Go.Lev
open Go.Eng
set_option maxRecDepth 10000
set_option maxHeartbeats 4000000
variable {P:Program} {inv:Nat→Option Nat} {w0:World} {M:Nat→Prop}
def zkq:List Bool→List AskR→Bool
 |_,[]=>true
 |m,a::r=>!nth m a.pnt.toNat&&zkq (m.set a.pnt.toNat true) r
def once (l:List AskR):Bool:=zkq (List.replicate 100 false) l
theorem once_pc (hH:HasAll P inv) (l:List AskR) (hl:l.length≤1000000) (h:∀ a∈l,0≤a.pnt∧a.pnt≤99):PC P inv 83 [.sl 3 (l.map AskR.c)] (·=.b (once l)):=by
 refine PC.fn hH cd83 fun w0 M Q hM hE hQ hR=>?_;dsimp only[cd83,qm,ql,qf,qi,qb,qc,qp,qv,qN,qT,qF,qt]at hQ ⊢
 (repeat' first|refine zaa [0,2,3,5,6,7,8,9,15] fun K hK=>?_|(refine hK.go ?_;clear hK K)|with_reducible exact wT|refine wA ?_|(refine wB (fun h=>?_) (fun h=>?_)<;>first|exact wN h|subst (h:(_:Bool)=_)|skip)|(refine wQ ?_;clear hQ hR hE hM)|fail)
 refine zaz (ι:=Nat×(List Bool)) [2,3,6,7,8] (fun z=>[(8,.n z.1)]) (fun z=>[(0,.cells (z.2.map AV.b) true)]) (fun z=>z.1) (l.length) (fun z=>(z.2.length=100)∧(zkq z.2 (l.drop z.1)=once l)) (0,List.replicate 100 false) ?_;rintro ⟨k,m⟩ ⟨hk,hp,hg⟩;(try dsimp only at hk hp hg ⊢);rcases Nat.lt_or_ge k l.length with hlt|hge
 ·rw[zag hlt]at hg
  rw[zkq]at hg
  have hb:=h _ (zae hlt)
  (have hX:=@hp;(repeat' first|refine zaa [0,2,3,5,6,7,8,9,15] fun K hK=>?_|(refine hK.go ?_;clear hK K)|with_reducible exact wT|refine wA ?_|(refine wB (fun h=>?_) (fun h=>?_)<;>first|exact wN h|subst (h:(_:Bool)=_)|skip)|(refine wQ ?_;clear hQ hR hE hM)|fail);all_goals clear hX)
  ·rw[←hg];simp[*]
  ·exact nY (k+1,m.set (nth l k).pnt.toNat true) ⟨by (try dsimp only);omega,by (try dsimp only);simp[hp],by (try dsimp only);rw[←hg];simp[*]⟩
 ·rw[List.drop_eq_nil_of_le hge,zkq]at hg
  (have hX:=@hp;(repeat' first|refine zaa [0,2,3,5,6,7,8,9,15] fun K hK=>?_|(refine hK.go ?_;clear hK K)|with_reducible exact wT|refine wA ?_|(refine wB (fun h=>?_) (fun h=>?_)<;>first|exact wN h|subst (h:(_:Bool)=_)|skip)|(refine wQ ?_;clear hQ hR hE hM)|fail);all_goals clear hX)
  rw[←hg]
def zlk (r:Rte) (i:Int) (j:Join) (x:Sgn):Bool:=decide (x.sec=j.to)&&(decide (x.ed=j.ed)&&(decide (i<(r.path.length:Int)-1)||!decide (x.id=r.exit)))
def ziJ (p:Pln) (r:Rte):Int→List Join→Bool
 |_,[]=>true
 |i,j::l=>!p.signals.any (zlk r i j)&&ziJ p r (i+1) l
def zjH (p:Pln) (r:Rte) (outs:List Join):Bool:=ziJ p r 0 (outs.take r.path.length)
theorem clear_pc (hH:HasAll P inv) (p:Pln) (hp:Sm p) (r:Rte) (outs:List Join) (h1:r.path.length≤outs.length) (h2:outs.length≤1000000):PC P inv 84 [.agg p.c,.agg r.c,.sl 2 (outs.map Join.c)] (·=.b (zjH p r outs)):=by
 have hls:=hp.sgn
 obtain ⟨l,hl⟩:∃ l,l=outs.take r.path.length:=⟨_,rfl⟩
 have hll:l.length=r.path.length:=by rw[hl];simp;omega
 have hlm:(outs.map Join.c).take r.path.length=l.map Join.c:=by rw[hl,List.map_take]
 unfold zjH
 rw[←hl]
 clear hl
 have hlm':(outs.map Join.c).take (r.path.length:Int).toNat=l.map Join.c:=hlm
 refine PC.fn hH cd84 fun w0 M Q hM hE hQ hR=>?_;dsimp only[cd84,qm,ql,qf,qi,qb,qc,qp,qv,qN,qT,qF,qt]at hQ ⊢
 (have hX:=zA @Int.toNat_natCast (zA @hlm @hlm');(repeat' first|refine zaa [0,1,2,3,4,6,7,8,10,15,16,17,18,23,24,25,26,55] fun K hK=>?_|(refine hK.go ?_;clear hK K)|with_reducible exact wT|refine wA ?_|(refine wB (fun h=>?_) (fun h=>?_)<;>first|exact wN h|subst (h:(_:Bool)=_)|skip)|(refine wQ ?_;clear hQ hR hE hM)|fail);all_goals clear hX)
 refine zaz (ι:=Nat) [3,4,6,15,16,17] (fun z=>[(17,.n z)]) (fun _=>[]) (fun z=>z) (l.length) (fun z=>(ziJ p r z (l.drop z)=ziJ p r 0 l)) (0) ?_;rintro k ⟨hk,hg⟩;(try dsimp only at hk hg ⊢);rcases Nat.lt_or_ge k l.length with hlt|hge
 ·rw[zag hlt]at hg
  rw[ziJ]at hg
  generalize hj:nth l k=j at hg
  (have hX:=@hj;(repeat' first|refine zaa [0,1,2,3,4,6,7,8,10,15,16,17,18,23,24,25,26,55] fun K hK=>?_|(refine hK.go ?_;clear hK K)|with_reducible exact wT|refine wA ?_|(refine wB (fun h=>?_) (fun h=>?_)<;>first|exact wN h|subst (h:(_:Bool)=_)|skip)|(refine wQ ?_;clear hQ hR hE hM)|fail);all_goals clear hX)
  refine zaz (ι:=Nat) [3,4,6,7,8,15,16,17,23,24,25] (fun z=>[(25,.n z)]) (fun _=>[]) (fun z=>z) (p.signals.length) (fun z=>(((p.signals.drop z).any (zlk r k j))=p.signals.any (zlk r k j))) (0) ?_;rintro m ⟨hk,hg2⟩;(try dsimp only at hk hg2 ⊢);rcases Nat.lt_or_ge m p.signals.length with hlt|hge
  ·rw[zag (by assumption),List.any_cons]at hg2
   (repeat' first|refine zaa [0,1,2,3,4,6,7,8,10,15,16,17,18,23,24,25,26,55] fun K hK=>?_|(refine hK.go ?_;clear hK K)|with_reducible exact wT|refine wA ?_|(refine wB (fun h=>?_) (fun h=>?_)<;>first|exact wN h|subst (h:(_:Bool)=_)|skip)|(refine wQ ?_;clear hQ hR hE hM)|fail)
   all_goals first
    |(rw[show zlk r k j (nth p.signals m)=true by simp[zlk, *],Bool.true_or]at hg2;rw[←hg,←hg2];rfl)
    |(rw[show zlk r k j (nth p.signals m)=false by simp[zlk, *],Bool.false_or]at hg2;exact ⟨m+1,by omega,⟨by omega,hg2⟩,by omega⟩)
  ·rw[List.drop_eq_nil_of_le (by assumption),List.any_nil]at hg2
   (repeat' first|refine zaa [0,1,2,3,4,6,7,8,10,15,16,17,18,23,24,25,26,55] fun K hK=>?_|(refine hK.go ?_;clear hK K)|with_reducible exact wT|refine wA ?_|(refine wB (fun h=>?_) (fun h=>?_)<;>first|exact wN h|subst (h:(_:Bool)=_)|skip)|(refine wQ ?_;clear hQ hR hE hM)|fail)
   rw[←hg2,Bool.not_false,Bool.true_and]at hg
   exact ⟨k+1,by omega,⟨by omega,by rw[←hg];rfl⟩,by omega⟩
 ·rw[List.drop_eq_nil_of_le hge,ziJ]at hg
  (repeat' first|refine zaa [0,1,2,3,4,6,7,8,10,15,16,17,18,23,24,25,26,55] fun K hK=>?_|(refine hK.go ?_;clear hK K)|with_reducible exact wT|refine wA ?_|(refine wB (fun h=>?_) (fun h=>?_)<;>first|exact wN h|subst (h:(_:Bool)=_)|skip)|(refine wQ ?_;clear hQ hR hE hM)|fail)
  rw[←hg]
def allOk (p:Pln):Bool:=p.routes.all fun r=>decide ((zaq p r).2.2=0)
theorem zk0 (p:Pln):∀ (l:List Rte) (ws:List WayR) (os:List (List Join)),allG p l ws os=if (l.all fun r=>decide ((zaq p r).2.2=0))=true then (ws++l.map fun r=>(zaq p r).1,os++l.map fun r=>(zaq p r).2.1,0) else ([],[],90)
 |[],ws,os=>by simp[allG]
 |r::l,ws,os=>by
  rw[allG,zk0 p l]
  rcases zoy p r with h|h
  ·rw[if_pos h];simp[h]
  ·rw[if_neg (by omega),h];simp[h]
theorem zkZ (p:Pln):allW p=if zbA p=true then (if allOk p=true then (p.routes.map fun r=>(zaq p r).1,p.routes.map fun r=>(zaq p r).2.1,0) else ([],[],90)) else ([],[],8):=by
 unfold allW allOk
 rw[zk0]
 simp
def zc8 (p:Pln) (r:Rte):Bool:=once (zaq p r).1.asks&&zjH p r (zaq p r).2.1
def zbE (p:Pln):Bool:=zbA p&&(allOk p&&p.routes.all (zc8 p))
def zd0 (p:Pln):Int:=if zbE p=true then 0 else 100
end Go.Lev
namespace Go.Lev
open Go.Eng
theorem zj8 {s:Section} {f t:Int} (h:(zbl s f t).2=0):0≤(zbl s f t).1∧(zbl s f t).1≤2:=by
 unfold zbl at h ⊢
 split
 ·rename_i h1
  rw[if_pos h1]at h
  split
  ·rename_i h2;rw[if_pos h2]at h;simp at h
  ·rename_i h2
   dsimp only
   refine ⟨by omega, ?_⟩
   unfold rLie
   repeat' split
   all_goals omega
 ·rename_i h1;rw[if_neg h1]at h;simp at h
theorem joinEd {l:List Section} (h:zep l=true) {s:Section} (hs:s∈l) {j:Join} (hj:j∈s.ends):0≤j.ed∧j.ed≤2:=by
 have h1:=(zkf l).1 h
 obtain ⟨i,hi,rfl⟩:=List.mem_iff_getElem.1 hj
 rw[←zay hi]
 rcases h1.join s hs i hi with h2|⟨_,h3,s',hs',_,h4,_⟩
 ·omega
 ·have:=(zbd h s' hs').2.2.2.2
  omega
theorem zgx {s:Section} {f:Int} {R:Int→Join→Bool}:∀ {l:List Join} {e:Nat} {v:Nat×Join×Int},zbJ s f R e l=some v→v.2.1∈l∧0≤v.2.2∧v.2.2≤2
 |[],e,v,h=>by simp[zbJ]at h
 |j::r,e,v,h=>by
  rw[zbJ]at h
  split at h
  ·rename_i h1
   simp only[Option.some.injEq]at h
   subst h
   exact ⟨by simp,zj8 h1.1⟩
  ·have:=zgx h
   exact ⟨by simp[this.1],this.2⟩
theorem zj5 {p:Pln} {w:Wk} {id:Int} {s:Section} (h:zj6 p w id=some s):s∈p.sections:=by
 unfold zj6 at h
 split at h
 ·exact List.mem_of_find?_eq_some h
 ·cases h
def WkOK (p:Pln) (w:Wk):Prop:=(0≤w.inn.ed∧w.inn.ed≤2)∧∀ a∈w.asks,zon p a
theorem zlb {p:Pln} (h:OkP p) {w:Wk} {s i:Int} {R:Int→Join→Bool} (hw:WkOK p w):WkOK p (zaJ p w s i R):=by
 unfold zaJ
 split
 ·exact hw
 ·split
  ·exact hw
  ·rename_i t ht
   have hs:=zj5 ht
   split
   ·exact hw
   ·rename_i e j lie hp
    have:=zgx hp
    dsimp only at this
    exact ⟨joinEd h.sec hs this.1,zmh hw.2 fun hc=>⟨.inl ⟨t,hs,rfl⟩,by omega⟩⟩
theorem stayW_ok {p:Pln} {w:Wk} {s i:Int} (hw:WkOK p w):WkOK p (zfc p w s i):=by
 unfold zfc
 split
 ·exact hw
 ·rename_i t ht
  have hs:=zj5 ht
  split
  ·exact ⟨hw.1,zmh hw.2 fun hc=>⟨.inl ⟨t,hs,rfl⟩,by have:=hw.1;omega⟩⟩
  ·exact hw
theorem zjY {p:Pln} (h:OkP p) {r:Rte} {y:Sgn} {all:List Int}:∀ (l:List Int) (i:Nat) (w:Wk),WkOK p w→WkOK p (zcL p r y all i w l)
 |[],_,_,hw=>hw
 |s::l,i,w,hw=>by
  rw[zcL]
  refine zjY h l _ _ ?_
  unfold zg3
  repeat' split
  all_goals first|exact zlb h hw|exact stayW_ok hw
theorem zpY {p:Pln} (h:OkP p) {x:Sgn} (he:∀ s∈p.sections,s.id=x.sec→0≤x.ed∧x.ed<s.ends.length):∀ (l:List Section) (j:Join),(∀ s∈l,s∈p.sections)→(0≤j.ed∧j.ed≤2)→0≤(zm2 x j l).ed∧(zm2 x j l).ed≤2
 |[],_,_,hj=>hj
 |s::l,j,hl,hj=>by
  rw[zm2]
  refine zpY h he l _ (fun t ht=>hl t (by simp[ht])) ?_
  split
  ·rename_i hid
   have:=he s (hl s (by simp)) hid
   exact joinEd h.sec (hl s (by simp)) (zae (by omega))
  ·exact hj
theorem zm6 {p:Pln}:∀ (f:List Flk) (l:List AskR),(∀ a∈l,zon p a)→(∀ x∈f,(∃ y∈p.points,y.id=x.pnt)∧(x.lie=1∨x.lie=2))→∀ a∈zih l f,zon p a
 |[],l,hl,_=>hl
 |x::f,l,hl,hf=>by
  rw[zih]
  refine zm6 f _ (zmh hl fun _=>?_) fun y hy=>hf y (by simp[hy])
  have:=hf x (by simp)
  exact ⟨.inr this.1,this.2⟩
theorem zno {p:Pln} (h:OkP p) {r:Rte} (hr:r∈p.routes):∀ a∈(zaq p r).1.asks,zon p a:=by
 unfold zaq
 split
 ·simp
 ·have h0:WkOK p (ziV p r):=by
   unfold ziV
   exact zjY h _ _ _ ⟨zpY h (ziI h r) _ _ (fun _ hs=>hs) (by simp),by simp⟩
  have h1:=h.rte r hr
  simp only[zgD,Bool.and_eq_true]at h1
  exact zm6 _ _ h0.2 (zm7 _ _ _ h1.2.2.2.2)
theorem zf9:∀ (l:List Section) (a:List Int) (m:Int),(zoq a m l).2=m+((l.filter fun s=>decide (0<s.pt)).length:Int)
 |[],a,m=>by simp[zoq]
 |s::r,a,m=>by
  rw[zoq]
  split
  ·rename_i h1;rw[zf9 r,List.filter_cons_of_pos (by simpa using h1),List.length_cons];omega
  ·rename_i h1;rw[zf9 r,List.filter_cons_of_neg (by simpa using h1)]
theorem zls:∀ (l:List Section) (a:List Int) (m:Int) (i:Nat),(∀ s∈l,s.pt≤99)→a.length=100→nth (zoq a m l).1 i=nth a i∨∃ s∈l,0<s.pt∧s.pt.toNat=i∧s.id=nth (zoq a m l).1 i
 |[],a,m,i,_,_=>.inl rfl
 |s::r,a,m,i,hl,ha=>by
  rw[zoq]
  have hs:=hl s (by simp)
  split
  ·rename_i h1
   rcases zls r (a.set s.pt.toNat s.id) (m+1) i (fun t ht=>hl t (by simp[ht])) (by simpa using ha) with h2|⟨t,ht,h3⟩
   ·rw[h2,zbg _ _ _ _ (by omega)]
    by_cases h4:i=s.pt.toNat
    ·rw[if_pos h4];exact .inr ⟨s,by simp,h1,h4.symm,rfl⟩
    ·rw[if_neg h4];exact .inl rfl
   ·exact .inr ⟨t,by simp[ht],h3⟩
  ·rcases zls r a m i (fun t ht=>hl t (by simp[ht])) ha with h2|⟨t,ht,h3⟩
   ·exact .inl h2
   ·exact .inr ⟨t,by simp[ht],h3⟩
theorem zjm {l1:List Int}:∀ {l2:List Int},l1.Nodup→(∀ x∈l1,x∈l2)→l1.length≤l2.length:=by
 induction l1 with
 |nil=>intro l2 _ _;simp
 |cons x l ih =>
  intro l2 hn hs
  simp only[List.nodup_cons]at hn
  have hx:=hs x (by simp)
  have:=ih (l2:=l2.erase x) hn.2 fun y hy=>(List.mem_erase_of_ne (by intro e;subst e;exact hn.1 hy)).2 (hs y (by simp[hy]))
  rw[List.length_erase_of_mem hx]at this
  have:=List.length_pos_of_mem hx
  simp only[List.length_cons]
  omega
theorem pigeon {l1 l2:List Int} (h1:l1.Nodup) (hs:∀ x∈l1,x∈l2) (hl:l2.length≤l1.length):∀ y∈l2,y∈l1:=by
 intro y hy
 rcases Classical.em (y∈l1) with h|h
 ·exact h
 ·exfalso
  have:=zjm (l1:=y::l1) (l2:=l2) (by simp[h,h1]) (by simp;exact ⟨hy,hs⟩)
  simp only[List.length_cons]at this
  omega
theorem zja {l:List Int} {m:Int} (h:rise l m=true):l.Nodup:=zjr ((zfo l m).1 h).2.1
theorem pts_sec {p:Pln} (h:OkP p) {x:Pnt} (hx:x∈p.points):∃ s∈p.sections,0<s.pt∧s.pt=x.id∧s.id=x.sec:=by
 have hp:=h.pts
 simp only[points,Bool.and_eq_true,decide_eq_true_eq,Bool.not_eq_true']at hp
 have hr:=((zfo _ _).1 hp.1).1 x.id (List.mem_map_of_mem hx)
 have hb:=(List.any_eq_false.1 hp.2.2) x hx
 simp only[zlt,Bool.or_eq_true,decide_eq_true_eq,Bool.not_eq_true',decide_eq_false_iff_not,not_or]at hb
 have h1:=zbd h.sec
 rcases zls p.sections (List.replicate 100 0) 0 x.id.toNat (fun s hs=>by have:=h1 s hs;omega) (by simp) with h2|⟨s,hs,h3,h4,h5⟩
 ·exfalso
  have h6:nth (pts p.sections).1 x.id.toNat=0:=by unfold pts;rw[h2,zhD _ _ _ (by omega)]
  have h7:nth (pts p.sections).1 x.id.toNat=x.sec:=by
   rcases Classical.em (nth (pts p.sections).1 x.id.toNat=x.sec) with h8|h8
   ·exact h8
   ·exact absurd h8 hb.2
  omega
 ·have h7:nth (pts p.sections).1 x.id.toNat=x.sec:=by
   rcases Classical.em (nth (pts p.sections).1 x.id.toNat=x.sec) with h8|h8
   ·exact h8
   ·exact absurd h8 hb.2
  exact ⟨s,hs,h3,by have:=h1 s hs;omega,by rw[h5];exact h7⟩
theorem sec_pts {p:Pln} (h:OkP p) {s:Section} (hs:s∈p.sections) (h0:0<s.pt):∃ x∈p.points,x.id=s.pt:=by
 have hp:=h.pts
 simp only[points,Bool.and_eq_true,decide_eq_true_eq,Bool.not_eq_true']at hp
 have hc:(pts p.sections).2=((p.sections.filter fun s=>decide (0<s.pt)).length:Int):=by unfold pts;rw[zf9];omega
 have:=pigeon (l1:=p.points.map Pnt.id) (l2:=(p.sections.filter fun s=>decide (0<s.pt)).map Section.pt) (zja hp.1) (fun i hi=>by
  obtain ⟨x,hx,rfl⟩:=List.mem_map.1 hi
  obtain ⟨t,ht,h3,h4,h5⟩:=pts_sec h hx
  exact List.mem_map.2 ⟨t,List.mem_filter.2 ⟨ht,by simpa using h3⟩,h4⟩) (by simp only[List.length_map];have:=hp.2.1;omega) s.pt (List.mem_map.2 ⟨s,List.mem_filter.2 ⟨hs,by simpa using h0⟩,rfl⟩)
 obtain ⟨x,hx,e⟩:=List.mem_map.1 this
 exact ⟨x,hx,e⟩
theorem zcC {p:Pln} (h:OkP p) {r:Rte} (hr:r∈p.routes) {a:AskR} (ha:a∈(zaq p r).1.asks):(∃ x∈p.points,x.id=a.pnt)∧(1≤a.pnt∧a.pnt≤99)∧(a.lie=1∨a.lie=2):=by
 have h1:=zno h hr a ha
 have h2:∃ x∈p.points,x.id=a.pnt:=by
  rcases h1.1 with ⟨s,hs,e⟩|h3
  ·rw[←e];exact sec_pts h hs (by rw[e];exact h1.2.1)
  ·exact h3
 refine ⟨h2, ?_,h1.2.2⟩
 obtain ⟨x,hx,e⟩:=h2
 have hp:=h.pts
 simp only[points,Bool.and_eq_true]at hp
 have:=((zfo _ _).1 hp.1).1 x.id (List.mem_map_of_mem hx)
 omega
theorem zgM {p:Pln} (h:OkP p) {r:Rte} (hr:r∈p.routes):(∀ n∈r.path++r.over,∃ s∈p.sections,s.id=n)∧(r.path++r.over).Nodup:=by
 have h1:=h.rte r hr
 simp only[zgD,zi8,Bool.and_eq_true]at h1
 have h2:=(zmV _ _ _ (by simp)).1 h1.2.2.2.1
 exact ⟨fun n hn=>(zoD h.sec n).1 (h2.1 n hn).1,h2.2⟩
theorem zfl {p:Pln} (h:OkP p) {s:Section} (hs:s∈p.sections):1≤s.id∧s.id≤99:=by have:=zbd h.sec s hs;omega
end Go.Lev
namespace Go.Lev
open Go.Eng
set_option maxRecDepth 10000
set_option maxHeartbeats 4000000
variable {P:Program} {inv:Nat→Option Nat} {w0:World} {M:Nat→Prop}
theorem nthm {α β:Type} [Inhabited α] [Inhabited β] (f:α→β) {l:List α} {i:Nat} (h:i<l.length):nth (l.map f) i=f (nth l i):=by
 rw[zay (by simpa using h),zay h];simp
theorem zoK (p:Pln) (r:Rte) (y:Sgn) (all:List Int) (i:Nat) (s:Int) (w:Wk):(zg3 p r y all i s w).asks.length≤w.asks.length+1∧(zg3 p r y all i s w).outs.length≤w.outs.length+1:=by
 unfold zg3
 repeat' split
 all_goals first|exact zc5 _ _ _ _ _|exact zjZ _ _ _ _
theorem zin (p:Pln) (r:Rte) (y:Sgn) (all:List Int):∀ (l:List Int) (i:Nat) (w:Wk),(zcL p r y all i w l).asks.length≤w.asks.length+l.length∧(zcL p r y all i w l).outs.length≤w.outs.length+l.length
 |[],_,_=>⟨Nat.le_refl _,Nat.le_refl _⟩
 |s::l,i,w=>by
  rw[zcL]
  have h1:=zin p r y all l (i+1) (zg3 p r y all i s w)
  have h2:=zoK p r y all i s w
  simp only[List.length_cons]
  omega
theorem zkB:∀ (f:List Flk) (l:List AskR),(zih l f).length≤l.length+f.length
 |[],l=>Nat.le_refl _
 |x::f,l=>by
  rw[zih]
  have h1:=zkB f (zoh x.pnt x.lie (-1) l)
  have h2:=zjQ x.pnt x.lie (-1) l
  simp only[List.length_cons]
  omega
theorem zgY {p:Pln} (h:OkP p) {r:Rte} (hr:r∈p.routes):(zaq p r).1.asks.length≤1000∧(zaq p r).2.1.length≤1000∧(zaq p r).1.path.length≤1000∧(zaq p r).1.over.length≤1000:=by
 have hl:=zeY h hr
 unfold zaq
 split
 ·simp
 ·unfold ziV
  have h1:=zin p r (sig p r.exit) (r.path++r.over) (r.path++r.over) 0 ⟨zm2 (sig p r.entry) ⟨0,0⟩ p.sections,[],[],false⟩
  have h2:=zkB r.flanks (zcL p r (sig p r.exit) (r.path++r.over) 0 ⟨zm2 (sig p r.entry) ⟨0,0⟩ p.sections,[],[],false⟩ (r.path++r.over)).asks
  simp only[List.length_append,List.length_nil]at h1 h2
  dsimp only
  omega
theorem zfe (hH:HasAll P inv) (hI:HasIds P inv) (p:Pln) (hp:Sm p):PC P inv 70 [.agg p.c] (·=.n (zd0 p)):=by
 have hlr:=hp.rte
 have c0:=all_pc hH hI p hp
 have hs:=zkZ p
 unfold zd0 zbE
 cases ho:zbA p with
 |false =>
  rw[ho,if_neg (by simp)]at hs
  rw[hs]at c0
  rw[Bool.false_and,if_neg (by simp)]
  refine PC.fn hH cd70 fun w0 M Q hM hE hQ hR=>?_;dsimp only[cd70,qm,ql,qf,qi,qb,qc,qp,qv,qN,qT,qF,qt]at hQ ⊢
  (repeat' first|refine zaa [0,1,2,3,4,5,6,7,15,17,18,19,20,29,38,40] fun K hK=>?_|(refine hK.go ?_;clear hK K)|with_reducible exact wT|refine wA ?_|(refine wB (fun h=>?_) (fun h=>?_)<;>first|exact wN h|subst (h:(_:Bool)=_)|skip)|(refine wQ ?_;clear hQ hR hE hM)|refine wC c0 ?_|fail)
  all_goals first|rfl|(exfalso;contradiction)
 |true =>
  have hok:=zeL ho
  rw[ho,if_pos rfl]at hs
  cases ha:allOk p with
  |false =>
   rw[ha,if_neg (by simp)]at hs
   rw[hs]at c0
   rw[Bool.false_and,Bool.true_and,if_neg (by simp)]
   refine PC.fn hH cd70 fun w0 M Q hM hE hQ hR=>?_;dsimp only[cd70,qm,ql,qf,qi,qb,qc,qp,qv,qN,qT,qF,qt]at hQ ⊢
   (repeat' first|refine zaa [0,1,2,3,4,5,6,7,15,17,18,19,20,29,38,40] fun K hK=>?_|(refine hK.go ?_;clear hK K)|with_reducible exact wT|refine wA ?_|(refine wB (fun h=>?_) (fun h=>?_)<;>first|exact wN h|subst (h:(_:Bool)=_)|skip)|(refine wQ ?_;clear hQ hR hE hM)|refine wC c0 ?_|fail)
   all_goals first|rfl|(exfalso;contradiction)
  |true =>
   rw[ha,if_pos rfl]at hs
   rw[hs]at c0
   rw[Bool.true_and,Bool.true_and]
   dsimp only at c0
   clear hs
   obtain ⟨WS,hWS⟩:∃ WS,WS=p.routes.map fun r=>(zaq p r).1:=⟨_,rfl⟩
   obtain ⟨OS,hOS⟩:∃ OS,OS=p.routes.map fun r=>(zaq p r).2.1:=⟨_,rfl⟩
   rw[←hWS,←hOS]at c0
   have hl1:WS.length=p.routes.length:=by rw[hWS,List.length_map]
   have hl2:OS.length=p.routes.length:=by rw[hOS,List.length_map]
   refine PC.fn hH cd70 fun w0 M Q hM hE hQ hR=>?_;dsimp only[cd70,qm,ql,qf,qi,qb,qc,qp,qv,qN,qT,qF,qt]at hQ ⊢
   (repeat' first|refine zaa [0,1,2,3,4,5,6,7,15,17,18,19,20,29,38,40] fun K hK=>?_|(refine hK.go ?_;clear hK K)|with_reducible exact wT|refine wA ?_|(refine wB (fun h=>?_) (fun h=>?_)<;>first|exact wN h|subst (h:(_:Bool)=_)|skip)|(refine wQ ?_;clear hQ hR hE hM)|refine wC c0 ?_|fail)
   all_goals first|(exfalso;contradiction)|skip
   refine zaz (ι:=Nat) [1,2,3,4,17,18,19] (fun z=>[(19,.n z)]) (fun _=>[]) (fun z=>z) (p.routes.length) (fun z=>(((p.routes.drop z).all (zc8 p))=(p.routes.all (zc8 p)))) (0) ?_;rintro k ⟨hk,hg⟩;(try dsimp only at hk hg ⊢);rcases Nat.lt_or_ge k p.routes.length with hlt|hge
   ·rw[zag hlt]at hg
    rw[List.all_cons]at hg
    have hm:=zae hlt
    have hwl:=zgY hok hm
    have hw:(zaq p (nth p.routes k)).2.2=0:=by
     have:=(List.all_eq_true.1 ha) _ hm
     simpa using this
    have hwo:=znn hw
    have c1:=once_pc hH (zaq p (nth p.routes k)).1.asks (by omega) (fun a h=>by have:=zcC hok hm h;omega)
    have c2:=clear_pc hH p hp (nth p.routes k) (zaq p (nth p.routes k)).2.1 hwo (by omega)
    have e1:nth WS k=(zaq p (nth p.routes k)).1:=by rw[hWS];exact nthm (fun r=>(zaq p r).1) hlt
    have e2:nth OS k=(zaq p (nth p.routes k)).2.1:=by rw[hOS];exact nthm (fun r=>(zaq p r).2.1) hlt
    unfold zc8 at hg
    revert c1 c2 hg
    generalize hA:once (zaq p (nth p.routes k)).1.asks=A
    generalize hB:zjH p (nth p.routes k) (zaq p (nth p.routes k)).2.1=B
    intro hg c1 c2
    (have hX:=zA @e1 (zA @e2 @jls.eq_1);(repeat' first|refine zaa [0,1,2,3,4,5,6,7,15,17,18,19,20,29,38,40] fun K hK=>?_|(refine hK.go ?_;clear hK K)|with_reducible exact wT|refine wA ?_|(refine wB (fun h=>?_) (fun h=>?_)<;>first|exact wN h|subst (h:(_:Bool)=_)|skip)|(refine wQ ?_;clear hQ hR hE hM)|refine wC c1 ?_|refine wC c2 ?_|fail);all_goals clear hX)
    all_goals first
     |(rw[if_neg];intro hh;unfold zc8 at hh;rw[←hg]at hh;simp at hh;done)
     |(exact ⟨k+1,by omega,⟨by omega,by unfold zc8;rw[←hg];simp⟩,by omega⟩)
   ·rw[List.drop_eq_nil_of_le hge,List.all_nil]at hg
    (repeat' first|refine zaa [0,1,2,3,4,5,6,7,15,17,18,19,20,29,38,40] fun K hK=>?_|(refine hK.go ?_;clear hK K)|with_reducible exact wT|refine wA ?_|(refine wB (fun h=>?_) (fun h=>?_)<;>first|exact wN h|subst (h:(_:Bool)=_)|skip)|(refine wQ ?_;clear hQ hR hE hM)|fail)
    rw[←hg,if_pos rfl]
end Go.Lev
namespace Go.Lev
open Go.Eng
def zli:Sh:=.st [.i .i64,.i .u8]
def zi6:Sh:=.st [.i .i64,.i .i64,.i .i64]
def zoT:Sh:=.st [.i .i64,.i .u8,.i .i64,.i .i64]
def zlj:Sh:=.st [.s 2 zli,.s 3 zi6,.s 4 zoT]
def U8 (x:Int):Prop:=0≤x∧x≤255
def Track.ok (t:Track):Prop:=I64 t.id∧U8 t.is
def Switch.ok (t:Switch):Prop:=I64 t.id∧I64 t.lie∧I64 t.call
def Lock.ok (t:Lock):Prop:=I64 t.id∧U8 t.phase∧I64 t.gone∧I64 t.left
def State.ok (s:State):Prop:=(s.tracks.length≤maxLen∧∀ t∈s.tracks,t.ok)∧(s.switches.length≤maxLen∧∀ t∈s.switches,t.ok)∧(s.locks.length≤maxLen∧∀ t∈s.locks,t.ok)
theorem of_track (d:D) (h:Sh.ok zli d):∃ t:Track,Sh.av zli d=t.c∧t.ok:=by
 obtain ⟨l,rfl,h⟩:=zfw h
 obtain ⟨d1,l,rfl,h1,h⟩:=zau h
 obtain ⟨d2,l,rfl,h2,h⟩:=zau h
 obtain rfl:=zda h
 obtain ⟨a,rfl,ha⟩:=zaY h1
 obtain ⟨b,rfl,hb⟩:=of_u8 h2
 exact ⟨⟨a,b⟩,rfl,ha,hb⟩
theorem zpr (d:D) (h:Sh.ok zi6 d):∃ t:Switch,Sh.av zi6 d=t.c∧t.ok:=by
 obtain ⟨l,rfl,h⟩:=zfw h
 obtain ⟨d1,l,rfl,h1,h⟩:=zau h
 obtain ⟨d2,l,rfl,h2,h⟩:=zau h
 obtain ⟨d3,l,rfl,h3,h⟩:=zau h
 obtain rfl:=zda h
 obtain ⟨a,rfl,ha⟩:=zaY h1
 obtain ⟨b,rfl,hb⟩:=zaY h2
 obtain ⟨c,rfl,hc⟩:=zaY h3
 exact ⟨⟨a,b,c⟩,rfl,ha,hb,hc⟩
theorem of_lock (d:D) (h:Sh.ok zoT d):∃ t:Lock,Sh.av zoT d=t.c∧t.ok:=by
 obtain ⟨l,rfl,h⟩:=zfw h
 obtain ⟨d1,l,rfl,h1,h⟩:=zau h
 obtain ⟨d2,l,rfl,h2,h⟩:=zau h
 obtain ⟨d3,l,rfl,h3,h⟩:=zau h
 obtain ⟨d4,l,rfl,h4,h⟩:=zau h
 obtain rfl:=zda h
 obtain ⟨a,rfl,ha⟩:=zaY h1
 obtain ⟨b,rfl,hb⟩:=of_u8 h2
 obtain ⟨c,rfl,hc⟩:=zaY h3
 obtain ⟨e,rfl,he⟩:=zaY h4
 exact ⟨⟨a,b,c,e⟩,rfl,ha,hb,hc,he⟩
theorem arg_state {d:D} (h:Sh.ok zlj d):∃ s:State,Sh.arg zlj d=.agg s.c∧s.ok:=by
 obtain ⟨l,rfl,h⟩:=zfw h
 obtain ⟨d1,l,rfl,h1,h⟩:=zau h
 obtain ⟨d2,l,rfl,h2,h⟩:=zau h
 obtain ⟨d3,l,rfl,h3,h⟩:=zau h
 obtain rfl:=zda h
 obtain ⟨l1,rfl,m1,h1⟩:=of_s h1
 obtain ⟨l2,rfl,m2,h2⟩:=of_s h2
 obtain ⟨l3,rfl,m3,h3⟩:=of_s h3
 obtain ⟨t1,e1,f1,g1⟩:=zeW of_track l1 h1
 obtain ⟨t2,e2,f2,g2⟩:=zeW zpr l2 h2
 obtain ⟨t3,e3,f3,g3⟩:=zeW of_lock l3 h3
 refine ⟨⟨t1,t2,t3⟩, ?_,⟨by simpa [f1] using m1,g1⟩,⟨by simpa [f2] using m2,g2⟩,⟨by simpa [f3] using m3,g3⟩⟩
 simp only[Sh.arg,Sh.av,zcp,zlj,e1,e2,e3,State.c,List.cons_append,List.nil_append]
end Go.Lev
namespace Go.Lev
open Go.Eng
set_option maxRecDepth 10000
set_option maxHeartbeats 4000000
variable {P:Program} {inv:Nat→Option Nat} {w0:World} {M:Nat→Prop}
def ziY (x:Track) (y:Section):Bool:=decide (x.id=y.id)&&decide (x.is≤2)
def zgc (n:Int):Bool:=decide (0≤n)&&decide (n≤2)
def zjX (x:Switch) (y:Pnt):Bool:=decide (x.id=y.id)&&(zgc x.lie&&zgc x.call)
def zd7 (l:Lock) (x:Rte):Bool :=
 if l.phase=0∨l.phase=1 then decide (l.gone=0)&&decide (l.left=0)
 else if l.phase=2 then decide (0≤l.gone)&&(decide (l.gone≤(x.path.length:Int)-1)&&decide (l.left=0))
 else if l.phase=3 then decide (l.gone=(x.path.length:Int)-1)&&(decide (1≤l.left)&&decide (l.left≤x.timer))
 else if l.phase=4 then decide (l.gone=0)&&(decide (1≤l.left)&&decide (l.left≤x.timer))
 else false
def zeZ (x:Lock) (y:Rte):Bool:=decide (x.id=y.id)&&zd7 x y
theorem lie_pc (hH:HasAll P inv) (n:Int):PC P inv 110 [.n n] (·=.b (zgc n)):=by
 refine PC.fn hH cd110 fun w0 M Q hM hE hQ hR=>?_;dsimp only[cd110,qm,ql,qf,qi,qb,qc,qp,qv,qN,qT,qF,qt]at hQ ⊢
 (repeat' first|refine zaa [0,2] fun K hK=>?_|(refine hK.go ?_;clear hK K)|with_reducible exact wT|refine wA ?_|(refine wB (fun h=>?_) (fun h=>?_)<;>first|exact wN h|subst (h:(_:Bool)=_)|skip)|(refine wQ ?_;clear hQ hR hE hM)|fail)
 all_goals (first|rfl|(grind[zgc])|(simp[zgc, *];done)|(simp_all [zgc];done)|(simp_all [zgc]<;>first|omega|((repeat' split)<;>first|rfl|(exfalso;omega))))
theorem zmv (hH:HasAll P inv) (x:Track) (y:Section):PC P inv 112 ([.agg x.c,.agg y.c]++[]) (·=.b (ziY x y)):=by
 refine PC.fn hH cd112 fun w0 M Q hM hE hQ hR=>?_;dsimp only[cd112,qm,ql,qf,qi,qb,qc,qp,qv,qN,qT,qF,qt]at hQ ⊢
 (repeat' first|refine zaa [0,1,2,3,4] fun K hK=>?_|(refine hK.go ?_;clear hK K)|with_reducible exact wT|refine wA ?_|(refine wB (fun h=>?_) (fun h=>?_)<;>first|exact wN h|subst (h:(_:Bool)=_)|skip)|(refine wQ ?_;clear hQ hR hE hM)|fail)
 all_goals (first|rfl|(grind[ziY])|(simp[ziY, *];done)|(simp_all [ziY];done)|(simp_all [ziY]<;>first|omega|((repeat' split)<;>first|rfl|(exfalso;omega))))
theorem zmz (hH:HasAll P inv) (x:Switch) (y:Pnt):PC P inv 114 ([.agg x.c,.agg y.c]++[.ip 1 [[.fn 110 []]] 0 0]) (·=.b (zjX x y)):=by
 have c1:=lie_pc hH x.lie
 have c2:=lie_pc hH x.call
 have he:zjX x y=(decide (x.id=y.id)&&(zgc x.lie&&zgc x.call)):=rfl
 revert c1 c2 he
 generalize zgc x.lie=a
 generalize zgc x.call=b
 intro c1 c2 he
 refine PC.fn hH cd114 fun w0 M Q hM hE hQ hR=>?_;dsimp only[cd114,qm,ql,qf,qi,qb,qc,qp,qv,qN,qT,qF,qt]at hQ ⊢
 (repeat' first|refine zaa [0,1,2,3,4,5] fun K hK=>?_|(refine hK.go ?_;clear hK K)|with_reducible exact wT|refine wA ?_|(refine wB (fun h=>?_) (fun h=>?_)<;>first|exact wN h|subst (h:(_:Bool)=_)|skip)|(refine wQ ?_;clear hQ hR hE hM)|refine wC c1 ?_|refine wC c2 ?_|fail)
 all_goals (rw[he];simp[*])
theorem phase_pc (hH:HasAll P inv) (l:Lock) (x:Rte) (h:x.path.length≤1000000):PC P inv 117 [.agg l.c,.agg x.c] (·=.b (zd7 l x)):=by
 refine PC.fn hH cd117 fun w0 M Q hM hE hQ hR=>?_;dsimp only[cd117,qm,ql,qf,qi,qb,qc,qp,qv,qN,qT,qF,qt]at hQ ⊢
 (repeat' first|refine zaa [0,1,2,3,4,5,6,15,16,25,39,57] fun K hK=>?_|(refine hK.go ?_;clear hK K)|with_reducible exact wT|refine wA ?_|(refine wB (fun h=>?_) (fun h=>?_)<;>first|exact wN h|subst (h:(_:Bool)=_)|skip)|(refine wQ ?_;clear hQ hR hE hM)|fail)
 all_goals (unfold zd7;simp[*])
theorem zmX (hH:HasAll P inv) (x:Lock) (y:Rte) (h:y.path.length≤1000000):PC P inv 116 ([.agg x.c,.agg y.c]++[]) (·=.b (zeZ x y)):=by
 have c1:=phase_pc hH x y h
 unfold zeZ
 revert c1
 generalize zd7 x y=a
 intro c1
 refine PC.fn hH cd116 fun w0 M Q hM hE hQ hR=>?_;dsimp only[cd116,qm,ql,qf,qi,qb,qc,qp,qv,qN,qT,qF,qt]at hQ ⊢
 (repeat' first|refine zaa [0,1,2,3,4] fun K hK=>?_|(refine hK.go ?_;clear hK K)|with_reducible exact wT|refine wA ?_|(refine wB (fun h=>?_) (fun h=>?_)<;>first|exact wN h|subst (h:(_:Bool)=_)|skip)|(refine wQ ?_;clear hQ hR hE hM)|refine wC c1 ?_|fail)
 all_goals simp[*]
theorem eqfTrk (hH:HasAll P inv) {jc:Nat} {caps:List AV} {p:Track→Section→Bool} (a:List Track) (b:List Section) (hc:∀ x∈a,∀ y∈b,PC P inv jc ([.agg x.c,.agg y.c]++caps) (·=.b (p x y))) (hb:zab caps=0) (ha:a.length≤1000000):PC P inv 111 [.sl 2 (a.map Track.c),.sl 3 (b.map Section.c),.fn jc caps] (·=.b (zaA p a b)):=by
 refine PC.fn hH cd111 fun w0 M Q hM hE hQ hR=>?_;dsimp only[cd111,qm,ql,qf,qi,qb,qc,qp,qv,qN,qT,qF,qt]at hQ ⊢
 (have hX:=@hb;(repeat' first|refine zaa [0,1,2,6,7,8,9,14,15,16,17,18,30] fun K hK=>?_|(refine hK.go ?_;clear hK K)|with_reducible exact wT|refine wA ?_|(refine wB (fun h=>?_) (fun h=>?_)<;>first|exact wN h|subst (h:(_:Bool)=_)|skip)|(refine wQ ?_;clear hQ hR hE hM)|fail);all_goals clear hX)
 ·have:zaA p a b=false:=by
   cases hz:zaA p a b with
   |false=>rfl
   |true=>have:=zb5 hz;omega
  rw[this]
 refine zaz (ι:=Nat) [1,2,6,15,16,17] (fun z=>[(17,.n z)]) (fun _=>[]) (fun z=>z) (a.length) (fun z=>(zaA p (a.drop z) (b.drop z)=zaA p a b)) (0) ?_;rintro k ⟨hk,hg⟩;(try dsimp only at hk hg ⊢);rcases Nat.lt_or_ge k a.length with hlt|hge
 ·have hltb:k<b.length:=by omega
  rw[zag hlt,zag hltb,zaA]at hg
  have c1:=hc _ (zae hlt) _ (zae hltb)
  revert c1 hg
  generalize p (nth a k) (nth b k)=t
  intro hg c1
  (have hX:=@hb;(repeat' first|refine zaa [0,1,2,6,7,8,9,14,15,16,17,18,30] fun K hK=>?_|(refine hK.go ?_;clear hK K)|with_reducible exact wT|refine wA ?_|(refine wB (fun h=>?_) (fun h=>?_)<;>first|exact wN h|subst (h:(_:Bool)=_)|skip)|(refine wQ ?_;clear hQ hR hE hM)|refine wC c1 ?_|fail);all_goals clear hX)
  all_goals first
   |(rw[←hg];rfl)
   |(exact ⟨k+1,by omega,⟨by omega,by rw[←hg];rfl⟩,by omega⟩)
 ·rw[List.drop_eq_nil_of_le hge,List.drop_eq_nil_of_le (by omega),zaA]at hg
  (have hX:=@hb;(repeat' first|refine zaa [0,1,2,6,7,8,9,14,15,16,17,18,30] fun K hK=>?_|(refine hK.go ?_;clear hK K)|with_reducible exact wT|refine wA ?_|(refine wB (fun h=>?_) (fun h=>?_)<;>first|exact wN h|subst (h:(_:Bool)=_)|skip)|(refine wQ ?_;clear hQ hR hE hM)|fail);all_goals clear hX)
  rw[←hg]
theorem eqfSwt (hH:HasAll P inv) {jc:Nat} {caps:List AV} {p:Switch→Pnt→Bool} (a:List Switch) (b:List Pnt) (hc:∀ x∈a,∀ y∈b,PC P inv jc ([.agg x.c,.agg y.c]++caps) (·=.b (p x y))) (hb:zab caps=0) (ha:a.length≤1000000):PC P inv 113 [.sl 3 (a.map Switch.c),.sl 2 (b.map Pnt.c),.fn jc caps] (·=.b (zaA p a b)):=by
 refine PC.fn hH cd113 fun w0 M Q hM hE hQ hR=>?_;dsimp only[cd113,qm,ql,qf,qi,qb,qc,qp,qv,qN,qT,qF,qt]at hQ ⊢
 (have hX:=@hb;(repeat' first|refine zaa [0,1,2,6,7,8,9,14,15,16,17,18,30] fun K hK=>?_|(refine hK.go ?_;clear hK K)|with_reducible exact wT|refine wA ?_|(refine wB (fun h=>?_) (fun h=>?_)<;>first|exact wN h|subst (h:(_:Bool)=_)|skip)|(refine wQ ?_;clear hQ hR hE hM)|fail);all_goals clear hX)
 ·have:zaA p a b=false:=by
   cases hz:zaA p a b with
   |false=>rfl
   |true=>have:=zb5 hz;omega
  rw[this]
 refine zaz (ι:=Nat) [1,2,6,15,16,17] (fun z=>[(17,.n z)]) (fun _=>[]) (fun z=>z) (a.length) (fun z=>(zaA p (a.drop z) (b.drop z)=zaA p a b)) (0) ?_;rintro k ⟨hk,hg⟩;(try dsimp only at hk hg ⊢);rcases Nat.lt_or_ge k a.length with hlt|hge
 ·have hltb:k<b.length:=by omega
  rw[zag hlt,zag hltb,zaA]at hg
  have c1:=hc _ (zae hlt) _ (zae hltb)
  revert c1 hg
  generalize p (nth a k) (nth b k)=t
  intro hg c1
  (have hX:=@hb;(repeat' first|refine zaa [0,1,2,6,7,8,9,14,15,16,17,18,30] fun K hK=>?_|(refine hK.go ?_;clear hK K)|with_reducible exact wT|refine wA ?_|(refine wB (fun h=>?_) (fun h=>?_)<;>first|exact wN h|subst (h:(_:Bool)=_)|skip)|(refine wQ ?_;clear hQ hR hE hM)|refine wC c1 ?_|fail);all_goals clear hX)
  all_goals first
   |(rw[←hg];rfl)
   |(exact ⟨k+1,by omega,⟨by omega,by rw[←hg];rfl⟩,by omega⟩)
 ·rw[List.drop_eq_nil_of_le hge,List.drop_eq_nil_of_le (by omega),zaA]at hg
  (have hX:=@hb;(repeat' first|refine zaa [0,1,2,6,7,8,9,14,15,16,17,18,30] fun K hK=>?_|(refine hK.go ?_;clear hK K)|with_reducible exact wT|refine wA ?_|(refine wB (fun h=>?_) (fun h=>?_)<;>first|exact wN h|subst (h:(_:Bool)=_)|skip)|(refine wQ ?_;clear hQ hR hE hM)|fail);all_goals clear hX)
  rw[←hg]
theorem eqfLck (hH:HasAll P inv) {jc:Nat} {caps:List AV} {p:Lock→Rte→Bool} (a:List Lock) (b:List Rte) (hc:∀ x∈a,∀ y∈b,PC P inv jc ([.agg x.c,.agg y.c]++caps) (·=.b (p x y))) (hb:zab caps=0) (ha:a.length≤1000000):PC P inv 115 [.sl 4 (a.map Lock.c),.sl 7 (b.map Rte.c),.fn jc caps] (·=.b (zaA p a b)):=by
 refine PC.fn hH cd115 fun w0 M Q hM hE hQ hR=>?_;dsimp only[cd115,qm,ql,qf,qi,qb,qc,qp,qv,qN,qT,qF,qt]at hQ ⊢
 (have hX:=@hb;(repeat' first|refine zaa [0,1,2,6,7,8,9,14,15,16,17,18,30] fun K hK=>?_|(refine hK.go ?_;clear hK K)|with_reducible exact wT|refine wA ?_|(refine wB (fun h=>?_) (fun h=>?_)<;>first|exact wN h|subst (h:(_:Bool)=_)|skip)|(refine wQ ?_;clear hQ hR hE hM)|fail);all_goals clear hX)
 ·have:zaA p a b=false:=by
   cases hz:zaA p a b with
   |false=>rfl
   |true=>have:=zb5 hz;omega
  rw[this]
 refine zaz (ι:=Nat) [1,2,6,15,16,17] (fun z=>[(17,.n z)]) (fun _=>[]) (fun z=>z) (a.length) (fun z=>(zaA p (a.drop z) (b.drop z)=zaA p a b)) (0) ?_;rintro k ⟨hk,hg⟩;(try dsimp only at hk hg ⊢);rcases Nat.lt_or_ge k a.length with hlt|hge
 ·have hltb:k<b.length:=by omega
  rw[zag hlt,zag hltb,zaA]at hg
  have c1:=hc _ (zae hlt) _ (zae hltb)
  revert c1 hg
  generalize p (nth a k) (nth b k)=t
  intro hg c1
  (have hX:=@hb;(repeat' first|refine zaa [0,1,2,6,7,8,9,14,15,16,17,18,30] fun K hK=>?_|(refine hK.go ?_;clear hK K)|with_reducible exact wT|refine wA ?_|(refine wB (fun h=>?_) (fun h=>?_)<;>first|exact wN h|subst (h:(_:Bool)=_)|skip)|(refine wQ ?_;clear hQ hR hE hM)|refine wC c1 ?_|fail);all_goals clear hX)
  all_goals first
   |(rw[←hg];rfl)
   |(exact ⟨k+1,by omega,⟨by omega,by rw[←hg];rfl⟩,by omega⟩)
 ·rw[List.drop_eq_nil_of_le hge,List.drop_eq_nil_of_le (by omega),zaA]at hg
  (have hX:=@hb;(repeat' first|refine zaa [0,1,2,6,7,8,9,14,15,16,17,18,30] fun K hK=>?_|(refine hK.go ?_;clear hK K)|with_reducible exact wT|refine wA ?_|(refine wB (fun h=>?_) (fun h=>?_)<;>first|exact wN h|subst (h:(_:Bool)=_)|skip)|(refine wQ ?_;clear hQ hR hE hM)|fail);all_goals clear hX)
  rw[←hg]
end Go.Lev
namespace Go.Lev
open Go.Eng
set_option maxRecDepth 10000
set_option maxHeartbeats 4000000
variable {P:Program} {inv:Nat→Option Nat} {w0:World} {M:Nat→Prop}
def gc (H A:List Int) (W:AV):List AV:=H.map AV.n++(A.map AV.n++[W])
section gc
variable {H A:List Int} {W:AV}
theorem zgz (h:H.length=100) (h':A.length=100):(gc H A W).length=201:=by simp[gc,h,h']
theorem zqh (h:H.length=100) {i:Nat} (hi:i<100):(gc H A W)[i]?=some (.n (nth H i)):=by
 unfold gc
 rw[List.getElem?_append_left (by simp[h,hi]),zjp (by omega)]
theorem gc_get2 (h:H.length=100) (h':A.length=100) {i:Nat} (hi:i<100):(gc H A W)[100+i]?=some (.n (nth A i)):=by
 unfold gc
 rw[List.getElem?_append_right (by simp[h]),List.length_map,h,show 100+i-100=i by omega,List.getElem?_append_left (by simp[h',hi]),zjp (by omega)]
theorem gc_get3 (h:H.length=100) (h':A.length=100):(gc H A W)[200]?=some W:=by
 unfold gc
 rw[List.getElem?_append_right (by simp[h]),List.length_map,h,List.getElem?_append_right (by simp[h']),List.length_map,h']
 rfl
theorem gc_set1 (h:H.length=100) {i:Nat} (hi:i<100) (x:Int):(gc H A W).set i (.n x)=gc (H.set i x) A W:=by
 unfold gc
 rw[List.set_append_left _ _ (by simp[h,hi]),List.map_set]
theorem gc_set2 (h:H.length=100) (h':A.length=100) {i:Nat} (hi:i<100) (x:Int):(gc H A W).set (100+i) (.n x)=gc H (A.set i x) W:=by
 unfold gc
 rw[List.set_append_right _ _ (by simp[h]),List.length_map,h,show 100+i-100=i by omega,List.set_append_left _ _ (by simp[h',hi]),List.map_set]
theorem gc_set3 (h:H.length=100) (h':A.length=100) (W':AV):(gc H A W).set 200 W'=gc H A W':=by
 unfold gc
 rw[List.set_append_right _ _ (by simp[h]),List.length_map,h,List.set_append_right _ _ (by simp[h']),List.length_map,h']
 rfl
theorem zm4 (h:W.plain=true):zaD (gc H A W)=true:=by
 unfold gc
 rw[zcP,zcP,zcU,zcU]
 simp[zaD,h]
theorem zqj (h:W.plain=true):zad (gc H A W)=true:=zcu _ (zm4 h)
theorem zfE (h:W.plain=true):zab (gc H A W)=0:=za7 _ (zqj h)
theorem gc_snap (h:W.plain=true) (k:Nat) (σ:AS):zby k σ (gc H A W)=gc H A W:=zgL k σ (zm4 h)
end gc
def wsl (ws:List WayR):AV:=.sl 4 (ws.map Way.c)
theorem zfb (ws:List WayR):(wsl ws).plain=true:=rfl
def zbN (w:WayR) (l:Lock):List Int:=if l.phase=0 then [] else w.path.drop l.gone.toNat++w.over
def zc4 (l:Lock) (a:AskR):Bool:=decide (a.pos<0)||decide (l.gone≤a.pos)
def zbM (n:Int):List Int→List Int→Bool→List Int×Bool
 |[],H,t=>(H,t)
 |s::r,H,t=>if t=true∧nth H s.toNat=0 then zbM n r (H.set s.toNat n) true else (H.set s.toNat n,false)
def zdW (l:Lock) (C:List (Int×Int)):List AskR→List Int→Bool→List Int×Bool
 |[],A,t=>(A,t)
 |a::r,A,t=>if zc4 l a=true then (if t=true∧zeM C a.pnt=a.lie then zdW l C r (A.set a.pnt.toNat a.lie) true else (A.set a.pnt.toNat a.lie,false)) else zdW l C r A t
def stG (p:Pln) (s:State) (ws:List WayR) (C:List (Int×Int)) (l:Lock) (H A:List Int) (t:Bool):List (Nat×AO):=[(0,.cells p.c true),(1,.cells s.c true),(2,.cells (gc H A (wsl ws)) true),(3,.cells [.b t] true),(4,.cells [.fn 110 []] true),(5,.imap C),(6,.cells [.mp 5] true),(7,.cells l.c true)]
theorem held_ac (hH:HasAll P inv) (hM:∀ b,M b→b<w0.heap.size) (p:Pln) (s:State) (ws:List WayR) (C:List (Int×Int)) (l:Lock) (w:WayR) (H A:List Int) (t:Bool) (hg:0≤l.gone∧l.gone≤w.path.length) (h1:w.path.length≤1000) (h2:w.over.length≤1000) (hs:∀ x∈w.path++w.over,0≤x∧x≤99) (hHl:H.length=100) (hAl:A.length=100) :
  AC P inv w0 M 30 118 [.agg w.c,.agg l.c,.fn 119 [.ptr 3 1 0,.ptr 2 201 0,.ptr 7 4 0]] (stG p s ws C l H A t) fun r0 σ'=>r0=.tup []∧σ'=stG p s ws C l (zbM l.id (zbN w l) H t).1 A (if l.phase=0 then t else (zbM l.id (zbN w l) H t).2):=by
 have c3:=zkM hH [w.path.drop l.gone.toNat,w.over] (by simp) (by simp[zju];omega)
 rw[show [w.path.drop l.gone.toNat,w.over].flatten=w.path.drop l.gone.toNat++w.over by simp,show [w.path.drop l.gone.toNat,w.over].map lst=[[.sl 1 ((w.path.map zck).drop l.gone.toNat)],[.sl 1 (w.over.map zck)]] by simp[lst,List.map_drop]]at c3
 have hn1:¬l.gone<0:=by omega
 have hn2:¬((w.path.length:Int)<l.gone):=by omega
 have hgb:=zfE (H:=H) (A:=A) (zfb ws)
 unfold zbN
 by_cases hph:l.phase=0
 ·simp only[hph,if_true,zbM]
  refine za1 (F:=cd118) (hH.has _ _ rfl) rfl (Nat.le_of_ble_eq_true rfl) fun Q hQ hR=>?_;have hE:=hH.callable;dsimp only[cd118,qm,ql,qf,qi,qb,qc,qp,qv,qN,qT,qF,qt]at hQ ⊢
  unfold stG
  (refine no_implicit_lambda% (st ?_);try with_reducible exact wT)
  (have hX:=@hgb;(repeat' first|refine zaa [0,1,2,3,4,7,10,24,25,26,27,33] fun K hK=>?_|(refine hK.go ?_;clear hK K)|with_reducible exact wT|refine wA ?_|(refine wB (fun h=>?_) (fun h=>?_)<;>first|exact wN h|subst (h:(_:Bool)=_)|skip)|(refine wR ?_;clear hQ hR hE hM)|fail);all_goals clear hX)
  all_goals first|(exfalso;contradiction)|skip
  all_goals ((first|refine ⟨[],trivial, ?_⟩|refine ⟨[],⟨rfl,trivial⟩, ?_⟩);simp only[swS,stG];(refine no_implicit_lambda% (st ?_);try with_reducible exact wT);(try simp))
 ·simp only[hph,if_false]
  obtain ⟨L,hL⟩:∃ L,L=w.path.drop l.gone.toNat++w.over:=⟨_,rfl⟩
  have hLs:∀ x∈L,0≤x∧x≤99:=fun x hx=>hs x (by
   rw[hL]at hx
   rcases List.mem_append.1 hx with h|h
   ·exact List.mem_append.2 (.inl (List.mem_of_mem_drop h))
   ·exact List.mem_append.2 (.inr h))
  have hLl:L.length≤2000:=by rw[hL];simp;omega
  rw[←hL]at c3 ⊢
  clear hL
  refine za1 (F:=cd118) (hH.has _ _ rfl) rfl (Nat.le_of_ble_eq_true rfl) fun Q hQ hR=>?_;have hE:=hH.callable;dsimp only[cd118,qm,ql,qf,qi,qb,qc,qp,qv,qN,qT,qF,qt]at hQ ⊢
  skip
  unfold stG
  (refine no_implicit_lambda% (st ?_);try with_reducible exact wT)
  (have hX:=zA @hn1 (zA @hn2 @hgb);(repeat' first|refine zaa [0,1,2,3,4,5,7,10,24,25,26,27,33] fun K hK=>?_|(refine hK.go ?_;clear hK K)|with_reducible exact wT|refine wA ?_|(refine wB (fun h=>?_) (fun h=>?_)<;>first|exact wN h|subst (h:(_:Bool)=_)|skip)|(refine wQ ?_;clear hQ hR)|refine wC c3 ?_|fail);all_goals clear hX)
  all_goals first|(exfalso;contradiction)|skip
  refine zaz (ι:=Nat×(List Int)×Bool) [2,24,25,26] (fun z=>[(26,.n z.1)]) (fun z=>[(2,.cells (gc z.2.1 A (wsl ws)) true),(3,.cells [.b z.2.2] true)]) (fun z=>z.1) (L.length) (fun z=>(z.2.1.length=100)∧(zbM l.id (L.drop z.1) z.2.1 z.2.2=zbM l.id L H t)) (0,H,t) ?_;rintro ⟨k,X,u⟩ ⟨hk,hx,hgo⟩;(try dsimp only at hk hx hgo ⊢);rcases Nat.lt_or_ge k L.length with hlt|hge
  ·rw[zag hlt,zbM]at hgo
   have hb:=hLs _ (zae hlt)
   have hgb2:=zfE (H:=X) (A:=A) (zfb ws)
   have e1:=zqh (H:=X) (A:=A) (W:=wsl ws) hx (i:=(nth L k).toNat) (by omega)
   have e2:=gc_set1 (H:=X) (A:=A) (W:=wsl ws) hx (i:=(nth L k).toNat) (by omega) l.id
   have e3:=zgz (H:=X) (A:=A) (W:=wsl ws) hx hAl
   (have hX:=zA @hgb2 (zA @e1 (zA @e2 @e3));(repeat' first|refine zaa [0,1,2,3,4,5,7,10,24,25,26,27,33] fun K hK=>?_|(refine hK.go ?_;clear hK K)|with_reducible exact wT|refine wA ?_|(refine wB (fun h=>?_) (fun h=>?_)<;>first|exact wN h|subst (h:(_:Bool)=_)|skip)|(refine wQ ?_;clear hQ hR)|(refine AC.callK 40 (by omega) (by first|omega|exact wF|((refine no_implicit_lambda% (st ?_);try with_reducible exact wT);omega)) (zac (F:=cd119) (hH.has _ _ rfl) (Nat.le_of_ble_eq_true rfl) fun Q hQ hR=>?_);dsimp only[cd119,qm,ql,qf,qi,qb,qc,qp,qv,qN,qT,qF,qt]at hQ ⊢;try (refine no_implicit_lambda% (st ?_);try with_reducible exact wT))|fail);all_goals clear hX)
   all_goals first
    |(rw[if_neg (by simp[*])]at hgo;rw[←hgo];refine ⟨[],trivial, ?_⟩;simp only[swS,stG];(refine no_implicit_lambda% (st ?_);try with_reducible exact wT);(try simp[*]);done)
    |(rw[if_pos ⟨by simp[*],by simp[*]⟩]at hgo;exact ⟨(k+1,X.set (nth L k).toNat l.id,true),by dsimp only;omega,⟨by dsimp only;omega,by simp[hx],hgo⟩,by dsimp only;omega,rfl,by simp[*]⟩)
  ·rw[List.drop_eq_nil_of_le hge,zbM]at hgo
   (repeat' first|refine zaa [0,1,2,3,4,5,7,10,24,25,26,27,33] fun K hK=>?_|(refine hK.go ?_;clear hK K)|with_reducible exact wT|refine wA ?_|(refine wB (fun h=>?_) (fun h=>?_)<;>first|exact wN h|subst (h:(_:Bool)=_)|skip)|(refine wQ ?_;clear hQ hR)|fail)
   rw[←hgo];refine ⟨[],trivial, ?_⟩;simp only[swS,stG];(refine no_implicit_lambda% (st ?_);try with_reducible exact wT);(try simp[*])
theorem asks_ac (hH:HasAll P inv) (hM:∀ b,M b→b<w0.heap.size) (p:Pln) (s:State) (ws:List WayR) (C:List (Int×Int)) (l:Lock) (w:WayR) (H A:List Int) (t:Bool) (h1:w.asks.length≤1000) (hs:∀ a∈w.asks,0≤a.pnt∧a.pnt≤99) (hHl:H.length=100) (hAl:A.length=100) :
  AC P inv w0 M 30 120 [.agg w.c,.agg l.c,.fn 121 [.ptr 3 1 0,.ptr 6 1 0,.ptr 2 201 0]] (stG p s ws C l H A t) fun r0 σ'=>r0=.tup []∧σ'=stG p s ws C l H (if l.phase=0 then (A,t) else zdW l C w.asks A t).1 (if l.phase=0 then (A,t) else zdW l C w.asks A t).2:=by
 have hgb:=zfE (H:=H) (A:=A) (zfb ws)
 by_cases hph:l.phase=0
 ·simp only[hph,if_true]
  refine za1 (F:=cd120) (hH.has _ _ rfl) rfl (Nat.le_of_ble_eq_true rfl) fun Q hQ hR=>?_;have hE:=hH.callable;dsimp only[cd120,qm,ql,qf,qi,qb,qc,qp,qv,qN,qT,qF,qt]at hQ ⊢
  unfold stG
  (refine no_implicit_lambda% (st ?_);try with_reducible exact wT)
  (have hX:=@hgb;(repeat' first|refine zaa [0,1,2,3,4,7,10,12,13,14,15,33] fun K hK=>?_|(refine hK.go ?_;clear hK K)|with_reducible exact wT|refine wA ?_|(refine wB (fun h=>?_) (fun h=>?_)<;>first|exact wN h|subst (h:(_:Bool)=_)|skip)|(refine wR ?_;clear hQ hR hE hM)|fail);all_goals clear hX)
  all_goals first|(exfalso;contradiction)|skip
  all_goals ((first|refine ⟨[],trivial, ?_⟩|refine ⟨[],⟨rfl,trivial⟩, ?_⟩);simp only[swS,stG];(refine no_implicit_lambda% (st ?_);try with_reducible exact wT);(try simp))
 ·simp only[hph,if_false]
  refine za1 (F:=cd120) (hH.has _ _ rfl) rfl (Nat.le_of_ble_eq_true rfl) fun Q hQ hR=>?_;have hE:=hH.callable;dsimp only[cd120,qm,ql,qf,qi,qb,qc,qp,qv,qN,qT,qF,qt]at hQ ⊢
  skip
  unfold stG
  (refine no_implicit_lambda% (st ?_);try with_reducible exact wT)
  (have hX:=@hgb;(repeat' first|refine zaa [0,1,2,3,4,5,7,10,12,13,14,15,33] fun K hK=>?_|(refine hK.go ?_;clear hK K)|with_reducible exact wT|refine wA ?_|(refine wB (fun h=>?_) (fun h=>?_)<;>first|exact wN h|subst (h:(_:Bool)=_)|skip)|(refine wQ ?_;clear hQ hR)|fail);all_goals clear hX)
  all_goals first|(exfalso;contradiction)|skip
  refine zaz (ι:=Nat×(List Int)×Bool) [2,4,12,13,14] (fun z=>[(14,.n z.1)]) (fun z=>[(2,.cells (gc H z.2.1 (wsl ws)) true),(3,.cells [.b z.2.2] true)]) (fun z=>z.1) (w.asks.length) (fun z=>(z.2.1.length=100)∧(zdW l C (w.asks.drop z.1) z.2.1 z.2.2=zdW l C w.asks A t)) (0,A,t) ?_;rintro ⟨k,X,u⟩ ⟨hk,hx,hgo⟩;(try dsimp only at hk hx hgo ⊢);rcases Nat.lt_or_ge k w.asks.length with hlt|hge
  ·rw[zag hlt,zdW]at hgo
   have hb:=hs _ (zae hlt)
   have hgb2:=zfE (H:=H) (A:=X) (zfb ws)
   have e2:=gc_set2 (H:=H) (A:=X) (W:=wsl ws) hHl hx (i:=(nth w.asks k).pnt.toNat) (by omega) (nth w.asks k).lie
   have e3:=zgz (H:=H) (A:=X) (W:=wsl ws) hHl hx
   (have hX:=zA @hgb2 (zA @e2 @e3);(repeat' first|refine zaa [0,1,2,3,4,5,7,10,12,13,14,15,33] fun K hK=>?_|(refine hK.go ?_;clear hK K)|with_reducible exact wT|refine wA ?_|(refine wB (fun h=>?_) (fun h=>?_)<;>first|exact wN h|subst (h:(_:Bool)=_)|skip)|(refine wQ ?_;clear hQ hR)|(refine AC.callK 40 (by omega) (by first|omega|exact wF|((refine no_implicit_lambda% (st ?_);try with_reducible exact wT);omega)) (zac (F:=cd121) (hH.has _ _ rfl) (Nat.le_of_ble_eq_true rfl) fun Q hQ hR=>?_);dsimp only[cd121,qm,ql,qf,qi,qb,qc,qp,qv,qN,qT,qF,qt]at hQ ⊢;try (refine no_implicit_lambda% (st ?_);try with_reducible exact wT))|fail);all_goals clear hX)
   all_goals first
    |(rw[show zc4 l (nth w.asks k)=true by simp[zc4, *],if_pos rfl,if_neg (by simp[*])]at hgo;rw[←hgo];refine ⟨[],trivial, ?_⟩;simp only[swS,stG];(refine no_implicit_lambda% (st ?_);try with_reducible exact wT);(try simp[*]);done)
    |(rw[show zc4 l (nth w.asks k)=true by simp[zc4, *],if_pos rfl,if_pos ⟨by simp[*],by simp[*]⟩]at hgo;exact ⟨(k+1,X.set (nth w.asks k).pnt.toNat (nth w.asks k).lie,true),by dsimp only;omega,⟨by dsimp only;omega,by simp[hx],hgo⟩,by dsimp only;omega,rfl,by simp[*]⟩)
    |(rw[show zc4 l (nth w.asks k)=false by simp[zc4];omega,if_neg (by simp)]at hgo;exact ⟨(k+1,X,_),by dsimp only;omega,⟨by dsimp only;omega,by simp[hx],hgo⟩,by dsimp only;omega,rfl,rfl⟩)
  ·rw[List.drop_eq_nil_of_le hge,zdW]at hgo
   (repeat' first|refine zaa [0,1,2,3,4,5,7,10,12,13,14,15,33] fun K hK=>?_|(refine hK.go ?_;clear hK K)|with_reducible exact wT|refine wA ?_|(refine wB (fun h=>?_) (fun h=>?_)<;>first|exact wN h|subst (h:(_:Bool)=_)|skip)|(refine wQ ?_;clear hQ hR)|fail)
   rw[←hgo];refine ⟨[],trivial, ?_⟩;simp only[swS,stG];(refine no_implicit_lambda% (st ?_);try with_reducible exact wT);(try simp[*])
end Go.Lev
