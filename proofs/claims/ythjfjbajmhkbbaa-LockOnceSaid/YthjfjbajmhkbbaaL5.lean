/-
  A part of the engine that walks the functions' codes, and of the functions' contracts. Conditions: those that each theorem names.
-/
import Derived.Test.YthjfjbajmhkbbaaL4
import Derived.IntWalk
set_option linter.unusedSimpArgs false
set_option linter.unusedVariables false
set_option linter.unusedSectionVars false
namespace Go.Lev
open Go.Eng
set_option maxRecDepth 10000
set_option maxHeartbeats 4000000
variable {P:Program} {inv:Nat→Option Nat} {w0:World} {M:Nat→Prop}
def gc (H A:List Int) (W:AV):List AV:=H.map AV.n++(A.map AV.n++[W])
section gc
variable {H A:List Int} {W:AV}
theorem zfz (h:H.length=100) (h':A.length=100):(gc H A W).length=201:=by simp[gc,h,h']
theorem znt (h:H.length=100) {i:Nat} (hi:i<100):(gc H A W)[i]?=some (.n (nth H i)):=by
 unfold gc
 rw[List.getElem?_append_left (by simp[h,hi]),zhV (by omega)]
theorem gc_get2 (h:H.length=100) (h':A.length=100) {i:Nat} (hi:i<100):(gc H A W)[100+i]?=some (.n (nth A i)):=by
 unfold gc
 rw[List.getElem?_append_right (by simp[h]),List.length_map,h,show 100+i-100=i by omega,List.getElem?_append_left (by simp[h',hi]),zhV (by omega)]
theorem gc_get3 (h:H.length=100) (h':A.length=100):(gc H A W)[200]?=some W:=by
 unfold gc
 rw[List.getElem?_append_right (by simp[h]),List.length_map,h,List.getElem?_append_right (by simp[h']),List.length_map,h']
 rfl
theorem gc_set1 (h:H.length=100) {i:Nat} (hi:i<100) (x:Int):(gc H A W).set i (.n x)=gc (H.set i x) A W:=by
 unfold gc
 rw[List.set_append_left _ _ (by simp[h,hi]),List.map_set]
theorem gc_set2 (h:H.length=100) (h':A.length=100) {i:Nat} (hi:i<100) (x:Int):(gc H A W).set (100+i) (.n x)=gc H (A.set i x) W:=by
 unfold gc
 rw[List.set_append_right _ _ (by simp[h]),List.length_map,h,show 100+i-100=i by omega,List.set_append_left _ _ (by simp[h',hi]),List.map_set]
theorem gc_set3 (h:H.length=100) (h':A.length=100) (W':AV):(gc H A W).set 200 W'=gc H A W':=by
 unfold gc
 rw[List.set_append_right _ _ (by simp[h]),List.length_map,h,List.set_append_right _ _ (by simp[h']),List.length_map,h']
 rfl
theorem zk0 (h:W.plain=true):zau (gc H A W)=true:=by
 unfold gc
 rw[zce,zce,zcj,zcj]
 simp[zau,h]
theorem znv (h:W.plain=true):zac (gc H A W)=true:=zbW _ (zk0 h)
theorem zeG (h:W.plain=true):zab (gc H A W)=0:=za8 _ (znv h)
theorem gc_snap (h:W.plain=true) (k:Nat) (σ:AS):zbv k σ (gc H A W)=gc H A W:=zfM k σ (zk0 h)
end gc
def wsl (ws:List WayR):AV:=.sl 4 (ws.map Way.c)
theorem zed (ws:List WayR):(wsl ws).plain=true:=rfl
def zbw (w:WayR) (l:Lock):List Int:=if l.phase=0 then [] else w.path.drop l.gone.toNat++w.over
def zdz (l:Lock) (a:AskR):Bool:=decide (a.pos<0)||decide (l.gone≤a.pos)
def zbl (n:Int):List Int→List Int→Bool→List Int×Bool
 |[],H,t=>(H,t)
 |s::r,H,t=>if t=true∧nth H s.toNat=0 then zbl n r (H.set s.toNat n) true else (H.set s.toNat n,false)
def zd1 (l:Lock) (C:List (Int×Int)):List AskR→List Int→Bool→List Int×Bool
 |[],A,t=>(A,t)
 |a::r,A,t=>if zdz l a=true then (if t=true∧zeR C a.pnt=a.lie then zd1 l C r (A.set a.pnt.toNat a.lie) true else (A.set a.pnt.toNat a.lie,false)) else zd1 l C r A t
def stG (p:Pln) (s:State) (ws:List WayR) (C:List (Int×Int)) (l:Lock) (H A:List Int) (t:Bool):List (Nat×AO):=[(0,.cells p.c true),(1,.cells s.c true),(2,.cells (gc H A (wsl ws)) true),(3,.cells [.b t] true),(4,.cells [.fn 110 []] true),(5,.imap C),(6,.cells [.mp 5] true),(7,.cells l.c true)]
theorem held_ac (hH:HasAll P inv) (hM:∀ b,M b→b<w0.heap.size) (p:Pln) (s:State) (ws:List WayR) (C:List (Int×Int)) (l:Lock) (w:WayR) (H A:List Int) (t:Bool) (hg:0≤l.gone∧l.gone≤w.path.length) (h1:w.path.length≤1000) (h2:w.over.length≤1000) (hs:∀ x∈w.path++w.over,0≤x∧x≤99) (hHl:H.length=100) (hAl:A.length=100) :
  AC P inv w0 M 30 118 [.agg w.c,.agg l.c,.fn 119 [.ptr 3 1 0,.ptr 2 201 0,.ptr 7 4 0]] (stG p s ws C l H A t) fun r0 σ'=>r0=.tup []∧σ'=stG p s ws C l (zbl l.id (zbw w l) H t).1 A (if l.phase=0 then t else (zbl l.id (zbw w l) H t).2):=by
 have c3:=zjg hH [w.path.drop l.gone.toNat,w.over] (by simp) (by simp[zh0];omega)
 rw[show [w.path.drop l.gone.toNat,w.over].flatten=w.path.drop l.gone.toNat++w.over by simp,show [w.path.drop l.gone.toNat,w.over].map lst=[[.sl 1 ((w.path.map zeD).drop l.gone.toNat)],[.sl 1 (w.over.map zeD)]] by simp[lst,List.map_drop]]at c3
 have hn1:¬l.gone<0:=by omega
 have hn2:¬((w.path.length:Int)<l.gone):=by omega
 have hgb:=zeG (H:=H) (A:=A) (zed ws)
 unfold zbw
 by_cases hph:l.phase=0
 ·simp only[hph,if_true,zbl]
  refine zaQ (F:=cd118) (hH.has _ _ rfl) rfl (Nat.le_of_ble_eq_true rfl) fun Q hQ hR=>?_;have hE:=hH.callable;dsimp only[cd118,qm,ql,qf,qi,qb,qc,qp,qv,qN,qT,qF,qt]at hQ ⊢
  unfold stG
  (refine no_implicit_lambda% (st ?_);try with_reducible exact wT)
  (have hX:=@hgb;(repeat' first|refine zaa [0,1,2,3,4,7,10,24,25,26,27,33] fun K hK=>?_|(refine hK.go ?_;clear hK K)|with_reducible exact wT|refine wA ?_|(refine wB (fun h=>?_) (fun h=>?_)<;>first|exact wN h|subst (h:(_:Bool)=_)|skip)|(refine wR ?_;clear hQ hR hE hM)|fail);all_goals clear hX)
  all_goals first|(exfalso;contradiction)|skip
  all_goals ((first|refine ⟨[],trivial, ?_⟩|refine ⟨[],⟨rfl,trivial⟩, ?_⟩);simp only[swS,stG];(refine no_implicit_lambda% (st ?_);try with_reducible exact wT);(try simp))
 ·simp only[hph,if_false]
  obtain ⟨L,hL⟩:∃ L,L=w.path.drop l.gone.toNat++w.over:=⟨_,rfl⟩
  have hLs:∀ x∈L,0≤x∧x≤99:=fun x hx=>hs x (by
   rw[hL]at hx
   rcases List.mem_append.1 hx with h|h
   ·exact List.mem_append.2 (.inl (List.mem_of_mem_drop h))
   ·exact List.mem_append.2 (.inr h))
  have hLl:L.length≤2000:=by rw[hL];simp;omega
  rw[←hL]at c3 ⊢
  clear hL
  refine zaQ (F:=cd118) (hH.has _ _ rfl) rfl (Nat.le_of_ble_eq_true rfl) fun Q hQ hR=>?_;have hE:=hH.callable;dsimp only[cd118,qm,ql,qf,qi,qb,qc,qp,qv,qN,qT,qF,qt]at hQ ⊢
  skip
  unfold stG
  (refine no_implicit_lambda% (st ?_);try with_reducible exact wT)
  (have hX:=zA @hn1 (zA @hn2 @hgb);(repeat' first|refine zaa [0,1,2,3,4,5,7,10,24,25,26,27,33] fun K hK=>?_|(refine hK.go ?_;clear hK K)|with_reducible exact wT|refine wA ?_|(refine wB (fun h=>?_) (fun h=>?_)<;>first|exact wN h|subst (h:(_:Bool)=_)|skip)|(refine wQ ?_;clear hQ hR)|refine wC c3 ?_|fail);all_goals clear hX)
  all_goals first|(exfalso;contradiction)|skip
  refine zar (ι:=Nat×(List Int)×Bool) [2,24,25,26] (fun z=>[(26,.n z.1)]) (fun z=>[(2,.cells (gc z.2.1 A (wsl ws)) true),(3,.cells [.b z.2.2] true)]) (fun z=>z.1) (L.length) (fun z=>(z.2.1.length=100)∧(zbl l.id (L.drop z.1) z.2.1 z.2.2=zbl l.id L H t)) (0,H,t) ?_;rintro ⟨k,X,u⟩ ⟨hk,hx,hgo⟩;(try dsimp only at hk hx hgo ⊢);rcases Nat.lt_or_ge k L.length with hlt|hge
  ·rw[zaf hlt,zbl]at hgo
   have hb:=hLs _ (zak hlt)
   have hgb2:=zeG (H:=X) (A:=A) (zed ws)
   have e1:=znt (H:=X) (A:=A) (W:=wsl ws) hx (i:=(nth L k).toNat) (by omega)
   have e2:=gc_set1 (H:=X) (A:=A) (W:=wsl ws) hx (i:=(nth L k).toNat) (by omega) l.id
   have e3:=zfz (H:=X) (A:=A) (W:=wsl ws) hx hAl
   (have hX:=zA @hgb2 (zA @e1 (zA @e2 @e3));(repeat' first|refine zaa [0,1,2,3,4,5,7,10,24,25,26,27,33] fun K hK=>?_|(refine hK.go ?_;clear hK K)|with_reducible exact wT|refine wA ?_|(refine wB (fun h=>?_) (fun h=>?_)<;>first|exact wN h|subst (h:(_:Bool)=_)|skip)|(refine wQ ?_;clear hQ hR)|(refine AC.callK 40 (by omega) (by first|omega|exact wF|((refine no_implicit_lambda% (st ?_);try with_reducible exact wT);omega)) (zas (F:=cd119) (hH.has _ _ rfl) (Nat.le_of_ble_eq_true rfl) fun Q hQ hR=>?_);dsimp only[cd119,qm,ql,qf,qi,qb,qc,qp,qv,qN,qT,qF,qt]at hQ ⊢;try (refine no_implicit_lambda% (st ?_);try with_reducible exact wT))|fail);all_goals clear hX)
   all_goals first
    |(rw[if_neg (by simp[*])]at hgo;rw[←hgo];refine ⟨[],trivial, ?_⟩;simp only[swS,stG];(refine no_implicit_lambda% (st ?_);try with_reducible exact wT);(try simp[*]);done)
    |(rw[if_pos ⟨by simp[*],by simp[*]⟩]at hgo;exact ⟨(k+1,X.set (nth L k).toNat l.id,true),by dsimp only;omega,⟨by dsimp only;omega,by simp[hx],hgo⟩,by dsimp only;omega,rfl,by simp[*]⟩)
  ·rw[List.drop_eq_nil_of_le hge,zbl]at hgo
   (repeat' first|refine zaa [0,1,2,3,4,5,7,10,24,25,26,27,33] fun K hK=>?_|(refine hK.go ?_;clear hK K)|with_reducible exact wT|refine wA ?_|(refine wB (fun h=>?_) (fun h=>?_)<;>first|exact wN h|subst (h:(_:Bool)=_)|skip)|(refine wQ ?_;clear hQ hR)|fail)
   rw[←hgo];refine ⟨[],trivial, ?_⟩;simp only[swS,stG];(refine no_implicit_lambda% (st ?_);try with_reducible exact wT);(try simp[*])
theorem asks_ac (hH:HasAll P inv) (hM:∀ b,M b→b<w0.heap.size) (p:Pln) (s:State) (ws:List WayR) (C:List (Int×Int)) (l:Lock) (w:WayR) (H A:List Int) (t:Bool) (h1:w.asks.length≤1000) (hs:∀ a∈w.asks,0≤a.pnt∧a.pnt≤99) (hHl:H.length=100) (hAl:A.length=100) :
  AC P inv w0 M 30 120 [.agg w.c,.agg l.c,.fn 121 [.ptr 3 1 0,.ptr 6 1 0,.ptr 2 201 0]] (stG p s ws C l H A t) fun r0 σ'=>r0=.tup []∧σ'=stG p s ws C l H (if l.phase=0 then (A,t) else zd1 l C w.asks A t).1 (if l.phase=0 then (A,t) else zd1 l C w.asks A t).2:=by
 have hgb:=zeG (H:=H) (A:=A) (zed ws)
 by_cases hph:l.phase=0
 ·simp only[hph,if_true]
  refine zaQ (F:=cd120) (hH.has _ _ rfl) rfl (Nat.le_of_ble_eq_true rfl) fun Q hQ hR=>?_;have hE:=hH.callable;dsimp only[cd120,qm,ql,qf,qi,qb,qc,qp,qv,qN,qT,qF,qt]at hQ ⊢
  unfold stG
  (refine no_implicit_lambda% (st ?_);try with_reducible exact wT)
  (have hX:=@hgb;(repeat' first|refine zaa [0,1,2,3,4,7,10,12,13,14,15,33] fun K hK=>?_|(refine hK.go ?_;clear hK K)|with_reducible exact wT|refine wA ?_|(refine wB (fun h=>?_) (fun h=>?_)<;>first|exact wN h|subst (h:(_:Bool)=_)|skip)|(refine wR ?_;clear hQ hR hE hM)|fail);all_goals clear hX)
  all_goals first|(exfalso;contradiction)|skip
  all_goals ((first|refine ⟨[],trivial, ?_⟩|refine ⟨[],⟨rfl,trivial⟩, ?_⟩);simp only[swS,stG];(refine no_implicit_lambda% (st ?_);try with_reducible exact wT);(try simp))
 ·simp only[hph,if_false]
  refine zaQ (F:=cd120) (hH.has _ _ rfl) rfl (Nat.le_of_ble_eq_true rfl) fun Q hQ hR=>?_;have hE:=hH.callable;dsimp only[cd120,qm,ql,qf,qi,qb,qc,qp,qv,qN,qT,qF,qt]at hQ ⊢
  skip
  unfold stG
  (refine no_implicit_lambda% (st ?_);try with_reducible exact wT)
  (have hX:=@hgb;(repeat' first|refine zaa [0,1,2,3,4,5,7,10,12,13,14,15,33] fun K hK=>?_|(refine hK.go ?_;clear hK K)|with_reducible exact wT|refine wA ?_|(refine wB (fun h=>?_) (fun h=>?_)<;>first|exact wN h|subst (h:(_:Bool)=_)|skip)|(refine wQ ?_;clear hQ hR)|fail);all_goals clear hX)
  all_goals first|(exfalso;contradiction)|skip
  refine zar (ι:=Nat×(List Int)×Bool) [2,4,12,13,14] (fun z=>[(14,.n z.1)]) (fun z=>[(2,.cells (gc H z.2.1 (wsl ws)) true),(3,.cells [.b z.2.2] true)]) (fun z=>z.1) (w.asks.length) (fun z=>(z.2.1.length=100)∧(zd1 l C (w.asks.drop z.1) z.2.1 z.2.2=zd1 l C w.asks A t)) (0,A,t) ?_;rintro ⟨k,X,u⟩ ⟨hk,hx,hgo⟩;(try dsimp only at hk hx hgo ⊢);rcases Nat.lt_or_ge k w.asks.length with hlt|hge
  ·rw[zaf hlt,zd1]at hgo
   have hb:=hs _ (zak hlt)
   have hgb2:=zeG (H:=H) (A:=X) (zed ws)
   have e2:=gc_set2 (H:=H) (A:=X) (W:=wsl ws) hHl hx (i:=(nth w.asks k).pnt.toNat) (by omega) (nth w.asks k).lie
   have e3:=zfz (H:=H) (A:=X) (W:=wsl ws) hHl hx
   (have hX:=zA @hgb2 (zA @e2 @e3);(repeat' first|refine zaa [0,1,2,3,4,5,7,10,12,13,14,15,33] fun K hK=>?_|(refine hK.go ?_;clear hK K)|with_reducible exact wT|refine wA ?_|(refine wB (fun h=>?_) (fun h=>?_)<;>first|exact wN h|subst (h:(_:Bool)=_)|skip)|(refine wQ ?_;clear hQ hR)|(refine AC.callK 40 (by omega) (by first|omega|exact wF|((refine no_implicit_lambda% (st ?_);try with_reducible exact wT);omega)) (zas (F:=cd121) (hH.has _ _ rfl) (Nat.le_of_ble_eq_true rfl) fun Q hQ hR=>?_);dsimp only[cd121,qm,ql,qf,qi,qb,qc,qp,qv,qN,qT,qF,qt]at hQ ⊢;try (refine no_implicit_lambda% (st ?_);try with_reducible exact wT))|fail);all_goals clear hX)
   all_goals first
    |(rw[show zdz l (nth w.asks k)=true by simp[zdz, *],if_pos rfl,if_neg (by simp[*])]at hgo;rw[←hgo];refine ⟨[],trivial, ?_⟩;simp only[swS,stG];(refine no_implicit_lambda% (st ?_);try with_reducible exact wT);(try simp[*]);done)
    |(rw[show zdz l (nth w.asks k)=true by simp[zdz, *],if_pos rfl,if_pos ⟨by simp[*],by simp[*]⟩]at hgo;exact ⟨(k+1,X.set (nth w.asks k).pnt.toNat (nth w.asks k).lie,true),by dsimp only;omega,⟨by dsimp only;omega,by simp[hx],hgo⟩,by dsimp only;omega,rfl,by simp[*]⟩)
    |(rw[show zdz l (nth w.asks k)=false by simp[zdz];omega,if_neg (by simp)]at hgo;exact ⟨(k+1,X,_),by dsimp only;omega,⟨by dsimp only;omega,by simp[hx],hgo⟩,by dsimp only;omega,rfl,rfl⟩)
  ·rw[List.drop_eq_nil_of_le hge,zd1]at hgo
   (repeat' first|refine zaa [0,1,2,3,4,5,7,10,12,13,14,15,33] fun K hK=>?_|(refine hK.go ?_;clear hK K)|with_reducible exact wT|refine wA ?_|(refine wB (fun h=>?_) (fun h=>?_)<;>first|exact wN h|subst (h:(_:Bool)=_)|skip)|(refine wQ ?_;clear hQ hR)|fail)
   rw[←hgo];refine ⟨[],trivial, ?_⟩;simp only[swS,stG];(refine no_implicit_lambda% (st ?_);try with_reducible exact wT);(try simp[*])
end Go.Lev
namespace Go.Lev
open Go.Eng
set_option maxRecDepth 10000
set_option maxHeartbeats 4000000
variable {P:Program} {inv:Nat→Option Nat} {w0:World} {M:Nat→Prop}
def zb1 (w:WayR) (l:Lock):List AskR:=if l.phase=0 then [] else w.asks
theorem held_ac2 (hH:HasAll P inv) (hM:∀ b,M b→b<w0.heap.size) (p:Pln) (s:State) (ws:List WayR) (C:List (Int×Int)) (l:Lock) (w:WayR) (H A:List Int) (t:Bool) (hg:0≤l.gone∧l.gone≤w.path.length) (h1:w.path.length≤1000) (h2:w.over.length≤1000) (hs:∀ x∈w.path++w.over,0≤x∧x≤99) (hHl:H.length=100) (hAl:A.length=100) :
  AC P inv w0 M 30 118 [.agg w.c,.agg l.c,.fn 119 [.ptr 3 1 0,.ptr 2 201 0,.ptr 7 4 0]] (stG p s ws C l H A t) fun r0 σ'=>r0=.tup []∧σ'=stG p s ws C l (zbl l.id (zbw w l) H t).1 A (zbl l.id (zbw w l) H t).2:=by
 have h:=held_ac hH hM p s ws C l w H A t hg h1 h2 hs hHl hAl
 by_cases hp:l.phase=0
 ·rw[if_pos hp]at h
  rw[show (zbl l.id (zbw w l) H t).2=t by unfold zbw;rw[if_pos hp];rfl]
  exact h
 ·rw[if_neg hp]at h;exact h
theorem asks_ac2 (hH:HasAll P inv) (hM:∀ b,M b→b<w0.heap.size) (p:Pln) (s:State) (ws:List WayR) (C:List (Int×Int)) (l:Lock) (w:WayR) (H A:List Int) (t:Bool) (h1:w.asks.length≤1000) (hs:∀ a∈w.asks,0≤a.pnt∧a.pnt≤99) (hHl:H.length=100) (hAl:A.length=100) :
  AC P inv w0 M 30 120 [.agg w.c,.agg l.c,.fn 121 [.ptr 3 1 0,.ptr 6 1 0,.ptr 2 201 0]] (stG p s ws C l H A t) fun r0 σ'=>r0=.tup []∧σ'=stG p s ws C l H (zd1 l C (zb1 w l) A t).1 (zd1 l C (zb1 w l) A t).2:=by
 have h:=asks_ac hH hM p s ws C l w H A t h1 hs hHl hAl
 by_cases hp:l.phase=0
 ·rw[if_pos hp]at h
  unfold zb1
  rw[if_pos hp]
  exact h
 ·rw[if_neg hp]at h
  unfold zb1
  rw[if_neg hp]
  exact h
theorem zeF (n:Int):∀ (l H:List Int) (t:Bool),(zbl n l H t).1.length=H.length
 |[],H,t=>rfl
 |s::r,H,t=>by
  rw[zbl]
  split
  ·rw[zeF n r];simp
  ·simp
theorem zeP (l:Lock) (C:List (Int×Int)):∀ (q:List AskR) (A:List Int) (t:Bool),(zd1 l C q A t).1.length=A.length
 |[],A,t=>rfl
 |a::r,A,t=>by
  rw[zd1]
  split
  ·split
   ·rw[zeP l C r];simp
   ·simp
  ·exact zeP l C r A t
def zfR:List (Int×Int)→List Switch→List (Int×Int)
 |C,[]=>C
 |C,x::r=>zfR (zjY C x.id x.call) r
def zdu (ws:List WayR) (C:List (Int×Int)):Nat→List Lock→List Int→List Int→Bool→List Int×List Int×Bool
 |_,[],H,A,t=>(H,A,t)
 |i,l::r,H,A,t=>zdu ws C (i+1) r (zbl l.id (zbw (nth ws i) l) H t).1 (zd1 l C (zb1 (nth ws i) l) A (zbl l.id (zbw (nth ws i) l) H t).2).1 (zd1 l C (zb1 (nth ws i) l) A (zbl l.id (zbw (nth ws i) l) H t).2).2
def zal (p:Pln) (s:State):Bool:=zaI zin s.tracks p.sections&&(zaI zio s.switches p.points&&zaI zeB s.locks p.routes)
def zaO (p:Pln):List WayR:=p.routes.map fun r=>(zag p r).1
def zcB:List Int:=List.replicate 100 0
def gripR (p:Pln) (s:State):(List Int×List Int×Bool)×List WayR:=if zal p s=true then (zdu (zaO p) (zfR [] s.switches) 0 s.locks zcB zcB true,zaO p) else ((zcB,zcB,false),[])
theorem foldG:List.replicate 100 (AV.i .i64 0)++(List.replicate 100 (AV.i .i64 0)++[AV.s0 4])=gc zcB zcB (.s0 4):=rfl
theorem gc_snap0 (H A:List Int) (k:Nat) (σ:AS):zbv k σ (gc H A (.s0 4))=gc H A (.sl 4 []):=by
 unfold gc
 rw[ziw,ziw,zhF,zhF,zbC,zda,sn_s0]
theorem ovl_gc {H A H' A':List Int} (h:H.length=100) (h':A.length=100) (h2:H'.length=100) (h2':A'.length=100) (W W':AV):ovl (gc H A W) 0 (gc H' A' W')=gc H' A' W':=by
 rw[zkT _ _ _ (by rw[zfz h h',zfz h2 h2'];omega),List.take_zero,List.nil_append,List.drop_eq_nil_of_le (by rw[zfz h h',zfz h2 h2'];omega),List.append_nil]
theorem zbd:zcB.length=100:=by simp[zcB]
theorem znu (H A:List Int):zab (gc H A (.s0 4))=0:=by
 unfold gc
 rw[zdO,zdO,zdJ,zdJ];rfl
theorem gc_bare0 (H A:List Int):zac (gc H A (.s0 4))=true:=by
 have h:∀ xs ys:List AV,zac (xs++ys)=(zac xs&&zac ys):=by
  intro xs ys
  induction xs with
  |nil=>simp[zac]
  |cons x xs ih=>simp[zac,ih,Bool.and_assoc]
 unfold gc
 rw[h,h,zeE,zeE];rfl
def stGg (p:Pln) (s:State) (g:List AV) (C:List (Int×Int)) (l:Lock) (t:Bool):List (Nat×AO):=[(0,.cells p.c true),(1,.cells s.c true),(2,.cells g true),(3,.cells [.b t] true),(4,.cells [.fn 110 []] true),(5,.imap C),(6,.cells [.mp 5] true),(7,.cells l.c true)]
theorem held_ac3 (hH:HasAll P inv) (hM:∀ b,M b→b<w0.heap.size) (G:List Int→List Int→AV→List AV) (hG:G=gc) (p:Pln) (s:State) (ws:List WayR) (C:List (Int×Int)) (l:Lock) (w:WayR) (H A:List Int) (t:Bool) (hg:0≤l.gone∧l.gone≤w.path.length) (h1:w.path.length≤1000) (h2:w.over.length≤1000) (hs:∀ x∈w.path++w.over,0≤x∧x≤99) (hHl:H.length=100) (hAl:A.length=100) :
  AC P inv w0 M 30 118 [.agg w.c,.agg l.c,.fn 119 [.ptr 3 1 0,.ptr 2 201 0,.ptr 7 4 0]] (stGg p s (G H A (.sl 4 (ws.map Way.c))) C l t) fun r0 σ'=>r0=.tup []∧σ'=stGg p s (G (zbl l.id (zbw w l) H t).1 A (.sl 4 (ws.map Way.c))) C l (zbl l.id (zbw w l) H t).2:=by
 subst hG
 exact held_ac2 hH hM p s ws C l w H A t hg h1 h2 hs hHl hAl
theorem asks_ac3 (hH:HasAll P inv) (hM:∀ b,M b→b<w0.heap.size) (G:List Int→List Int→AV→List AV) (hG:G=gc) (p:Pln) (s:State) (ws:List WayR) (C:List (Int×Int)) (l:Lock) (w:WayR) (H A:List Int) (t:Bool) (h1:w.asks.length≤1000) (hs:∀ a∈w.asks,0≤a.pnt∧a.pnt≤99) (hHl:H.length=100) (hAl:A.length=100) :
  AC P inv w0 M 30 120 [.agg w.c,.agg l.c,.fn 121 [.ptr 3 1 0,.ptr 6 1 0,.ptr 2 201 0]] (stGg p s (G H A (.sl 4 (ws.map Way.c))) C l t) fun r0 σ'=>r0=.tup []∧σ'=stGg p s (G H (zd1 l C (zb1 w l) A t).1 (.sl 4 (ws.map Way.c))) C l (zd1 l C (zb1 w l) A t).2:=by
 subst hG
 exact asks_ac2 hH hM p s ws C l w H A t h1 hs hHl hAl
structure GC (G:List Int→List Int→AV→List AV) (Z:List Int):Prop where
 eq:G=gc
 z:Z=zcB
 fold:List.replicate 100 (AV.i .i64 0)++(List.replicate 100 (AV.i .i64 0)++[AV.s0 4])=G Z Z (.s0 4)
 zl:Z.length=100
 len:∀ {H A:List Int} (W:AV),H.length=100→A.length=100→(G H A W).length=201
 sg:∀ {H A:List Int} (W:AV),H.length=100→A.length=100→List.take 201 (G H A W)=G H A W
 ov:∀ {H A H' A':List Int} (W W':AV),H.length=100→A.length=100→H'.length=100→A'.length=100→ovl (G H A W) 0 (G H' A' W')=G H' A' W'
 bd0:∀ H A:List Int,zab (G H A (.s0 4))=0
 ba0:∀ H A:List Int,zac (G H A (.s0 4))=true
 bd:∀ (H A:List Int) (l:List (List AV)),zab (G H A (.sl 4 l))=0
 ba:∀ (H A:List Int) (l:List (List AV)),zac (G H A (.sl 4 l))=true
 sn0:∀ (H A:List Int) (k:Nat) (σ:AS),zbv k σ (G H A (.s0 4))=G H A (.sl 4 [])
 sn:∀ (H A:List Int) (l:List (List AV)) (k:Nat) (σ:AS),zbv k σ (G H A (.sl 4 l))=G H A (.sl 4 l)
 get:∀ {H A:List Int} (W:AV),H.length=100→A.length=100→(G H A W)[200]?=some W
 set:∀ {H A:List Int} (W W':AV),H.length=100→A.length=100→(G H A W).set 200 W'=G H A W'
theorem GC.mk':GC gc zcB:=⟨rfl,rfl,foldG,zbd,fun W h1 h2=>zfz h1 h2,fun W h1 h2=>List.take_of_length_le (by rw[zfz h1 h2];exact Nat.le_refl _),fun W W' h1 h2 h3 h4=>ovl_gc h1 h2 h3 h4 W W',znu,gc_bare0,fun H A l=>zeG rfl,fun H A l=>znv rfl,fun H A k σ=>gc_snap0 H A k σ,fun H A l k σ=>gc_snap rfl k σ,fun W h1 h2=>gc_get3 h1 h2,fun W W' h1 h2=>gc_set3 h1 h2 W'⟩
theorem zn9:∃ G Z,GC G Z:=⟨_,_,GC.mk'⟩
theorem zh5 {φ:AF} {σ:AS} {t u l l':Nat} {g:List AV} {b r r':Bool} (h1:za1 φ t=.ptr l 201 0) (h2:zaz σ l=some (.cells g r)) (h3:g.length=201) (hs:List.take 201 g=g) (h4:za1 φ u=.ptr l' 1 0) (h5:zaz σ l'=some (.cells [.b b] r')):zde φ σ [.cell t (some 201),.cell u none]=some (.tup [.agg g,.b b]):=by
 have h:zcp g 0 (some 201)=some (.agg g):=by
  rw[al_s,if_pos (by omega),seg,List.drop_zero,hs]
 simp only[zde,zgW,ares,h1,h4,zcE,h2,h5,h,h3,al_n,List.getElem?_cons_zero,List.length_cons,List.length_nil,if_true,Nat.zero_add]
theorem grip_bad (hH:HasAll P inv) (hI:HasIds P inv) (p:Pln) (hp:Sm p) (s:State) (hs:s.tracks.length≤1000∧s.switches.length≤1000∧s.locks.length≤1000) (hok:OkP p) (hb:zal p s=false):PC P inv 93 [.agg p.c,.agg s.c] (·=.tup [.agg (gc zcB zcB (.sl 4 [])),.b false]):=by
 obtain ⟨G,Z,hg⟩:=zn9
 rw[←hg.eq,←hg.z]
 have c1:=eqfTrk hH (caps:=[]) s.tracks p.sections (fun x _ y _=>zkC hH x y) rfl (by omega)
 have c2:=eqfSwt hH (caps:=[.ip 1 [[.fn 110 []]] 0 0]) s.switches p.points (fun x _ y _=>zkF hH x y) rfl (by omega)
 have c3:=eqfLck hH (caps:=[]) s.locks p.routes (fun x _ y hy=>zkX hH x y (by have:=zfc hok hy;omega)) rfl (by omega)
 unfold zal at hb
 revert c1 c2 c3 hb
 generalize zaI zin s.tracks p.sections=a1
 generalize zaI zio s.switches p.points=a2
 generalize zaI zeB s.locks p.routes=a3
 intro hb c1 c2 c3
 have hfold:=hg.fold
 have hlen:=hg.len (.s0 4) hg.zl hg.zl
 have hsg:=hg.sg (.s0 4) hg.zl hg.zl
 have hov:=hg.ov (.s0 4) (.s0 4) hg.zl hg.zl hg.zl hg.zl
 have hbd:=hg.bd0 Z Z
 have hba:=hg.ba0 Z Z
 have hsn:=hg.sn0 Z Z
 clear hg
 cases a1
 ·refine PC.fn hH cd93 fun w0 M Q hM hE hQ hR=>?_;dsimp only[cd93,qm,ql,qf,qi,qb,qc,qp,qv,qN,qT,qF,qt]at hQ ⊢
  (have hX:=zA @hfold (zA @hlen (zA @hsg (zA @hov (zA @hbd (zA @hba @hsn)))));(repeat' first|refine zaa [0,1,2,3,4,5,6,7,9,10,11,34,43,45,46,47,48,58,59,60,61] fun K hK=>?_|(refine hK.go ?_;clear hK K)|with_reducible exact wT|refine wA ?_|(refine wB (fun h=>?_) (fun h=>?_)<;>first|exact wN h|subst (h:(_:Bool)=_)|skip)|(refine wQ ?_;clear hQ hR hE hM)|refine wC c1 ?_|fail);all_goals clear hX)
  all_goals (refine hQ _ _ _ (zh5 rfl rfl hlen hsg rfl rfl) ?_;simp only[zdU,zbC,zda,zei,sn_b,hsn])
 ·cases a2
  ·refine PC.fn hH cd93 fun w0 M Q hM hE hQ hR=>?_;dsimp only[cd93,qm,ql,qf,qi,qb,qc,qp,qv,qN,qT,qF,qt]at hQ ⊢
   (have hX:=zA @hfold (zA @hlen (zA @hsg (zA @hov (zA @hbd (zA @hba @hsn)))));(repeat' first|refine zaa [0,1,2,3,4,5,6,7,9,10,11,34,43,45,46,47,48,58,59,60,61] fun K hK=>?_|(refine hK.go ?_;clear hK K)|with_reducible exact wT|refine wA ?_|(refine wB (fun h=>?_) (fun h=>?_)<;>first|exact wN h|subst (h:(_:Bool)=_)|skip)|(refine wQ ?_;clear hQ hR hE hM)|refine wC c1 ?_|refine wS c2 ?_|fail);all_goals clear hX)
   all_goals (refine hQ _ _ _ (zh5 rfl rfl hlen hsg rfl rfl) ?_;simp only[zdU,zbC,zda,zei,sn_b,hsn])
  ·cases a3
   ·refine PC.fn hH cd93 fun w0 M Q hM hE hQ hR=>?_;dsimp only[cd93,qm,ql,qf,qi,qb,qc,qp,qv,qN,qT,qF,qt]at hQ ⊢
    (have hX:=zA @hfold (zA @hlen (zA @hsg (zA @hov (zA @hbd (zA @hba @hsn)))));(repeat' first|refine zaa [0,1,2,3,4,5,6,7,9,10,11,34,43,45,46,47,48,58,59,60,61] fun K hK=>?_|(refine hK.go ?_;clear hK K)|with_reducible exact wT|refine wA ?_|(refine wB (fun h=>?_) (fun h=>?_)<;>first|exact wN h|subst (h:(_:Bool)=_)|skip)|(refine wQ ?_;clear hQ hR hE hM)|refine wC c1 ?_|refine wS c2 ?_|refine wC c3 ?_|fail);all_goals clear hX)
    all_goals (refine hQ _ _ _ (zh5 rfl rfl hlen hsg rfl rfl) ?_;simp only[zdU,zbC,zda,zei,sn_b,hsn])
   ·cases hb
theorem zlG {p:Pln} (hok:OkP p) {l:Lock} {r:Rte} (hr:r∈p.routes) (h:zeB l r=true):0≤l.gone∧l.gone≤(r.path.length:Int)-1:=by
 have hl:=zfc hok hr
 simp only[zeB,zd5,Bool.and_eq_true]at h
 obtain ⟨_,h⟩:=h
 repeat' split at h
 all_goals (simp at h;try omega)
theorem zec {α β:Type} [Inhabited α] [Inhabited β] {q:α→β→Bool}:∀ {a:List α} {b:List β},zaI q a b=true→∀ {i:Nat},i<a.length→q (nth a i) (nth b i)=true
 |[],_,_,i,hi=>by simp at hi
 |x::xs,[],h,_,_=>by simp[zaI]at h
 |x::xs,y::ys,h,0,_=>by simp only[zaI,Bool.and_eq_true]at h;simpa [nth] using h.1
 |x::xs,y::ys,h,i+1,hi=>by
  simp only[zaI,Bool.and_eq_true]at h
  have:=zec (q:=q) h.2 (i:=i) (by simpa using hi)
  simpa [nth] using this
theorem grip_ok (hH:HasAll P inv) (hI:HasIds P inv) (p:Pln) (hp:Sm p) (s:State) (hs:s.tracks.length≤1000∧s.switches.length≤1000∧s.locks.length≤1000) (ho:zbk p=true) (hb:zal p s=true):PC P inv 93 [.agg p.c,.agg s.c] (·=.tup [.agg (gc (zdu (zaO p) (zfR [] s.switches) 0 s.locks zcB zcB true).1 (zdu (zaO p) (zfR [] s.switches) 0 s.locks zcB zcB true).2.1 (.sl 4 ((zaO p).map Way.c))),.b (zdu (zaO p) (zfR [] s.switches) 0 s.locks zcB zcB true).2.2]):=by
 have hlr:=hp.rte
 simp only[zbk,Bool.and_eq_true]at ho
 have hok:=zgv ho.1
 have c0:=all_pc hH hI p hp
 rw[zjs,ho.1,if_pos rfl,ho.2.1,if_pos rfl]at c0
 dsimp only at c0
 rw[show (p.routes.map fun r=>(zag p r).1)=zaO p from rfl]at c0
 simp only[zal,Bool.and_eq_true]at hb
 have c1:=eqfTrk hH (caps:=[]) s.tracks p.sections (fun x _ y _=>zkC hH x y) rfl (by omega)
 have c2:=eqfSwt hH (caps:=[.ip 1 [[.fn 110 []]] 0 0]) s.switches p.points (fun x _ y _=>zkF hH x y) rfl (by omega)
 have c3:=eqfLck hH (caps:=[]) s.locks p.routes (fun x _ y hy=>zkX hH x y (by have:=zfc hok hy;omega)) rfl (by omega)
 rw[hb.1]at c1
 rw[hb.2.1]at c2
 rw[hb.2.2]at c3
 have hll:s.locks.length=p.routes.length:=zbx hb.2.2
 have hwl:(zaO p).length=p.routes.length:=by simp[zaO]
 have hway:∀ i,i<p.routes.length→nth (zaO p) i=(zag p (nth p.routes i)).1:=fun i hi=>nthm (fun r=>(zag p r).1) hi
 have hpath:∀ i,i<p.routes.length→(zag p (nth p.routes i)).1.path=(nth p.routes i).path∧(zag p (nth p.routes i)).1.over=(nth p.routes i).over:=fun i hi=>by
  have h1:=(List.all_eq_true.1 ho.2.1) _ (zak hi)
  have h2:=zcF (p:=p) (r:=nth p.routes i) (by simpa using h1)
  exact ⟨h2.1,h2.2.1⟩
 obtain ⟨ans,hans⟩:∃ ans,ans=zdu (zaO p) (zfR [] s.switches) 0 s.locks zcB zcB true:=⟨_,rfl⟩
 rw[←hans]
 obtain ⟨ws,hws⟩:∃ ws,ws=zaO p:=⟨_,rfl⟩
 rw[←hws]at c0 hwl hway hans ⊢
 obtain ⟨G,Z,hg⟩:=zn9
 rw[←hg.z]at hans
 rw[←hg.eq]
 have hfold:=hg.fold
 have hlen:=hg.len (.s0 4) hg.zl hg.zl
 have hlen2:=hg.len (.sl 4 (ws.map Way.c)) hg.zl hg.zl
 have hset:=hg.set (.s0 4) (.sl 4 (ws.map Way.c)) hg.zl hg.zl
 have hbd0:=hg.bd0 Z Z
 have hbd:=fun H A=>hg.bd H A (ws.map Way.c)
 have hba:=fun H A=>hg.ba H A (ws.map Way.c)
 refine PC.fn hH cd93 fun w0 M Q hM hE hQ hR=>?_;dsimp only[cd93,qm,ql,qf,qi,qb,qc,qp,qv,qN,qT,qF,qt]at hQ ⊢
 (have hX:=zA @hfold (zA @hlen (zA @hbd0 (zA @hbd (zA @hba (zA @hset @hlen2)))));(repeat' first|refine zaa [0,1,2,3,4,5,6,7,9,10,11,34,43,45,46,47,48,58,59,60,61] fun K hK=>?_|(refine hK.go ?_;clear hK K)|with_reducible exact wT|refine wA ?_|(refine wB (fun h=>?_) (fun h=>?_)<;>first|exact wN h|subst (h:(_:Bool)=_)|skip)|(refine wQ ?_;clear hQ hR hE hM)|refine wC c1 ?_|refine wS c2 ?_|refine wC c3 ?_|refine wC c0 ?_|fail);all_goals clear hX)
 refine zar (ι:=Nat×(List (Int×Int))) [3,4,5,7,45,46,47] (fun z=>[(47,.n z.1)]) (fun z=>[(5,.imap z.2)]) (fun z=>z.1) (s.switches.length) (fun z=>(zfR z.2 (s.switches.drop z.1)=zfR [] s.switches)) (0,([]:List (Int×Int))) ?_;rintro ⟨k,C⟩ ⟨hk,hm⟩;(try dsimp only at hk hm ⊢);rcases Nat.lt_or_ge k s.switches.length with hlt|hge
 ·rw[zaf hlt,zfR]at hm
  (have hX:=@hbd;(repeat' first|refine zaa [0,1,2,3,4,5,6,7,9,10,11,34,43,45,46,47,48,58,59,60,61] fun K hK=>?_|(refine hK.go ?_;clear hK K)|with_reducible exact wT|refine wA ?_|(refine wB (fun h=>?_) (fun h=>?_)<;>first|exact wN h|subst (h:(_:Bool)=_)|skip)|(refine wQ ?_;clear hQ hR hE hM)|fail);all_goals clear hX)
  exact nY (k+1,zjY C (nth s.switches k).id (nth s.switches k).call) ⟨by (try dsimp only);omega,hm⟩
 ·rw[List.drop_eq_nil_of_le hge,zfR]at hm
  rw[←hm]at hans
  clear hm
  (have hX:=@hbd;(repeat' first|refine zaa [0,1,2,3,4,5,6,7,9,10,11,34,43,45,46,47,48,58,59,60,61] fun K hK=>?_|(refine hK.go ?_;clear hK K)|with_reducible exact wT|refine wA ?_|(refine wB (fun h=>?_) (fun h=>?_)<;>first|exact wN h|subst (h:(_:Bool)=_)|skip)|(refine wQ ?_;clear hQ hR hE hM)|fail);all_goals clear hX)
  have hzl:Z.length=100∧Z.length=100:=⟨hg.zl,hg.zl⟩
  have hans0:zdu ws C 0 (s.locks.drop 0) Z Z true=ans:=by rw[List.drop_zero];exact hans.symm
  refine zar (ι:=Nat×(List Int)×(List Int)×Bool) [4,5,7,58,59,60] (fun z=>[(60,.n z.1)]) (fun z=>[(2,.cells (G z.2.1 z.2.2.1 (.sl 4 (ws.map Way.c))) true),(3,.cells [.b z.2.2.2] true)]) (fun z=>z.1) (s.locks.length) (fun z=>(z.2.1.length=100∧z.2.2.1.length=100)∧(zdu ws C z.1 (s.locks.drop z.1) z.2.1 z.2.2.1 z.2.2.2=ans)) (0,Z,Z,true) ?_;rintro ⟨i,H,A,t⟩ ⟨hk,hx,hgo⟩;(try dsimp only at hk hx hgo ⊢);rcases Nat.lt_or_ge i s.locks.length with hlt|hge
  ·rw[zaf (by assumption),zdu]at hgo
   have hir:i<p.routes.length:=by omega
   have hw:=hway i hir
   have hpa:=hpath i hir
   have hm:=zak hir
   have hls:=zfc hok hm
   have hse:=(zer hok hm).1
   have hwl2:=zcG hok hm
   have hgn:=zlG hok hm (zec hb.2.2 (i:=i) (by omega))
   have hap:∀ a∈(nth ws i).asks,0≤a.pnt∧a.pnt≤99:=fun a ha=>by rw[hw]at ha;have:=zbt hok hm ha;omega
   have hse2:∀ x∈(nth ws i).path++(nth ws i).over,0≤x∧x≤99:=fun x hx=>by
    rw[hw,hpa.1,hpa.2]at hx
    obtain ⟨q,hq,rfl⟩:=hse x hx
    have:=zep hok hq
    omega
   have hgn2:0≤(nth s.locks i).gone∧(nth s.locks i).gone≤(nth ws i).path.length:=by rw[hw,hpa.1];omega
   have hl1:(nth ws i).path.length≤1000:=by rw[hw];omega
   have hl2:(nth ws i).over.length≤1000:=by rw[hw];omega
   have hl3:(nth ws i).asks.length≤1000:=by rw[hw];omega
   have hget:=hg.get (.sl 4 (ws.map Way.c)) hx.1 hx.2
   have hln:=hg.len (.sl 4 (ws.map Way.c)) hx.1 hx.2
   have hh:=fun C=>held_ac3 hH hM G hg.eq p s ws C (nth s.locks i) (nth ws i) H A t hgn2 hl1 hl2 hse2 hx.1 hx.2
   have hH1:(zbl (nth s.locks i).id (zbw (nth ws i) (nth s.locks i)) H t).1.length=100:=by rw[zeF];exact hx.1
   have hiw:i<ws.length:=by omega
   revert hh hgo hH1
   generalize zbl (nth s.locks i).id (zbw (nth ws i) (nth s.locks i)) H t=HT
   intro hgo hh hH1
   have hget':=hg.get (.sl 4 (ws.map Way.c)) hH1 hx.2
   have hln':=hg.len (.sl 4 (ws.map Way.c)) hH1 hx.2
   have ha:=fun C=>asks_ac3 hH hM G hg.eq p s ws C (nth s.locks i) (nth ws i) HT.1 A HT.2 hl3 hap hH1 hx.2
   have hA1:∀ C,(zd1 (nth s.locks i) C (zb1 (nth ws i) (nth s.locks i)) A HT.2).1.length=100:=fun C=>by rw[zeP];exact hx.2
   (have hX:=zA @hbd (zA @hget (zA @hln (zA @hget' (zA @hln' @stGg.eq_1))));(repeat' first|refine zaa [0,1,2,3,4,5,6,7,9,10,11,34,43,45,46,47,48,58,59,60,61] fun K hK=>?_|(refine hK.go ?_;clear hK K)|with_reducible exact wT|refine wA ?_|(refine wB (fun h=>?_) (fun h=>?_)<;>first|exact wN h|subst (h:(_:Bool)=_)|skip)|(refine wQ ?_;clear hQ hR hE hM)|(refine zdS 30 (hh C) (by omega) (by first|omega|exact wF|((refine no_implicit_lambda% (st ?_);try with_reducible exact wT);omega)) ?_;try (refine no_implicit_lambda% (st ?_);try with_reducible exact wT))|(refine zdS 30 (ha C) (by omega) (by first|omega|exact wF|((refine no_implicit_lambda% (st ?_);try with_reducible exact wT);omega)) ?_;try (refine no_implicit_lambda% (st ?_);try with_reducible exact wT))|fail);all_goals clear hX)
   exact ⟨(i+1,HT.1,_,_),by dsimp only;omega,⟨by dsimp only;omega,⟨hH1,hA1 _⟩,hgo⟩,by dsimp only;omega,rfl,rfl⟩
  ·rw[List.drop_eq_nil_of_le (by assumption),zdu]at hgo
   have hln:=hg.len (.sl 4 (ws.map Way.c)) hx.1 hx.2
   have hsg:=hg.sg (.sl 4 (ws.map Way.c)) hx.1 hx.2
   have hov:=hg.ov (.sl 4 (ws.map Way.c)) (.sl 4 (ws.map Way.c)) hx.1 hx.2 hx.1 hx.2
   have hba:=hba H A
   have hsn:=hg.sn H A (ws.map Way.c)
   (have hX:=zA @hbd (zA @hln (zA @hsg (zA @hov @hba)));(repeat' first|refine zaa [0,1,2,3,4,5,6,7,9,10,11,34,43,45,46,47,48,58,59,60,61] fun K hK=>?_|(refine hK.go ?_;clear hK K)|with_reducible exact wT|refine wA ?_|(refine wB (fun h=>?_) (fun h=>?_)<;>first|exact wN h|subst (h:(_:Bool)=_)|skip)|(refine wQ ?_;clear hQ hR hE hM)|fail);all_goals clear hX)
   refine hQ _ _ _ (zh5 rfl rfl hln hsg rfl rfl) ?_
   simp only[zdU,zbC,zda,zei,sn_b,hsn]
   rw[←hgo]
end Go.Lev
namespace Go.Lev
open Go.Eng
set_option maxRecDepth 10000
set_option maxHeartbeats 4000000
variable {P:Program} {inv:Nat→Option Nat} {w0:World} {M:Nat→Prop}
def zaM (p:Pln) (s:State):List Int×List Int×Bool:=zdu (zaO p) (zfR [] s.switches) 0 s.locks zcB zcB true
theorem zgB (ws:List WayR) (C:List (Int×Int)):∀ (l:List Lock) (i:Nat) (H A:List Int) (t:Bool),(zdu ws C i l H A t).1.length=H.length∧(zdu ws C i l H A t).2.1.length=A.length
 |[],_,_,_,_=>⟨rfl,rfl⟩
 |l::r,i,H,A,t=>by
  rw[zdu]
  have:=zgB ws C r (i+1) (zbl l.id (zbw (nth ws i) l) H t).1 (zd1 l C (zb1 (nth ws i) l) A (zbl l.id (zbw (nth ws i) l) H t).2).1 (zd1 l C (zb1 (nth ws i) l) A (zbl l.id (zbw (nth ws i) l) H t).2).2
  rw[zeF,zeP]at this
  exact this
def zat (p:Pln) (s:State):Int:=if zbk p=true then (if zal p s=true∧(zaM p s).2.2=true then 0 else 8) else 100
structure GripR where
 hold:List Int
 ask:List Int
 ways:List WayR
 err:Int
def ofR (p:Pln) (s:State):GripR:=if zat p s=0 then ⟨(zaM p s).1,(zaM p s).2.1,zaO p,0⟩ else ⟨zcB,zcB,[],zat p s⟩
theorem zmW (p:Pln) (s:State):(ofR p s).hold.length=100∧(ofR p s).ask.length=100:=by
 unfold ofR
 split
 ·have:=zgB (zaO p) (zfR [] s.switches) s.locks 0 zcB zcB true
  exact ⟨this.1.trans zbd,this.2.trans zbd⟩
 ·exact ⟨zbd,zbd⟩
theorem ofR_err (p:Pln) (s:State):(ofR p s).err=zat p s:=by
 unfold ofR
 split
 ·rename_i h;exact h.symm
 ·rfl
def SmS (s:State):Prop:=s.tracks.length≤1000∧s.switches.length≤1000∧s.locks.length≤1000
theorem zh4 {φ:AF} {σ:AS} {t u l:Nat} {g:List AV} {e:AV} {r:Bool} {n:Int} (h1:za1 φ t=.ptr l 201 0) (h2:zaz σ l=some (.cells g r)) (h3:g.length=201) (hs:List.take 201 g=g) (h4:za1 φ u=e) (h5:e=.n n):zde φ σ [.cell t (some 201),.tmp u]=some (.tup [.agg g,.n n]):=by
 have h:zcp g 0 (some 201)=some (.agg g):=by
  rw[al_s,if_pos (by omega),seg,List.drop_zero,hs]
 subst h5
 simp only[zde,zgW,ares,h1,h4,zcE,h2,h,h3,if_true]
theorem of_pc (hH:HasAll P inv) (hI:HasIds P inv) (p:Pln) (hp:Sm p) (s:State) (hs:SmS s):PC P inv 79 [.agg p.c,.agg s.c] (·=.tup [.agg (gc (ofR p s).hold (ofR p s).ask (.sl 4 ((ofR p s).ways.map Way.c))),.n (ofR p s).err]):=by
 have c0:=zef hH hI p hp
 have hRl:=zmW p s
 have c1:zbk p=true→PC P inv 93 [.agg p.c,.agg s.c] (·=.tup [.agg (gc (if zal p s=true then (zaM p s).1 else zcB) (if zal p s=true then (zaM p s).2.1 else zcB) (.sl 4 ((if zal p s=true then zaO p else []).map Way.c))),.b (zal p s&&(zaM p s).2.2)]):=by
  intro ho
  cases hb:zal p s with
  |true=>simpa [zaM] using grip_ok hH hI p hp s hs ho hb
  |false =>
   simp only[zbk,Bool.and_eq_true]at ho
   simpa using grip_bad hH hI p hp s hs (zgv ho.1) hb
 have hgl:=zgB (zaO p) (zfR [] s.switches) s.locks 0 zcB zcB true
 have hl1:(if zal p s=true then (zaM p s).1 else zcB).length=100:=by
  split
  ·exact hgl.1.trans zbd
  ·exact zbd
 have hl2:(if zal p s=true then (zaM p s).2.1 else zcB).length=100:=by
  split
  ·exact hgl.2.trans zbd
  ·exact zbd
 have hR:ofR p s=if zbk p=true then (if (zal p s&&(zaM p s).2.2)=true then ⟨(if zal p s=true then (zaM p s).1 else zcB),(if zal p s=true then (zaM p s).2.1 else zcB),(if zal p s=true then zaO p else []),0⟩ else ⟨zcB,zcB,[],8⟩) else ⟨zcB,zcB,[],100⟩:=by
  unfold ofR zat
  cases zbk p<;>cases zal p s<;>cases (zaM p s).2.2<;>rfl
 clear hgl
 unfold zdl at c0
 revert hR c1 hl1 hl2 c0 hRl
 generalize ofR p s=R
 generalize (if zal p s=true then (zaM p s).1 else zcB)=H
 generalize (if zal p s=true then (zaM p s).2.1 else zcB)=A
 generalize (if zal p s=true then zaO p else [])=ws
 generalize (zal p s&&(zaM p s).2.2)=t
 generalize zbk p=o
 obtain ⟨G,Z,hg⟩:=zn9
 rw[←hg.eq,←hg.z]
 intro c0 hRl c1 hl1 hl2 hR
 have hfold:=hg.fold
 have hlen0:=hg.len (.s0 4) hg.zl hg.zl
 have hlen:=hg.len (.sl 4 (ws.map Way.c)) hl1 hl2
 have hsg0:=hg.sg (.s0 4) hg.zl hg.zl
 have hsg:=hg.sg (.sl 4 (ws.map Way.c)) hl1 hl2
 have hov0:=hg.ov (.s0 4) (.s0 4) hg.zl hg.zl hg.zl hg.zl
 have hov:=hg.ov (.s0 4) (.sl 4 (ws.map Way.c)) hg.zl hg.zl hl1 hl2
 have hbd0:=hg.bd0 Z Z
 have hba0:=hg.ba0 Z Z
 have hbd:=hg.bd H A (ws.map Way.c)
 have hba:=hg.ba H A (ws.map Way.c)
 have hsn0:=hg.sn0 Z Z
 have hsn:=hg.sn H A (ws.map Way.c)
 cases o with
 |false =>
  rw[if_neg (by simp)]at hR c0
  subst hR
  refine PC.fn hH cd79 fun w0 M Q hM hE hQ hR=>?_;dsimp only[cd79,qm,ql,qf,qi,qb,qc,qp,qv,qN,qT,qF,qt]at hQ ⊢
  (have hX:=zA @hfold (zA @hlen0 (zA @hsg0 (zA @hov0 (zA @hbd0 @hba0))));(repeat' first|refine zaa [0,1,2,3,4,5,6,7,8,12,22] fun K hK=>?_|(refine hK.go ?_;clear hK K)|with_reducible exact wT|refine wA ?_|(refine wB (fun h=>?_) (fun h=>?_)<;>first|exact wN h|subst (h:(_:Bool)=_)|skip)|(refine wQ ?_;clear hQ hR hE hM)|refine wC c0 ?_|fail);all_goals clear hX)
  all_goals first|(exfalso;contradiction)|skip
  all_goals (refine hQ _ _ _ (zh4 rfl rfl hlen0 hsg0 rfl rfl) ?_;simp only[zdU,zbC,zda,zei,sn_i,hsn0];rfl)
 |true =>
  rw[if_pos rfl]at hR c0
  have c1:=c1 rfl
  cases t with
  |false =>
   rw[if_neg (by simp)]at hR
   subst hR
   refine PC.fn hH cd79 fun w0 M Q hM hE hQ hR=>?_;dsimp only[cd79,qm,ql,qf,qi,qb,qc,qp,qv,qN,qT,qF,qt]at hQ ⊢
   (have hX:=zA @hfold (zA @hlen0 (zA @hsg0 (zA @hov0 (zA @hbd0 (zA @hba0 (zA @hlen (zA @hov (zA @hbd @hba))))))));(repeat' first|refine zaa [0,1,2,3,4,5,6,7,8,12,22] fun K hK=>?_|(refine hK.go ?_;clear hK K)|with_reducible exact wT|refine wA ?_|(refine wB (fun h=>?_) (fun h=>?_)<;>first|exact wN h|subst (h:(_:Bool)=_)|skip)|(refine wQ ?_;clear hQ hR hE hM)|refine wC c0 ?_|refine wC c1 ?_|fail);all_goals clear hX)
   all_goals first|(exfalso;contradiction)|skip
   all_goals (refine hQ _ _ _ (zh4 rfl rfl hlen0 hsg0 rfl rfl) ?_;simp only[zdU,zbC,zda,zei,sn_i,hsn0];rfl)
  |true =>
   rw[if_pos rfl]at hR
   subst hR
   refine PC.fn hH cd79 fun w0 M Q hM hE hQ hR=>?_;dsimp only[cd79,qm,ql,qf,qi,qb,qc,qp,qv,qN,qT,qF,qt]at hQ ⊢
   (have hX:=zA @hfold (zA @hlen0 (zA @hsg0 (zA @hov0 (zA @hbd0 (zA @hba0 (zA @hlen (zA @hov (zA @hbd (zA @hba @hsg)))))))));(repeat' first|refine zaa [0,1,2,3,4,5,6,7,8,12,22] fun K hK=>?_|(refine hK.go ?_;clear hK K)|with_reducible exact wT|refine wA ?_|(refine wB (fun h=>?_) (fun h=>?_)<;>first|exact wN h|subst (h:(_:Bool)=_)|skip)|(refine wQ ?_;clear hQ hR hE hM)|refine wC c0 ?_|refine wC c1 ?_|fail);all_goals clear hX)
   all_goals first|(exfalso;contradiction)|skip
   all_goals (refine hQ _ _ _ (zh4 rfl rfl hlen hsg rfl rfl) ?_;simp only[zdU,zbC,zda,zei,sn_i,hsn])
end Go.Lev
namespace Go.Lev
open Go.Eng
set_option maxRecDepth 10000
set_option maxHeartbeats 4000000
variable {P:Program} {inv:Nat→Option Nat} {w0:World} {M:Nat→Prop}
theorem idx_any {α:Type} (q:α→Bool) (l:List α):decide (0≤zcc q 0 l)=l.any q:=by
 have:∀ (l:List α) (k:Int),0≤k→(decide (0≤zcc q k l)=l.any q):=by
  intro l
  induction l with
  |nil=>intro k _;simp[zcc]
  |cons x r ih =>
   intro k hk
   rw[zcc,List.any_cons]
   cases h:q x with
   |true=>simp[hk]
   |false=>simpa using ih (k+1) (by omega)
 exact this l 0 (Int.le_refl _)
def isSec (p:Pln) (n:Int):Bool:=p.sections.any fun x=>decide (x.id=n)
def zlI (p:Pln) (n:Int):Bool:=p.points.any fun x=>decide (x.id=n)
def holderR (p:Pln) (s:State) (n:Int):Int×Int:=if zat p s=0 then (if isSec p n=true then (nth (zaM p s).1 n.toNat,0) else (0,6)) else (0,zat p s)
def askedR (p:Pln) (s:State) (n:Int):Int×Int:=if zat p s=0 then (if zlI p n=true then (nth (zaM p s).2.1 n.toNat,0) else (0,6)) else (0,zat p s)
theorem za7 {p:Pln} {s:State} (h:zat p s=0):OkP p:=by
 unfold zat at h
 split at h
 ·rename_i ho
  simp only[zbk,Bool.and_eq_true]at ho
  exact zgv ho.1
 ·cases h
theorem GC.get1 {G:List Int→List Int→AV→List AV} {Z:List Int} (hg:GC G Z) {H A:List Int} (W:AV) (h:H.length=100) {i:Nat} (hi:i<100):(G H A W)[i]?=some (.n (nth H i)):=by rw[hg.eq];exact znt h hi
theorem GC.get2 {G:List Int→List Int→AV→List AV} {Z:List Int} (hg:GC G Z) {H A:List Int} (W:AV) (h:H.length=100) (h':A.length=100) {i:Nat} (hi:i<100):(G H A W)[100+i]?=some (.n (nth A i)):=by rw[hg.eq];exact gc_get2 h h' hi
end Go.Lev
namespace Go.Lev
open Go.Eng
set_option maxRecDepth 10000
set_option maxHeartbeats 4000000
variable {P:Program} {inv:Nat→Option Nat}
theorem sSame_pc (hH:HasAll P inv) (a b:State) (h1:a.tracks.length≤1000000) (h2:a.switches.length≤1000000) (h3:a.locks.length≤1000000):PC P inv 11 [.agg a.c,.agg b.c] (·=.b (decide (a=b))):=by
 refine PC.fn hH cd11 fun w0 M Q hM hE hQ hR=>?_;dsimp only[cd11,qm,ql,qf,qi,qb,qc,qp,qv,qN,qT,qF,qt]at hQ ⊢
 (repeat' first|refine zaa [0,1,2,3,4] fun K hK=>?_|(refine hK.go ?_;clear hK K)|with_reducible exact wT|refine wA ?_|(refine wB (fun h=>?_) (fun h=>?_)<;>first|exact wN h|subst (h:(_:Bool)=_)|skip)|(refine wQ ?_;clear hQ hR hE hM)|(refine zao hM (zia hH _ _ (by omega)) ?_;try (refine no_implicit_lambda% (st ?_);try with_reducible exact wT))|(refine zao hM (zg7 hH _ _ (by omega)) ?_;try (refine no_implicit_lambda% (st ?_);try with_reducible exact wT))|(refine zao hM (zi9 hH _ _ (by omega)) ?_;try (refine no_implicit_lambda% (st ?_);try with_reducible exact wT))|fail)
 all_goals (grind[zjw])
def kept (a b:State):Bool:=zaI keptSw a.switches b.switches&&zaI keptLk a.locks b.locks
end Go.Lev
namespace Go.Lev
open Go.Eng
set_option maxRecDepth 10000
set_option maxHeartbeats 4000000
variable {P:Program} {inv:Nat→Option Nat}
theorem sTwin_po (hH:HasAll P inv) (s:State) (h1:s.tracks.length≤1000000) (h2:s.switches.length≤1000000) (h3:s.locks.length≤1000000):PO P inv 9 [.agg s.c] (.agg [.sm 2 (s.tracks.length*2) 0 s.tracks.length 2,.sm 3 (s.switches.length*3) 0 s.switches.length 3,.sm 4 (s.locks.length*4) 0 s.locks.length 4])
  [(2,.cells (s.tracks.map Track.c).flatten (decide (0<s.tracks.length))),(3,.cells (s.switches.map Switch.c).flatten (decide (0<s.switches.length))),(4,.cells (s.locks.map Lock.c).flatten (decide (0<s.locks.length)))]:=by
 have c1:=zic hH s.tracks h1
 have c2:=zg8 hH s.switches h2
 have c3:=zjj hH s.locks h3
 refine PO.fn hH cd9 fun w0 M Q hM hE hQ hR=>?_;dsimp only[cd9,qm,ql,qf,qi,qb,qc,qp,qv,qN,qT,qF,qt]at hQ ⊢
 (repeat' first|refine zaa [0,1,2,11] fun K hK=>?_|(refine hK.go ?_;clear hK K)|with_reducible exact wT|refine wA ?_|(refine wB (fun h=>?_) (fun h=>?_)<;>first|exact wN h|subst (h:(_:Bool)=_)|skip)|(refine wR ?_;clear hQ hR hE hM)|refine wO c1 ?_|refine wO c2 ?_|refine wO c3 ?_|fail)
 left
 constructor
 ·(refine no_implicit_lambda% (st ?_);try with_reducible exact wT)
 ·(refine no_implicit_lambda% (st ?_);try with_reducible exact wT)
end Go.Lev
namespace Go.Lev
open Go.Eng
set_option maxRecDepth 10000
set_option maxHeartbeats 4000000
variable {P:Program} {inv:Nat→Option Nat} {w0:World} {M:Nat→Prop}
def stV (s:State):AV:=.agg [.sm 2 (s.tracks.length*2) 0 s.tracks.length 2,.sm 3 (s.switches.length*3) 0 s.switches.length 3,.sm 4 (s.locks.length*4) 0 s.locks.length 4]
def stR (s:State):List (Nat×AO):=[(2,.cells (s.tracks.map Track.c).flatten (decide (0<s.tracks.length))),(3,.cells (s.switches.map Switch.c).flatten (decide (0<s.switches.length))),(4,.cells (s.locks.map Lock.c).flatten (decide (0<s.locks.length)))]
def stVb (b:Nat) (s:State):AV:=.agg [.sm b (s.tracks.length*2) 0 s.tracks.length 2,.sm (b+1) (s.switches.length*3) 0 s.switches.length 3,.sm (b+2) (s.locks.length*4) 0 s.locks.length 4]
def stRb (b:Nat) (s:State):List (Nat×AO):=[(b,.cells (s.tracks.map Track.c).flatten (decide (0<s.tracks.length))),(b+1,.cells (s.switches.map Switch.c).flatten (decide (0<s.switches.length))),(b+2,.cells (s.locks.map Lock.c).flatten (decide (0<s.locks.length)))]
theorem zis (b:Nat) (s:State):zdm 4 (stRb b s) (stVb b s)=.agg s.c:=by
 have h1:(b+1=b)=False:=by simp
 have h2:(b+2=b)=False:=by simp
 have h3:(b+2=b+1)=False:=by simp
 unfold stRb stVb
 simp -dsimp -implicitDefEqProofs (disch:=omega) only[go_sem,reduceIte,↓reduceIte,Nat.reduceEqDiff,Nat.reduceLT,Nat.reduceLeDiff,Nat.reduceAdd,Nat.reduceSub,Nat.reduceMul,Int.reduceToNat,Int.reduceLT,Int.reduceLE,Int.reduceEq,Int.reduceNeg,Int.reduceNe,reduceCtorEq,h1,h2,h3,if_false]
theorem zll (b:Nat) (s:State) (e:Int):zdm 4 (stRb b s) (.tup [stVb b s,.n e])=.tup [.agg s.c,.n e]:=by
 rw[zdU,zbC,zbC,zda,zis,sn_i]
theorem zmB (hH:HasAll P inv) (s:State) (hs:SmS s):PO P inv 9 [.agg s.c] (stV s) (stR s):=by
 have:=hs.1
 have:=hs.2.1
 have:=hs.2.2
 exact sTwin_po hH s (by omega) (by omega) (by omega)
def State.z:State:=⟨[],[],[]⟩
def atS (p:Pln):State:=⟨p.sections.map fun x=>⟨x.id,2⟩,p.points.map fun x=>⟨x.id,0,0⟩,p.routes.map fun x=>⟨x.id,0,0,0⟩⟩
def atR (p:Pln):State:=if zbk p=true then atS p else State.z
theorem sAt_po (hH:HasAll P inv) (hI:HasIds P inv) (p:Pln) (hp:Sm p) (ho:zbk p=true):PO P inv 65 [.agg p.c] (.tup [stV (atS p),.n 0]) (stR (atS p)):=by
 have c0:=zef hH hI p hp
 rw[show zdl p=0 by unfold zdl;rw[if_pos ho]]at c0
 have h1:=hp.sec
 have h2:=hp.pts
 have h3:=hp.rte
 refine PO.fn hH cd65 fun w0 M Q hM hE hQ hR=>?_;dsimp only[cd65,qm,ql,qf,qi,qb,qc,qp,qv,qN,qT,qF,qt]at hQ ⊢
 (repeat' first|refine zaa [0,1,2,3,5,7,9,13,15,16,17,18,31,32,33,34,47,48,49,50] fun K hK=>?_|(refine hK.go ?_;clear hK K)|with_reducible exact wT|refine wA ?_|(refine wB (fun h=>?_) (fun h=>?_)<;>first|exact wN h|subst (h:(_:Bool)=_)|skip)|(refine wR ?_;clear hQ hR hE hM)|refine wC c0 ?_|fail)
 all_goals first|(exfalso;contradiction)|skip
 refine zcW 1 0 2 2 rfl rfl (Nat.zero_le _) (by (refine no_implicit_lambda% (st ?_);try with_reducible exact wT)) (by (refine no_implicit_lambda% (st ?_);try with_reducible exact wT)) ?_
 refine zcW 1 1 3 3 rfl rfl (Nat.zero_le _) (by (refine no_implicit_lambda% (st ?_);try with_reducible exact wT)) (by (refine no_implicit_lambda% (st ?_);try with_reducible exact wT)) ?_
 refine zcW 1 2 4 4 rfl rfl (Nat.zero_le _) (by (refine no_implicit_lambda% (st ?_);try with_reducible exact wT)) (by (refine no_implicit_lambda% (st ?_);try with_reducible exact wT)) ?_
 (refine no_implicit_lambda% (st ?_);try with_reducible exact wT)
 refine zar (ι:=Nat×(List Track)) [1,2,3,15,16,17] (fun z=>[(17,.n z.1)]) (fun z=>[(1,.cells [.sm 2 (z.2.length*2) 0 z.2.length 2,.sm 3 0 0 0 3,.sm 4 0 0 0 4] true),(2,.cells (z.2.map Track.c).flatten (decide (0<z.2.length)))]) (fun z=>z.1) (p.sections.length) (fun z=>(z.2.length=z.1)∧(z.2++(p.sections.drop z.1).map (fun x=>(⟨x.id,2⟩:Track))=(atS p).tracks)) (0,([]:List Track)) ?_;rintro ⟨k,ts⟩ ⟨hk,hl,hg⟩;(try dsimp only at hk hl hg ⊢);rcases Nat.lt_or_ge k p.sections.length with hlt|hge
 ·rw[zaf hlt,List.map_cons]at hg
  (repeat' first|refine zaa [0,1,2,3,5,7,9,13,15,16,17,18,31,32,33,34,47,48,49,50] fun K hK=>?_|(refine hK.go ?_;clear hK K)|with_reducible exact wT|refine wA ?_|(refine wB (fun h=>?_) (fun h=>?_)<;>first|exact wN h|subst (h:(_:Bool)=_)|skip)|(refine wR ?_;clear hQ hR hE hM)|fail)
  exact nY (k+1,ts++[⟨(nth p.sections k).id,2⟩]) ⟨by (try dsimp only);omega,by (try dsimp only);simp[hl],by (try dsimp only);rw[←hg];simp⟩
 ·rw[List.drop_eq_nil_of_le hge,List.map_nil,List.append_nil]at hg
  (repeat' first|refine zaa [0,1,2,3,5,7,9,13,15,16,17,18,31,32,33,34,47,48,49,50] fun K hK=>?_|(refine hK.go ?_;clear hK K)|with_reducible exact wT|refine wA ?_|(refine wB (fun h=>?_) (fun h=>?_)<;>first|exact wN h|subst (h:(_:Bool)=_)|skip)|(refine wR ?_;clear hQ hR hE hM)|fail)
  refine zar (ι:=Nat×(List Switch)) [1,2,3,31,32,33] (fun z=>[(33,.n z.1)]) (fun z=>[(1,.cells [.sm 2 (ts.length*2) 0 ts.length 2,.sm 3 (z.2.length*3) 0 z.2.length 3,.sm 4 0 0 0 4] true),(3,.cells (z.2.map Switch.c).flatten (decide (0<z.2.length)))]) (fun z=>z.1) (p.points.length) (fun z=>(z.2.length=z.1)∧(z.2++(p.points.drop z.1).map (fun x=>(⟨x.id,0,0⟩:Switch))=(atS p).switches)) (0,([]:List Switch)) ?_;rintro ⟨k2,ss⟩ ⟨hk,hl2,hg2⟩;(try dsimp only at hk hl2 hg2 ⊢);rcases Nat.lt_or_ge k2 p.points.length with hlt|hge
  ·rw[zaf (by assumption),List.map_cons]at hg2
   (repeat' first|refine zaa [0,1,2,3,5,7,9,13,15,16,17,18,31,32,33,34,47,48,49,50] fun K hK=>?_|(refine hK.go ?_;clear hK K)|with_reducible exact wT|refine wA ?_|(refine wB (fun h=>?_) (fun h=>?_)<;>first|exact wN h|subst (h:(_:Bool)=_)|skip)|(refine wR ?_;clear hQ hR hE hM)|fail)
   exact nY (k2+1,ss++[⟨(nth p.points k2).id,0,0⟩]) ⟨by (try dsimp only);omega,by (try dsimp only);simp[hl2],by (try dsimp only);rw[←hg2];simp⟩
  ·rw[List.drop_eq_nil_of_le (by assumption),List.map_nil,List.append_nil]at hg2
   (repeat' first|refine zaa [0,1,2,3,5,7,9,13,15,16,17,18,31,32,33,34,47,48,49,50] fun K hK=>?_|(refine hK.go ?_;clear hK K)|with_reducible exact wT|refine wA ?_|(refine wB (fun h=>?_) (fun h=>?_)<;>first|exact wN h|subst (h:(_:Bool)=_)|skip)|(refine wR ?_;clear hQ hR hE hM)|fail)
   refine zar (ι:=Nat×(List Lock)) [2,3,47,48,49] (fun z=>[(49,.n z.1)]) (fun z=>[(1,.cells [.sm 2 (ts.length*2) 0 ts.length 2,.sm 3 (ss.length*3) 0 ss.length 3,.sm 4 (z.2.length*4) 0 z.2.length 4] true),(4,.cells (z.2.map Lock.c).flatten (decide (0<z.2.length)))]) (fun z=>z.1) (p.routes.length) (fun z=>(z.2.length=z.1)∧(z.2++(p.routes.drop z.1).map (fun x=>(⟨x.id,0,0,0⟩:Lock))=(atS p).locks)) (0,([]:List Lock)) ?_;rintro ⟨k3,ls⟩ ⟨hk,hl3,hg3⟩;(try dsimp only at hk hl3 hg3 ⊢);rcases Nat.lt_or_ge k3 p.routes.length with hlt|hge
   ·rw[zaf (by assumption),List.map_cons]at hg3
    (repeat' first|refine zaa [0,1,2,3,5,7,9,13,15,16,17,18,31,32,33,34,47,48,49,50] fun K hK=>?_|(refine hK.go ?_;clear hK K)|with_reducible exact wT|refine wA ?_|(refine wB (fun h=>?_) (fun h=>?_)<;>first|exact wN h|subst (h:(_:Bool)=_)|skip)|(refine wR ?_;clear hQ hR hE hM)|fail)
    exact nY (k3+1,ls++[⟨(nth p.routes k3).id,0,0,0⟩]) ⟨by (try dsimp only);omega,by (try dsimp only);simp[hl3],by (try dsimp only);rw[←hg3];simp⟩
   ·rw[List.drop_eq_nil_of_le (by assumption),List.map_nil,List.append_nil]at hg3
    (repeat' first|refine zaa [0,1,2,3,5,7,9,13,15,16,17,18,31,32,33,34,47,48,49,50] fun K hK=>?_|(refine hK.go ?_;clear hK K)|with_reducible exact wT|refine wA ?_|(refine wB (fun h=>?_) (fun h=>?_)<;>first|exact wN h|subst (h:(_:Bool)=_)|skip)|(refine wR ?_;clear hQ hR hE hM)|fail)
    left
    unfold stV stR
    rw[←hg,←hg2,←hg3]
    constructor
    ·(refine no_implicit_lambda% (st ?_);try with_reducible exact wT)
    ·(refine no_implicit_lambda% (st ?_);try with_reducible exact wT)
end Go.Lev
namespace Go.Lev
open Go.Eng
set_option maxRecDepth 10000
set_option maxHeartbeats 4000000
variable {P:Program} {inv:Nat→Option Nat} {w0:World} {M:Nat→Prop}
section upd
variable {α:Type} [Inhabited α]
def zhB (f:Nat→α→α) (k:Nat) (l:List α):List α:=(l.mapIdx f).take k++l.drop k
theorem zdC (f:Nat→α→α) (k:Nat) (l:List α):(zhB f k l).length=l.length:=by simp[zhB];omega
theorem zmf (f:Nat→α→α) (l:List α):zhB f 0 l=l:=by simp[zhB]
theorem zkA (f:Nat→α→α) {k:Nat} {l:List α} (h:l.length≤k):zhB f k l=l.mapIdx f:=by
 unfold zhB
 rw[List.take_of_length_le (by simpa using h),List.drop_eq_nil_of_le h,List.append_nil]
theorem zfK (f:Nat→α→α) {k:Nat} {l:List α} (h:k<l.length):nth (zhB f k l) k=nth l k:=by
 rw[zaW (by rw[zdC];exact h),zaW h]
 unfold zhB
 rw[List.getElem_append_right (by simp;omega)]
 simp[Nat.min_eq_left (Nat.le_of_lt h)]
theorem zkz (f:Nat→α→α) {k:Nat} {l:List α} (h:k<l.length):(zhB f k l).set k (f k (nth l k))=zhB f (k+1) l:=by
 unfold zhB
 rw[List.set_append_right _ _ (by simp;omega),List.length_take,List.length_mapIdx,Nat.min_eq_left (Nat.le_of_lt h),Nat.sub_self,zaf h,List.set_cons_zero]
 rw[show (l.mapIdx f).take (k+1)=(l.mapIdx f).take k++[f k (nth l k)] by
  rw[List.take_succ_eq_append_getElem (by simpa using h),List.getElem_mapIdx,zaW h]]
 simp
attribute [go_sem] zmf zdC
end upd
def imgT (_:Nat) (t:Track):Track:=⟨t.id,2⟩
def imgW (_:Nat) (x:Switch):Switch:=⟨x.id,0,x.call⟩
def imgK (p:Pln) (i:Nat) (l:Lock):Lock:=if 0<l.left then ⟨l.id,l.phase,l.gone,(nth p.routes i).timer⟩ else l
def imgS (p:Pln) (s:State):State:=⟨s.tracks.mapIdx imgT,s.switches.mapIdx imgW,s.locks.mapIdx (imgK p)⟩
theorem zaD {p:Pln} {s:State} (h:zal p s=true):s.tracks.length=p.sections.length∧s.switches.length=p.points.length∧s.locks.length=p.routes.length:=by
 simp only[zal,Bool.and_eq_true]at h
 exact ⟨zbx h.1,zbx h.2.1,zbx h.2.2⟩
theorem zam {p:Pln} {s:State} (h:zat p s=0):zbk p=true∧zal p s=true∧(zaM p s).2.2=true:=by
 unfold zat at h
 split at h
 ·rename_i h1
  split at h
  ·rename_i h2;exact ⟨h1,h2⟩
  ·cases h
 ·cases h
def imageR (p:Pln) (s:State):State:=if zat p s=0 then imgS p s else State.z
end Go.Lev
namespace Go.Lev
open Go.Eng
abbrev WL:=WayR×Lock
def hdl (z:WL):List Int:=zbw z.1 z.2
def asl (z:WL):List AskR:=(zb1 z.1 z.2).filter (zdz z.2)
theorem zhn (n:Int) (hn:n≠0):∀ (l H:List Int) (t:Bool),H.length=100→(∀ s∈l,0≤s∧s≤99) →
  ((zbl n l H t).2=true↔t=true∧(∀ s∈l,nth H s.toNat=0)∧l.Nodup) ∧
  ((zbl n l H t).2=true→(∀ s∈l,nth (zbl n l H t).1 s.toNat=n)∧∀ k:Nat,(∀ s∈l,s.toNat≠k)→nth (zbl n l H t).1 k=nth H k)
 |[],H,t,_,_=>by simp[zbl]
 |s::r,H,t,hH,hs=>by
  rw[zbl]
  have h0:=hs s (by simp)
  split
  ·rename_i hc
   obtain ⟨rfl,hc⟩:=hc
   have ih:=zhn n hn r (H.set s.toNat n) true (by simpa using hH) fun x hx=>hs x (by simp[hx])
   have key:(∀ x∈r,nth (H.set s.toNat n) x.toNat=0)↔(∀ x∈r,nth H x.toNat=0)∧s∉r:=by
    constructor
    ·intro h
     have hne:∀ x∈r,x≠s:=fun x hx e=>by
      have:=h x hx
      rw[e,zbp _ _ _ _ (by omega),if_pos rfl]at this
      exact hn this
     refine ⟨fun x hx=>?_,fun hx=>hne s hx rfl⟩
     have h1:=h x hx
     have h2:=hs x (by simp[hx])
     rw[zbp _ _ _ _ (by omega),if_neg (by have:=hne x hx;omega)]at h1
     exact h1
    ·rintro ⟨h1,h2⟩ x hx
     have h3:=hs x (by simp[hx])
     rw[zbp _ _ _ _ (by omega),if_neg (fun e=>h2 (by rw[show s=x by omega];exact hx))]
     exact h1 x hx
   refine ⟨?_, ?_⟩
   ·rw[ih.1,key]
    simp only[List.mem_cons,forall_eq_or_imp,List.nodup_cons,true_and]
    constructor
    ·rintro ⟨⟨h1,h2⟩,h3⟩;exact ⟨⟨hc,h1⟩,h2,h3⟩
    ·rintro ⟨⟨_,h1⟩,h2,h3⟩;exact ⟨⟨h1,h2⟩,h3⟩
   ·intro ht
    have h2:=ih.2 ht
    have h3:=(ih.1.1 ht).2
    rw[key]at h3
    refine ⟨fun x hx=>?_,fun k hk=>?_⟩
    ·rcases List.mem_cons.1 hx with rfl|hx
     ·rw[h2.2 _ (fun y hy e=>h3.1.2 (by have:=hs y (by simp[hy]);rw[show x=y by omega];exact hy)),zbp _ _ _ _ (by omega),if_pos rfl]
     ·exact h2.1 x hx
    ·rw[h2.2 k fun y hy=>hk y (by simp[hy]),zbp _ _ _ _ (by omega),if_neg (fun e=>hk s (by simp) e.symm)]
  ·rename_i hc
   refine ⟨?_,fun h=>by cases h⟩
   simp only[Bool.false_eq_true,false_iff,not_and]
   intro ht h1
   exact absurd ⟨ht,h1 s (by simp)⟩ hc
theorem zeO (l:Lock) (C:List (Int×Int)):∀ (q:List AskR) (A:List Int) (t:Bool),A.length=100→(∀ a∈q,0≤a.pnt∧a.pnt≤99) →
  ((zd1 l C q A t).2=true↔t=true∧∀ a∈q.filter (zdz l),zeR C a.pnt=a.lie) ∧
  ((zd1 l C q A t).2=true→(∀ a∈q.filter (zdz l),nth (zd1 l C q A t).1 a.pnt.toNat=a.lie)∧∀ k:Nat,(∀ a∈q.filter (zdz l),a.pnt.toNat≠k)→nth (zd1 l C q A t).1 k=nth A k)
 |[],A,t,_,_=>by simp[zd1]
 |a::r,A,t,hA,hs=>by
  rw[zd1]
  have h0:=hs a (by simp)
  by_cases ho:zdz l a=true
  ·rw[if_pos ho,List.filter_cons_of_pos ho]
   split
   ·rename_i hc
    obtain ⟨rfl,hc⟩:=hc
    have ih:=zeO l C r (A.set a.pnt.toNat a.lie) true (by simpa using hA) fun x hx=>hs x (by simp[hx])
    refine ⟨?_, ?_⟩
    ·rw[ih.1]
     simp only[List.mem_cons,forall_eq_or_imp,true_and]
     exact ⟨fun h=>⟨hc,h⟩,fun h=>h.2⟩
    ·intro ht
     have h2:=ih.2 ht
     have h3:=(ih.1.1 ht).2
     refine ⟨fun x hx=>?_,fun k hk=>?_⟩
     ·rcases List.mem_cons.1 hx with rfl|hx
      ·rcases Classical.em (∃ y∈r.filter (zdz l),y.pnt.toNat=x.pnt.toNat) with ⟨y,hy,e⟩|h4
       ·have h5:=hs y (by simp[(List.mem_filter.1 hy).1])
        have h6:=h2.1 y hy
        rw[e]at h6
        rw[h6,←h3 y hy,←hc,show y.pnt=x.pnt by omega]
       ·rw[h2.2 _ (fun y hy e=>h4 ⟨y,hy,e⟩),zbp _ _ _ _ (by omega),if_pos rfl]
      ·exact h2.1 x hx
     ·rw[h2.2 k fun y hy=>hk y (by simp[hy]),zbp _ _ _ _ (by omega),if_neg (fun e=>hk a (by simp) e.symm)]
   ·rename_i hc
    refine ⟨?_,fun h=>by cases h⟩
    simp only[Bool.false_eq_true,false_iff,not_and]
    intro ht h1
    exact absurd ⟨ht,h1 a (by simp)⟩ hc
  ·rw[if_neg ho,List.filter_cons_of_neg ho]
   exact zeO l C r A t hA fun x hx=>hs x (by simp[hx])
def zd9 (C:List (Int×Int)):List WL→List Int→List Int→Bool→List Int×List Int×Bool
 |[],H,A,t=>(H,A,t)
 |z::r,H,A,t=>zd9 C r (zbl z.2.id (zbw z.1 z.2) H t).1 (zd1 z.2 C (zb1 z.1 z.2) A (zbl z.2.id (zbw z.1 z.2) H t).2).1 (zd1 z.2 C (zb1 z.1 z.2) A (zbl z.2.id (zbw z.1 z.2) H t).2).2
theorem zno (ws:List WayR) (C:List (Int×Int)):∀ (l:List Lock) (i:Nat) (H A:List Int) (t:Bool),i+l.length=ws.length→zdu ws C i l H A t=zd9 C ((ws.drop i).zip l) H A t
 |[],i,H,A,t,_=>by rw[zdu,List.zip_nil_right,zd9]
 |x::r,i,H,A,t,h=>by
  simp only[List.length_cons]at h
  rw[zdu,zaf (show i<ws.length by omega),List.zip_cons_cons,zd9,zno ws C r (i+1) _ _ _ (by omega)]
structure ZOk (Z:List WL):Prop where
 id:∀ z∈Z,z.2.id≠0
 sec:∀ z∈Z,∀ n∈hdl z,0≤n∧n≤99
 pnt:∀ z∈Z,∀ a∈zb1 z.1 z.2,0≤a.pnt∧a.pnt≤99
theorem zj8 (C:List (Int×Int)):∀ (Z:List WL) (H A:List Int),(zd9 C Z H A false).2.2=false
 |[],H,A=>rfl
 |z::r,H,A=>by
  rw[zd9]
  have h1:(zbl z.2.id (zbw z.1 z.2) H false).2=false:=by
   cases zbw z.1 z.2 with
   |nil=>rfl
   |cons s q=>rw[zbl,if_neg (by simp)]
  have h2:∀ q:List AskR,(zd1 z.2 C q A false).2=false:=by
   intro q
   induction q with
   |nil=>rfl
   |cons a q ih =>
    rw[zd1]
    split
    ·rw[if_neg (by simp)]
    ·exact ih
  rw[h1,h2]
  exact zj8 C r _ _
theorem zdK (C:List (Int×Int)):∀ (Z:List WL) (H A:List Int),ZOk Z→H.length=100→A.length=100 →
  ((zd9 C Z H A true).2.2=true↔(∀ z∈Z,(∀ n∈hdl z,nth H n.toNat=0)∧(hdl z).Nodup∧∀ a∈asl z,zeR C a.pnt=a.lie)∧Z.Pairwise fun z z'=>∀ n∈hdl z,n∉hdl z') ∧
  ((zd9 C Z H A true).2.2=true→(∀ z∈Z,(∀ n∈hdl z,nth (zd9 C Z H A true).1 n.toNat=z.2.id)∧∀ a∈asl z,nth (zd9 C Z H A true).2.1 a.pnt.toNat=a.lie) ∧
   (∀ k:Nat,(∀ z∈Z,∀ n∈hdl z,n.toNat≠k)→nth (zd9 C Z H A true).1 k=nth H k)∧(∀ k:Nat,(∀ z∈Z,∀ a∈asl z,a.pnt.toNat≠k)→nth (zd9 C Z H A true).2.1 k=nth A k))
 |[],H,A,_,_,_=>by simp[zd9]
 |z::r,H,A,hZ,hH,hA=>by
  have hZr:ZOk r:=⟨fun y hy=>hZ.id y (by simp[hy]),fun y hy=>hZ.sec y (by simp[hy]),fun y hy=>hZ.pnt y (by simp[hy])⟩
  have hs:=zhn z.2.id (hZ.id z (by simp)) (zbw z.1 z.2) H true hH (hZ.sec z (by simp))
  have hse:∀ n∈hdl z,0≤n∧n≤99:=hZ.sec z (by simp)
  have hlen:=zeF z.2.id (zbw z.1 z.2) H true
  rw[zd9]
  rw[show zbw z.1 z.2=hdl z from rfl]at hs hlen ⊢
  revert hs hlen
  generalize zbl z.2.id (hdl z) H true=HT
  intro hs hlen
  cases ht:HT.2 with
  |false =>
   have hf:(zd1 z.2 C (zb1 z.1 z.2) A false).2=false:=by
    have:=(zeO z.2 C (zb1 z.1 z.2) A false hA (hZ.pnt z (by simp))).1
    cases h:(zd1 z.2 C (zb1 z.1 z.2) A false).2 with
    |false=>rfl
    |true=>have:=(this.1 h).1;cases this
   rw[hf,zj8]
   refine ⟨?_,fun h=>by cases h⟩
   simp only[Bool.false_eq_true,false_iff,not_and]
   intro h1 _
   have h2:=h1 z (by simp)
   have h3:=hs.1.2 ⟨rfl,h2.1,h2.2.1⟩
   rw[ht]at h3
   cases h3
  |true =>
   have hs1:=(hs.1.1 ht).2
   have hs2:=hs.2 ht
   have ha:=zeO z.2 C (zb1 z.1 z.2) A true hA (hZ.pnt z (by simp))
   have hpn:=hZ.pnt z (by simp)
   have halen:=zeP z.2 C (zb1 z.1 z.2) A true
   rw[show (zb1 z.1 z.2).filter (zdz z.2)=asl z from rfl]at ha
   revert ha halen
   generalize zd1 z.2 C (zb1 z.1 z.2) A true=AT
   intro ha halen
   cases hat:AT.2 with
   |false =>
    rw[zj8]
    refine ⟨?_,fun h=>by cases h⟩
    simp only[Bool.false_eq_true,false_iff,not_and]
    intro h1 _
    have h3:=ha.1.2 ⟨rfl,(h1 z (by simp)).2.2⟩
    rw[hat]at h3
    cases h3
   |true =>
    have ha1:=(ha.1.1 hat).2
    have ha2:=ha.2 hat
    have ih:=zdK C r HT.1 AT.1 hZr (by omega) (by omega)
    have key:∀ y∈r,((∀ n∈hdl y,nth HT.1 n.toNat=0)↔(∀ n∈hdl y,nth H n.toNat=0)∧∀ n∈hdl z,n∉hdl y):=by
     intro y hy
     constructor
     ·intro h
      have hne:∀ n∈hdl z,n∉hdl y:=fun n hn hny=>by
       have:=h n hny
       rw[hs2.1 n hn]at this
       exact hZ.id z (by simp) this
      refine ⟨fun n hn=>?_,hne⟩
      have:=h n hn
      rw[hs2.2 _ (fun m hm e=>hne m hm (by have:=hse m hm;have:=hZ.sec y (by simp[hy]) n hn;rw[show m=n by omega];exact hn))]at this
      exact this
     ·rintro ⟨h1,h2⟩ n hn
      rw[hs2.2 _ (fun m hm e=>h2 m hm (by have:=hse m hm;have:=hZ.sec y (by simp[hy]) n hn;rw[show m=n by omega];exact hn))]
      exact h1 n hn
    refine ⟨?_, ?_⟩
    ·rw[ih.1]
     simp only[List.mem_cons,forall_eq_or_imp,List.pairwise_cons]
     constructor
     ·rintro ⟨h1,h2⟩
      refine ⟨⟨⟨hs1.1,hs1.2,ha1⟩,fun y hy=>⟨((key y hy).1 (h1 y hy).1).1,(h1 y hy).2⟩⟩,fun y hy=>((key y hy).1 (h1 y hy).1).2,h2⟩
     ·rintro ⟨⟨_,h1⟩,h3,h2⟩
      exact ⟨fun y hy=>⟨(key y hy).2 ⟨(h1 y hy).1,h3 y hy⟩,(h1 y hy).2⟩,h2⟩
    ·intro hg
     have h1:=ih.2 hg
     have h2:=ih.1.1 hg
     refine ⟨?_, ?_, ?_⟩
     ·intro y hy
      rcases List.mem_cons.1 hy with rfl|hy
      ·refine ⟨fun n hn=>?_,fun a haa=>?_⟩
       ·rw[h1.2.1 n.toNat fun x hx m hm e=>?_]
        ·exact hs2.1 n hn
        ·have h5:=((key x hx).1 (h2.1 x hx).1).2 n hn
         have:=hse n hn
         have:=hZ.sec x (by simp[hx]) m hm
         exact h5 (by rw[show n=m by omega];exact hm)
       ·have hpa:=hpn a (List.mem_filter.1 haa).1
        rcases Classical.em (∃ x∈r,∃ b∈asl x,b.pnt.toNat=a.pnt.toNat) with ⟨x,hx,b,hb,e⟩|h4
        ·have hpb:=hZ.pnt x (by simp[hx]) b (List.mem_filter.1 hb).1
         rw[←e,(h1.1 x hx).2 b hb,←(h2.1 x hx).2.2 b hb,←ha1 a haa,show b.pnt=a.pnt by omega]
        ·rw[h1.2.2 _ fun x hx b hb e=>h4 ⟨x,hx,b,hb,e⟩]
         exact ha2.1 a haa
      ·exact h1.1 y hy
     ·intro k hk
      rw[h1.2.1 k fun y hy=>hk y (by simp[hy])]
      exact hs2.2 k fun n hn=>hk z (by simp) n hn
     ·intro k hk
      rw[h1.2.2 k fun y hy=>hk y (by simp[hy])]
      exact ha2.2 k fun a haa=>hk z (by simp) a haa
end Go.Lev
namespace Go.Lev
open Go.Eng
theorem zeA (C:List (Int×Int)) (k v k':Int):zeR (zjY C k v) k'=if k'=k then v else zeR C k':=by
 induction C with
 |nil=>simp[zjY,zeR]
 |cons q r ih =>
  rw[zjY]
  split
  ·rename_i h;subst h;simp only[zeR];split<;>rfl
  ·rename_i h
   simp only[zeR,ih]
   by_cases h1:k'=q.1
   ·rw[if_pos h1,if_pos h1,if_neg (by omega)]
   ·rw[if_neg h1,if_neg h1]
theorem zhl:∀ (l:List Switch) (C:List (Int×Int)) (k:Int),(∀ x∈l,x.id≠k)→zeR (zfR C l) k=zeR C k
 |[],_,_,_=>rfl
 |x::r,C,k,h=>by
  rw[zfR,zhl r _ k fun y hy=>h y (by simp[hy]),zeA,if_neg (fun e=>h x (by simp) e.symm)]
theorem zj0:∀ (l:List Switch) (C:List (Int×Int)),(l.map Switch.id).Nodup→∀ x∈l,zeR (zfR C l) x.id=x.call
 |[],_,_,x,h=>by cases h
 |y::r,C,hn,x,hx=>by
  simp only[List.map_cons,List.nodup_cons]at hn
  rw[zfR]
  rcases List.mem_cons.1 hx with rfl|hx
  ·rw[zhl r _ _ fun z hz e=>hn.1 (by rw[←e];exact List.mem_map_of_mem hz),zeA,if_pos rfl]
  ·exact zj0 r _ hn.2 x hx
def zco (s:State) (n:Int):Int:=zeR (zfR [] s.switches) n
def zof (p:Pln) (s:State):List WL:=(zaO p).zip s.locks
theorem zdB {α β:Type} {q:α→β→Bool} {f:α→Int} {g:β→Int} (hq:∀ x y,q x y=true→f x=g y):∀ {a:List α} {b:List β},zaI q a b=true→a.map f=b.map g
 |[],[],_=>rfl
 |[],_::_,h=>by simp[zaI]at h
 |_::_,[],h=>by simp[zaI]at h
 |x::xs,y::ys,h=>by
  simp only[zaI,Bool.and_eq_true]at h
  simp only[List.map_cons,zdB hq h.2,hq x y h.1]
theorem trk_ids {p:Pln} {s:State} (h:zal p s=true):s.tracks.map Track.id=p.sections.map Section.id:=by
 simp only[zal,Bool.and_eq_true]at h
 exact zdB (fun x y h=>by simp only[zin,Bool.and_eq_true,decide_eq_true_eq]at h;exact h.1) h.1
theorem zdk {p:Pln} {s:State} (h:zal p s=true):s.switches.map Switch.id=p.points.map Pnt.id:=by
 simp only[zal,Bool.and_eq_true]at h
 exact zdB (fun x y h=>by simp only[zio,Bool.and_eq_true,decide_eq_true_eq]at h;exact h.1) h.2.1
theorem zna {p:Pln} {s:State} (h:zal p s=true):s.locks.map Lock.id=p.routes.map Rte.id:=by
 simp only[zal,Bool.and_eq_true]at h
 exact zdB (fun x y h=>by simp only[zeB,Bool.and_eq_true,decide_eq_true_eq]at h;exact h.1) h.2.2
theorem zdo {p:Pln} (h:OkP p):(p.points.map Pnt.id).Nodup:=by
 have hp:=h.pts
 simp only[points,Bool.and_eq_true]at hp
 exact zhL hp.1
theorem ziG {p:Pln} (h:OkP p):(p.routes.map Rte.id).Nodup:=zhL h.rise
theorem zmA {p:Pln} (h:OkP p):(p.sections.map Section.id).Nodup:=zhX (secIds h.sec)
theorem ziF {p:Pln} (h:OkP p) {r:Rte} (hr:r∈p.routes):1≤r.id∧r.id≤99:=((zfO _ _).1 h.rise).1 r.id (List.mem_map_of_mem hr)
theorem zbo {p:Pln} (h:zbk p=true):OkP p∧(∀ r∈p.routes,(zag p r).2.2=0)∧∀ r∈p.routes,zcx p r=true:=by
 simp only[zbk,Bool.and_eq_true]at h
 refine ⟨zgv h.1,fun r hr=>?_,fun r hr=>?_⟩
 ·simpa using (List.all_eq_true.1 h.2.1) r hr
 ·exact (List.all_eq_true.1 h.2.2) r hr
theorem znR {p:Pln} {s:State} (ho:OkP p) (h:zal p s=true) {x:Switch} (hx:x∈s.switches):zco s x.id=x.call :=
 zj0 _ _ (by rw[zdk h];exact zdo ho) x hx
theorem zeS {p:Pln} {s:State} (h:zal p s=true) {z:WL} (hz:z∈zof p s):∃ i,∃ r∈p.routes,i<p.routes.length∧nth p.routes i=r∧nth s.locks i=z.2∧z.2∈s.locks∧z.1=(zag p r).1∧zeB z.2 r=true:=by
 have hl:=zaD h
 simp only[zal,Bool.and_eq_true]at h
 obtain ⟨i,hi,e⟩:=List.mem_iff_getElem.1 hz
 have hi1:i<p.routes.length:=by simp only[zof,List.length_zip,zaO,List.length_map]at hi;omega
 have hi2:i<s.locks.length:=by omega
 have e1:z.1=(zag p (nth p.routes i)).1:=by
  rw[←e];simp[zof,zaO,zaW hi1]
 have e2:nth s.locks i=z.2:=by
  rw[←e];simp[zof,zaW hi2]
 refine ⟨i,nth p.routes i,zak hi1,hi1,rfl,e2,by rw[←e2];exact zak hi2,e1, ?_⟩
 rw[←e2]
 exact zec h.2.2 hi2
theorem zof_at {p:Pln} {s:State} (h:zal p s=true) {i:Nat} (hi:i<p.routes.length):((zag p (nth p.routes i)).1,nth s.locks i)∈zof p s:=by
 have hl:=zaD h
 have hi2:i<s.locks.length:=by omega
 rw[List.mem_iff_getElem]
 refine ⟨i,by simp[zof,zaO];omega, ?_⟩
 simp[zof,zaO,zaW hi,zaW hi2]
theorem zkx {p:Pln} {s:State} (ho:zbk p=true) (h:zal p s=true):ZOk (zof p s):=by
 obtain ⟨hok,hw,_⟩:=zbo ho
 refine ⟨fun z hz=>?_,fun z hz n hn=>?_,fun z hz a ha=>?_⟩
 ·obtain ⟨i,r,hr,_,_,_,_,_,hl⟩:=zeS h hz
  simp only[zeB,Bool.and_eq_true,decide_eq_true_eq]at hl
  have:=ziF hok hr
  omega
 ·obtain ⟨i,r,hr,_,_,_,_,e,hl⟩:=zeS h hz
  have hp:=zcF (hw r hr)
  unfold hdl zbw at hn
  split at hn
  ·simp at hn
  ·have h1:n∈r.path++r.over:=by
    rw[e,hp.1,hp.2.1]at hn
    rcases List.mem_append.1 hn with h2|h2
    ·exact List.mem_append.2 (.inl (List.mem_of_mem_drop h2))
    ·exact List.mem_append.2 (.inr h2)
   obtain ⟨q,hq,rfl⟩:=(zer hok hr).1 n h1
   have:=zep hok hq
   omega
 ·obtain ⟨i,r,hr,_,_,_,_,e,hl⟩:=zeS h hz
  unfold zb1 at ha
  split at ha
  ·simp at ha
  ·rw[e]at ha
   have:=zbt hok hr ha
   omega
theorem znn {p:Pln} {s:State} (ho:zbk p=true) (h:zal p s=true) {z:WL} (hz:z∈zof p s):(hdl z).Nodup:=by
 obtain ⟨hok,hw,_⟩:=zbo ho
 obtain ⟨i,r,hr,_,_,_,_,e,_⟩:=zeS h hz
 have hp:=zcF (hw r hr)
 unfold hdl zbw
 split
 ·simp
 ·rw[e,hp.1,hp.2.1]
  have:=(zer hok hr).2
  exact List.Nodup.sublist (List.Sublist.append (List.drop_sublist _ _) (List.Sublist.refl _)) this
theorem zj7 {p:Pln} {s:State} (h:zal p s=true):zaM p s=zd9 (zfR [] s.switches) (zof p s) zcB zcB true:=by
 unfold zaM zof
 rw[zno _ _ _ _ _ _ _ (by have:=zaD h;simp[zaO];omega),List.drop_zero]
theorem zhz (k:Nat):nth zcB k=0:=by
 rcases Nat.lt_or_ge k 100 with h|h
 ·exact zgy _ _ _ h
 ·unfold zcB nth;rw[getElem!_neg _ _ (by simp;omega)];rfl
def zkw (Z:List WL):Prop:=Z.Pairwise fun z z'=>∀ n∈hdl z,n∉hdl z'
def zle (s:State) (Z:List WL):Prop:=∀ z∈Z,∀ a∈asl z,zco s a.pnt=a.lie
theorem zeW (p:Pln) (s:State):zat p s=0↔zbk p=true∧zal p s=true∧zkw (zof p s)∧zle s (zof p s):=by
 constructor
 ·intro h
  obtain ⟨h1,h2,h3⟩:=zam h
  rw[zj7 h2]at h3
  have:=((zdK _ _ _ _ (zkx h1 h2) zbd zbd).1).1 h3
  exact ⟨h1,h2,this.2,fun z hz a ha=>(this.1 z hz).2.2 a ha⟩
 ·rintro ⟨h1,h2,h3,h4⟩
  unfold zat
  have h5:(zaM p s).2.2=true:=by
   rw[zj7 h2]
   exact ((zdK _ _ _ _ (zkx h1 h2) zbd zbd).1).2 ⟨fun z hz=>⟨fun n _=>zhz _,znn h1 h2 hz,h4 z hz⟩,h3⟩
  rw[if_pos h1,if_pos ⟨h2,h5⟩]
section
variable {p:Pln} {s:State} (h:zat p s=0)
include h
theorem zgA:(∀ z∈zof p s,(∀ n∈hdl z,nth (zaM p s).1 n.toNat=z.2.id)∧∀ a∈asl z,nth (zaM p s).2.1 a.pnt.toNat=a.lie) ∧
  (∀ k:Nat,(∀ z∈zof p s,∀ n∈hdl z,n.toNat≠k)→nth (zaM p s).1 k=0)∧(∀ k:Nat,(∀ z∈zof p s,∀ a∈asl z,a.pnt.toNat≠k)→nth (zaM p s).2.1 k=0):=by
 obtain ⟨h1,h2,h3⟩:=zam h
 rw[zj7 h2]at h3 ⊢
 have:=(zdK _ _ _ _ (zkx h1 h2) zbd zbd).2 h3
 refine ⟨this.1,fun k hk=>?_,fun k hk=>?_⟩
 ·rw[this.2.1 k hk];exact zhz k
 ·rw[this.2.2 k hk];exact zhz k
theorem zj6 {z:WL} (hz:z∈zof p s) {n:Int} (hn:n∈hdl z):nth (zaM p s).1 n.toNat=z.2.id:=((zgA h).1 z hz).1 n hn
theorem hold_no {n:Int} (h0:0≤n) (hn:∀ z∈zof p s,n∉hdl z):nth (zaM p s).1 n.toNat=0:=(zgA h).2.1 _ fun z hz m hm e=>by
 have:=(zkx (zam h).1 (zam h).2.1).sec z hz m hm
 exact hn z hz (by rw[show n=m by omega];exact hm)
theorem zlL {n:Int} (h0:0≤n):(∃ z∈zof p s,n∈hdl z∧nth (zaM p s).1 n.toNat=z.2.id)∨((∀ z∈zof p s,n∉hdl z)∧nth (zaM p s).1 n.toNat=0):=by
 rcases Classical.em (∃ z∈zof p s,n∈hdl z) with ⟨z,hz,hn⟩|h1
 ·exact .inl ⟨z,hz,hn,zj6 h hz hn⟩
 ·exact .inr ⟨fun z hz hn=>h1 ⟨z,hz,hn⟩,hold_no h h0 fun z hz hn=>h1 ⟨z,hz,hn⟩⟩
theorem ask_at {z:WL} (hz:z∈zof p s) {a:AskR} (ha:a∈asl z):nth (zaM p s).2.1 a.pnt.toNat=a.lie:=((zgA h).1 z hz).2 a ha
end
end Go.Lev
namespace Go.Lev
open Go.Eng
set_option maxRecDepth 10000
set_option maxHeartbeats 4000000
variable {P:Program} {inv:Nat→Option Nat} {w0:World} {M:Nat→Prop}
def minK (n:Int):Int:=if 1000<n then 1000 else n
def sumS:Int→List Section→Int
 |t,[]=>t
 |t,s::r=>sumS (t+minK s.ends.length) r
def sumR:Int→List Rte→Int
 |t,[]=>t
 |t,r::l=>sumR (t+minK r.path.length+minK r.over.length+minK r.flanks.length) l
def zcR (p:Pln):Bool:=decide (100<(p.sections.length:Int))||(decide (100<(p.points.length:Int))||(decide (100<(p.signals.length:Int))||decide (100<(p.routes.length:Int))))
def zi0 (p:Pln):Bool:=zcR p||decide (1000<sumR (sumS 0 p.sections) p.routes)
theorem zkV (n:Nat):0≤minK n∧minK n≤1000:=by unfold minK;split<;>omega
theorem ziZ (hH:HasAll P inv) (p:Pln):PC P inv 71 [.agg p.c] (·=.b (zi0 p)):=by
 unfold zi0
 cases hg0:zcR p with
 |true =>
  rw[Bool.true_or]
  refine PC.fn hH cd71 fun w0 M Q hM hE hQ hR=>?_;dsimp only[cd71,qm,ql,qf,qi,qb,qc,qp,qv,qN,qT,qF,qt]at hQ ⊢
  (repeat' first|refine zaa [0,1,2,3,4,5,27,32,49] fun K hK=>?_|(refine hK.go ?_;clear hK K)|with_reducible exact wT|refine wA ?_|(refine wB (fun h=>?_) (fun h=>?_)<;>first|exact wN h|subst (h:(_:Bool)=_)|skip)|(refine wQ ?_;clear hQ hR hE hM)|fail)
  all_goals first|rfl|(exfalso;simp[zcR]at hg0;omega)
 |false =>
  rw[Bool.false_or]
  have hb:p.sections.length≤100∧p.points.length≤100∧p.signals.length≤100∧p.routes.length≤100:=by
   simp[zcR]at hg0;omega
  refine PC.fn hH cd71 fun w0 M Q hM hE hQ hR=>?_;dsimp only[cd71,qm,ql,qf,qi,qb,qc,qp,qv,qN,qT,qF,qt]at hQ ⊢
  (repeat' first|refine zaa [0,1,2,3,4,5,27,32,49] fun K hK=>?_|(refine hK.go ?_;clear hK K)|with_reducible exact wT|refine wA ?_|(refine wB (fun h=>?_) (fun h=>?_)<;>first|exact wN h|subst (h:(_:Bool)=_)|skip)|(refine wQ ?_;clear hQ hR hE hM)|fail)
  all_goals first|(exfalso;omega)|skip
  refine zar (ι:=Nat×Int) [1,2,3,4] (fun z=>[(3,.n z.2),(4,.n z.1)]) (fun _=>[]) (fun z=>z.1) (p.sections.length) (fun z=>(0≤z.2∧z.2≤1000*z.1)∧(sumS z.2 (p.sections.drop z.1)=sumS 0 p.sections)) (0,0) ?_;rintro ⟨k,t⟩ ⟨hk,ht,hg⟩;(try dsimp only at hk ht hg ⊢);rcases Nat.lt_or_ge k p.sections.length with hlt|hge
  ·rw[zaf hlt]at hg
   rw[sumS]at hg
   have hm:=zkV (nth p.sections k).ends.length
   unfold minK at hg hm
   (repeat' first|refine zaa [0,1,2,3,4,5,27,32,49] fun K hK=>?_|(refine hK.go ?_;clear hK K)|with_reducible exact wT|refine wA ?_|(refine wB (fun h=>?_) (fun h=>?_)<;>first|exact wN h|subst (h:(_:Bool)=_)|skip)|(refine wQ ?_;clear hQ hR hE hM)|fail)
   exact nY (k+1,_) ⟨by (try dsimp only);omega,by (try dsimp only);omega,hg⟩
  ·rw[List.drop_eq_nil_of_le hge,sumS]at hg
   (repeat' first|refine zaa [0,1,2,3,4,5,27,32,49] fun K hK=>?_|(refine hK.go ?_;clear hK K)|with_reducible exact wT|refine wA ?_|(refine wB (fun h=>?_) (fun h=>?_)<;>first|exact wN h|subst (h:(_:Bool)=_)|skip)|(refine wQ ?_;clear hQ hR hE hM)|fail)
   refine zar (ι:=Nat×Int) [1,2,3,5] (fun z=>[(3,.n z.2),(5,.n z.1)]) (fun _=>[]) (fun z=>z.1) (p.routes.length) (fun z=>(0≤z.2∧z.2≤100000+3000*z.1)∧(sumR z.2 (p.routes.drop z.1)=sumR t p.routes)) (0,t) ?_;rintro ⟨k2,u⟩ ⟨hk,hu,hg2⟩;(try dsimp only at hk hu hg2 ⊢);rcases Nat.lt_or_ge k2 p.routes.length with hlt|hge
   ·rw[zaf (by assumption),sumR]at hg2
    have hm1:=zkV (nth p.routes k2).path.length
    have hm2:=zkV (nth p.routes k2).over.length
    have hm3:=zkV (nth p.routes k2).flanks.length
    unfold minK at hg2 hm1 hm2 hm3
    (repeat' first|refine zaa [0,1,2,3,4,5,27,32,49] fun K hK=>?_|(refine hK.go ?_;clear hK K)|with_reducible exact wT|refine wA ?_|(refine wB (fun h=>?_) (fun h=>?_)<;>first|exact wN h|subst (h:(_:Bool)=_)|skip)|(refine wQ ?_;clear hQ hR hE hM)|fail)
    exact nY (k2+1,_) ⟨by (try dsimp only);omega,by (try dsimp only);omega,hg2⟩
   ·rw[List.drop_eq_nil_of_le (by assumption),sumR]at hg2
    (repeat' first|refine zaa [0,1,2,3,4,5,27,32,49] fun K hK=>?_|(refine hK.go ?_;clear hK K)|with_reducible exact wT|refine wA ?_|(refine wB (fun h=>?_) (fun h=>?_)<;>first|exact wN h|subst (h:(_:Bool)=_)|skip)|(refine wQ ?_;clear hQ hR hE hM)|fail)
    rw[hg2,hg]
theorem sm_of {p:Pln} (hp:Pln.ok p) (hg:zi0 p=false):Sm p:=by
 have h1:zcR p=false:=by
  unfold zi0 at hg
  simp only[Bool.or_eq_false_iff]at hg
  exact hg.1
 have hb:p.sections.length≤100∧p.points.length≤100∧p.signals.length≤100∧p.routes.length≤100:=by
  simp[zcR]at h1;omega
 obtain ⟨_,_,h3,h4,h5,h6⟩:=hp
 refine ⟨by omega,fun s hs=>?_,by omega,by omega,by omega,fun r hr=>?_⟩
 ·have:=(h3.2 s hs).2.2.1
  exact Nat.le_trans this (by decide)
 ·have:=h6.2 r hr
  exact ⟨Nat.le_trans this.2.2.2.1.1 (by decide),Nat.le_trans this.2.2.2.2.1.1 (by decide),Nat.le_trans this.2.2.2.2.2.1.1 (by decide)⟩
theorem smS_of {s:State} (h:zi1 s=false):SmS s:=by
 unfold zi1 at h;unfold SmS;simp at h;omega
end Go.Lev
namespace Go.Lev
open Go.Eng
set_option maxRecDepth 10000
set_option maxHeartbeats 4000000
variable {P:Program} {inv:Nat→Option Nat} {w0:World} {M:Nat→Prop}
def zbN {α:Type} (f:α→Int) (n:Int) (g:α→α) (l:List α):List α:=l.map fun x=>if f x=n then g x else x
theorem zkB {α:Type} [Inhabited α] (f:α→Int) (n:Int) (g:α→α):∀ {l:List α},(l.map f).Nodup→∀ {k:Nat},k<l.length→f (nth l k)=n→l.set k (g (nth l k))=zbN f n g l
 |[],_,k,h,_=>by simp at h
 |x::r,hn,0,_,e=>by
  simp only[List.map_cons,List.nodup_cons]at hn
  have e:f x=n:=e
  unfold zbN
  rw[List.set_cons_zero,List.map_cons,if_pos e]
  congr 1
  symm
  refine (List.map_congr_left fun y hy=>?_).trans (List.map_id r)
  rw[if_neg (fun h=>hn.1 (by rw[e,←h];exact List.mem_map_of_mem hy))]
  rfl
 |x::r,hn,k+1,h,e=>by
  simp only[List.map_cons,List.nodup_cons]at hn
  have hk:k<r.length:=by simpa using h
  have e:f (nth r k)=n:=e
  have ih:=zkB f n g hn.2 hk e
  unfold zbN at ih ⊢
  rw[List.set_cons_succ,List.map_cons,if_neg (fun h=>hn.1 (by rw[h,←e];exact List.mem_map_of_mem (zak hk)))]
  exact congrArg (x::·) ih
theorem zcu {α:Type} (f:α→Int) (n:Int) (g:α→α) (l:List α):(zbN f n g l).length=l.length:=by simp[zbN]
theorem zca {α:Type} [Inhabited α] (f:α→Int) (n:Int) (l:List α):(zcc (fun x=>decide (f x=n)) 0 l=-1∧∀ x∈l,f x≠n)∨∃ i:Nat,i<l.length∧zcc (fun x=>decide (f x=n)) 0 l=(i:Int)∧f (nth l i)=n:=by
 rcases zbF (fun x:α=>decide (f x=n)) l 0 with ⟨h1,h2⟩|⟨i,h1,h2,h3⟩
 ·exact .inl ⟨h1,znB h2⟩
 ·exact .inr ⟨i,h1,by omega,(zdv (f:=f) h3).2⟩
end Go.Lev
namespace Go.Lev
open Go.Eng
set_option maxRecDepth 10000
set_option maxHeartbeats 4000000
variable {P:Program} {inv:Nat→Option Nat} {w0:World} {M:Nat→Prop}
def setT (s:State) (n v:Int):State:=⟨zbN Track.id n (fun t=>⟨t.id,v⟩) s.tracks,s.switches,s.locks⟩
def setL (s:State) (n v:Int):State:=⟨s.tracks,zbN Switch.id n (fun t=>⟨t.id,v,t.call⟩) s.switches,s.locks⟩
def isTrk (s:State) (n:Int):Prop:=∃ t∈s.tracks,t.id=n
def isSwt (s:State) (n:Int):Prop:=∃ t∈s.switches,t.id=n
instance (s:State) (n:Int):Decidable (isTrk s n):=by unfold isTrk;infer_instance
instance (s:State) (n:Int):Decidable (isSwt s n):=by unfold isSwt;infer_instance
def secCode (p:Pln) (s:State) (n v:Int):Int:=if zat p s=0 then (if isTrk s n then (if v=0∨v=1 then 0 else 2) else 6) else zat p s
def detCode (p:Pln) (s:State) (n v:Int):Int:=if zat p s=0 then (if isSwt s n then (if 0≤v∧v≤2 then 0 else 2) else 6) else zat p s
def secR (p:Pln) (s:State) (n v:Int):State:=if secCode p s n v=0 then setT s n v else State.z
def detR (p:Pln) (s:State) (n v:Int):State:=if detCode p s n v=0 then setL s n v else State.z
end Go.Lev
namespace Go.Lev
open Go.Eng
theorem zeU {α β:Type} [Inhabited α] [Inhabited β] (q:α→β→Bool):∀ (a:List α) (b:List β),zaI q a b=true↔a.length=b.length∧∀ i,i<a.length→q (nth a i) (nth b i)=true
 |[],[]=>by simp[zaI]
 |[],_::_=>by simp[zaI]
 |_::_,[]=>by simp[zaI]
 |x::xs,y::ys=>by
  simp only[zaI,Bool.and_eq_true,zeU q xs ys,List.length_cons,Nat.add_right_cancel_iff]
  constructor
  ·rintro ⟨h1,h2,h3⟩
   refine ⟨h2,fun i hi=>?_⟩
   cases i with
   |zero=>exact h1
   |succ i=>exact h3 i (by omega)
  ·rintro ⟨h2,h3⟩
   exact ⟨h3 0 (by omega),h2,fun i hi=>h3 (i+1) (by omega)⟩
theorem znb {p:Pln} {s:State} (h:zal p s=true) {i:Nat} (hi:i<s.locks.length):zeB (nth s.locks i) (nth p.routes i)=true:=by
 simp only[zal,Bool.and_eq_true]at h
 exact zec h.2.2 hi
theorem zhC {α:Type} (f:α→Int) (n:Int) (g:α→α) (hg:∀ x,f (g x)=f x) (l:List α):(zbN f n g l).map f=l.map f:=by
 unfold zbN
 rw[List.map_map]
 refine List.map_congr_left fun x _=>?_
 simp only[Function.comp]
 split
 ·exact hg x
 ·rfl
theorem zim {α:Type} (f:α→Int) {n m:Int} (hnm:n≠m) (g h:α→α) (hg:∀ x,f (g x)=f x) (hh:∀ x,f (h x)=f x) (l:List α):zbN f m h (zbN f n g l)=zbN f n g (zbN f m h l):=by
 unfold zbN
 rw[List.map_map,List.map_map]
 refine List.map_congr_left fun x _=>?_
 simp only[Function.comp]
 by_cases e:f x=n
 ·have e':¬f x=m:=fun e'=>hnm (e.symm.trans e')
  rw[if_pos e,if_neg e',if_neg (by rw[hg];exact e'),if_pos e]
 ·rw[if_neg e]
  by_cases e':f x=m
  ·rw[if_pos e',if_neg (by rw[hh];exact e)]
  ·rw[if_neg e',if_neg e]
end Go.Lev
namespace Go.Lev
open Go.Eng
theorem ofW_at {p:Pln} {s:State} (h:zat p s=0) {i:Nat} (hi:i<s.locks.length):ofW p (nth s.locks i).id=((zag p (nth p.routes i)).1,0):=by
 obtain ⟨h1,h2,_⟩:=zam h
 obtain ⟨hok,hw,_⟩:=zbo h1
 have hl:=zaD h2
 have hr:nth p.routes i∈p.routes:=zak (by omega)
 have hl2:=znb h2 hi
 simp only[zeB,Bool.and_eq_true,decide_eq_true_eq]at hl2
 have hp:zb8 p=true:=by simp only[zbk,Bool.and_eq_true]at h1;exact h1.1
 unfold ofW
 rw[if_pos hp,hl2.1,zkc Rte.id (ziG hok) hr]
 dsimp only
 rw[hw _ hr]
theorem zfd {p:Pln} {s:State} (h:zat p s=0) {i j:Nat} (hi:i<s.locks.length) (hj:j<s.locks.length) (e:(nth s.locks i).id=(nth s.locks j).id):i=j:=by
 obtain ⟨h1,h2,_⟩:=zam h
 have hn:(s.locks.map Lock.id).Nodup:=by rw[zna h2];exact ziG (zbo h1).1
 have:=(List.nodup_iff_pairwise_ne.1 hn)
 rcases Nat.lt_trichotomy i j with hlt|he|hlt
 ·have:=List.pairwise_iff_getElem.1 this i j (by simpa using hi) (by simpa using hj) hlt
  simp only[List.getElem_map]at this
  rw[←zaW hi,←zaW hj]at this
  exact absurd e this
 ·exact he
 ·have:=List.pairwise_iff_getElem.1 this j i (by simpa using hj) (by simpa using hi) hlt
  simp only[List.getElem_map]at this
  rw[←zaW hi,←zaW hj]at this
  exact absurd e.symm this
theorem zj1 {p:Pln} {s:State} (h:zat p s=0) {i:Nat} (hi:i<s.locks.length):1≤(nth s.locks i).id∧(nth s.locks i).id≤99:=by
 obtain ⟨h1,h2,_⟩:=zam h
 have hl:=zaD h2
 have hl2:=znb h2 hi
 simp only[zeB,Bool.and_eq_true,decide_eq_true_eq]at hl2
 rw[hl2.1]
 exact ziF (zbo h1).1 (zak (by omega))
def zl9 (p:Pln) (s:State) (i:Nat):List Int:=zbw (zag p (nth p.routes i)).1 (nth s.locks i)
def znZ (p:Pln) (s:State) (i:Nat):List AskR:=(zb1 (zag p (nth p.routes i)).1 (nth s.locks i)).filter (zdz (nth s.locks i))
theorem zik {p:Pln} {s:State} (h:zat p s=0) {z:WL} (hz:z∈zof p s):∃ i,i<s.locks.length∧z=((zag p (nth p.routes i)).1,nth s.locks i):=by
 have h2:=(zam h).2.1
 have hl:=zaD h2
 obtain ⟨i,r,hr,hi,e1,e2,_,e3,_⟩:=zeS h2 hz
 refine ⟨i,by omega, ?_⟩
 rw[e1,e2,←e3]
theorem zgr {p:Pln} {s:State} (h:zat p s=0) {i:Nat} (hi:i<s.locks.length):((zag p (nth p.routes i)).1,nth s.locks i)∈zof p s:=by
 have h2:=(zam h).2.1
 have hl:=zaD h2
 exact zof_at h2 (by omega)
theorem hold_iff {p:Pln} {s:State} (h:zat p s=0) {i:Nat} (hi:i<s.locks.length) {n:Int} (hn:0≤n):nth (zaM p s).1 n.toNat=(nth s.locks i).id↔n∈zl9 p s i:=by
 constructor
 ·intro e
  rcases zlL h hn with ⟨z,hz,hm,e2⟩|⟨_,e2⟩
  ·obtain ⟨j,hj,rfl⟩:=zik h hz
   rw[e2]at e
   obtain rfl:=zfd h hj hi e
   exact hm
  ·have:=zj1 h hi
   omega
 ·intro hm
  exact zj6 h (zgr h hi) hm
theorem ask_is {p:Pln} {s:State} (h:zat p s=0) {i:Nat} (hi:i<s.locks.length) {a:AskR} (ha:a∈znZ p s i):nth (zaM p s).2.1 a.pnt.toNat=a.lie:=ask_at h (zgr h hi) ha
theorem zm7 {p:Pln} {s:State} (h:zat p s=0) {i:Nat} (hi:i<s.locks.length) {a:AskR} (ha:a∈znZ p s i):a.lie=1∨a.lie=2:=by
 obtain ⟨h1,h2,_⟩:=zam h
 have hl:=zaD h2
 have h3:=(List.mem_filter.1 ha).1
 unfold zb1 at h3
 split at h3
 ·simp at h3
 ·exact (zbt (zbo h1).1 (zak (by omega)) h3).2.2
def pathG (g n:Int):Nat→List Int→Bool
 |_,[]=>false
 |k,x::r=>(decide (x=n)&&decide (g≤k))||pathG g n (k+1) r
end Go.Lev
namespace Go.Eng
mutual
def nz:AV→AV
 |.s0 sz=>.sl sz []
 |.agg cs=>.agg (nzL cs)
 |.tup cs=>.tup (nzL cs)
 |.fn j cs=>.fn j (nzL cs)
 |.sl sz es=>.sl sz (nzR es)
 |.ip sz es i k=>.ip sz (nzR es) i k
 |.i k n=>.i k n
 |.b t=>.b t
 |.v x=>.v x
 |.u=>.u
 |.ptr l ver off=>.ptr l ver off
 |.sm l ver off n sz=>.sm l ver off n sz
 |.mp l=>.mp l
 |.top=>.top
def nzL:List AV→List AV
 |[]=>[]
 |x::xs=>nz x::nzL xs
def nzR:List (List AV)→List (List AV)
 |[]=>[]
 |r::rs=>nzL r::nzR rs
end
theorem zmZ:∀ xs:List AV,(nzL xs).length=xs.length
 |[]=>by simp only[nzL]
 |x::xs=>by simp only[nzL,List.length_cons,zmZ xs]
theorem zjX:∀ xs:List (List AV),(nzR xs).length=xs.length
 |[]=>by simp only[nzR]
 |x::xs=>by simp only[nzR,List.length_cons,zjX xs]
mutual
theorem zjW:∀ x:AV,x.bare=true→(nz x).bare=true
 |.s0 sz,_=>by simp only[nz,AV.bare]
 |.agg cs,h=>by simp only[nz,AV.bare]at h ⊢;exact zfQ cs h
 |.tup cs,h=>by simp only[nz,AV.bare]at h ⊢;exact zfQ cs h
 |.fn j cs,h=>by simp only[nz,AV.bare]at h ⊢;exact zfQ cs h
 |.sl sz es,_=>by simp only[nz,AV.bare]
 |.ip sz es i k,_=>by simp only[nz,AV.bare]
 |.i k n,_=>by simp only[nz,AV.bare]
 |.b t,_=>by simp only[nz,AV.bare]
 |.v x,_=>by simp only[nz,AV.bare]
 |.u,_=>by simp only[nz,AV.bare]
 |.ptr l ver off,h=>by simp only[nz];exact h
 |.sm l ver off n sz,h=>by simp only[nz];exact h
 |.mp l,h=>by simp only[nz];exact h
 |.top,_=>by simp only[nz,AV.bare]
theorem zfQ:∀ xs:List AV,zac xs=true→zac (nzL xs)=true
 |[],_=>by simp only[nzL,zac]
 |x::xs,h=>by
  simp only[zac,Bool.and_eq_true]at h
  simp only[nzL,zac,zjW x h.1,zfQ xs h.2,Bool.and_self]
end
mutual
theorem zkL:∀ (c:Ctx) (x:AV) (y:Value),rel c x y→rel c (nz x) y
 |c,.s0 sz,y,r=>by
  simp only[nz,rel]at r ⊢
  obtain ⟨ad,e⟩:=r
  exact ⟨ad,0,e,Nat.le_refl _,fun h=>absurd rfl h⟩
 |c,.agg cs,y,r=>by
  simp only[nz,rel]at r ⊢
  obtain ⟨xs,e,r⟩:=r
  exact ⟨xs,e,zkO c cs _ r⟩
 |c,.tup cs,y,r=>by
  simp only[nz,rel]at r ⊢
  obtain ⟨xs,e,r⟩:=r
  exact ⟨xs,e,zjP c cs _ r⟩
 |c,.fn j cs,y,r=>by
  simp only[nz,rel]at r ⊢
  obtain ⟨g,xs,e,hi,r⟩:=r
  exact ⟨g,xs,e,hi,zjP c cs _ r⟩
 |c,.sl sz es,y,r=>by
  simp only[nz,rel]at r ⊢
  obtain ⟨ad,cap,e,h,r⟩:=r
  refine ⟨ad,cap,by rw[zjX];exact e,by rw[zjX];exact h,fun hne=>?_⟩
  have hne':es≠[]:=fun e0=>hne (by rw[e0];simp only[nzR])
  obtain ⟨a,e1,h1,h2,h3⟩:=r hne'
  exact ⟨a,e1,h1,h2,ze3 c sz a 0 es h3⟩
 |c,.ip sz es i k,y,r=>by
  simp only[nz,rel]at r ⊢
  obtain ⟨a,e,h1,h2,h3⟩:=r
  exact ⟨a,e,h1,h2,ze3 c sz a 0 es h3⟩
 |c,.i k n,y,r=>by simp only[nz];exact r
 |c,.b t,y,r=>by simp only[nz];exact r
 |c,.v x,y,r=>by simp only[nz];exact r
 |c,.u,y,r=>by simp only[nz];exact r
 |c,.ptr l ver off,y,r=>by simp only[nz];exact r
 |c,.sm l ver off n sz,y,r=>by simp only[nz];exact r
 |c,.mp l,y,r=>by simp only[nz];exact r
 |c,.top,y,r=>by simp only[nz];exact r
theorem zjP:∀ (c:Ctx) (xs:List AV) (ys:List Value),zbq c xs ys→zbq c (nzL xs) ys
 |c,[],ys,r=>by simp only[nzL];exact r
 |c,x::xs,ys,r=>by
  simp only[nzL,zbq]at r ⊢
  obtain ⟨y,ys',e,r1,r2⟩:=r
  exact ⟨y,ys',e,zkL c x y r1,zjP c xs ys' r2⟩
theorem zkO:∀ (c:Ctx) (xs:List AV) (ys:List Value),relCs c xs ys→relCs c (nzL xs) ys
 |c,[],ys,r=>by simp only[nzL];exact r
 |c,x::xs,ys,r=>by
  simp only[nzL,relCs]at r ⊢
  obtain ⟨y,ys',e,ho,r1,r2⟩:=r
  exact ⟨y,ys',e,ho,zkL c x y r1,zkO c xs ys' r2⟩
theorem ziI:∀ (c:Ctx) (a:Addr) (k:Nat) (xs:List AV),zbi c a k xs→zbi c a k (nzL xs)
 |c,a,k,[],r=>by simp only[nzL];exact r
 |c,a,k,x::xs,r=>by
  simp only[nzL,zbi]at r ⊢
  obtain ⟨⟨y,h1,h2,h3,h4⟩,r⟩:=r
  exact ⟨⟨y,h1,h2,zjW x h3,zkL _ x y h4⟩,ziI c a (k+1) xs r⟩
theorem ze3:∀ (c:Ctx) (sz:Nat) (a:Addr) (k:Nat) (es:List (List AV)),zav c sz a k es→zav c sz a k (nzR es)
 |c,sz,a,k,[],r=>by simp only[nzR];exact r
 |c,sz,a,k,x::xs,r=>by
  simp only[nzR,zav]at r ⊢
  exact ⟨by rw[zmZ];exact r.1,ziI c a k x r.2.1,ze3 c sz a (k+sz) xs r.2.2⟩
end
theorem PC.nzr {P:Program} {inv:Nat→Option Nat} {j:Nat} {args:List AV} {r:AV} (h:PC P inv j args (·=r)):PC P inv j args (·=nz r) :=
 fun g hg M w vs hM ha=>(h g hg M w vs hM ha).mono fun _ _ ⟨v,r',e,h1,h2,h3,h4⟩=>⟨v,nz r',e,by rw[h1],h2,zjW r' h3,zkL _ r' v h4⟩
attribute [go_sem] nz nzL nzR
end Go.Eng
namespace Go.Eng
open Go.RowKit
section
variable {P:Program} {inv:Nat→Option Nat} {w0:World} {M:Nat→Prop} {n N:Nat} {φ:AF} {σ:AS}
theorem AWp.midP (ks:List Nat) (m:List (Nat×AV)) (A:Prop) {x y:ACode} {Q:Exit→AF→AS→Prop} (h1:AWp P inv w0 M N n x (zmb (midK A (zgE m (zdT ks φ)) σ) Q) φ σ) (h2:A→AWp P inv w0 M N n y Q (zgE m (zdT ks φ)) σ):AWp P inv w0 M N n (.seq x y) Q φ σ :=
 AWp.seq fun K hK=>by
  refine AWp.mono ?_ h1
  intro e φ' σ' q
  cases e with
  |normal=>exact hK _ _ ((h2 q.1).sub q.2.1 q.2.2)
  |exit id=>exact q
  |goto l=>exact q
  |ret=>exact q
  |panic ch=>exact q
  |outgrown=>exact q
end
end Go.Eng
