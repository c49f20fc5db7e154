/-
  A part of the engine that walks the functions' codes, and of the functions' contracts. Conditions: those that each theorem names.
-/
import Derived.Test.YtibpmipffibbpaaGreatQ4
import Derived.IntWalk
set_option linter.unusedSimpArgs false
set_option linter.unusedVariables false
set_option linter.unusedSectionVars false
namespace Go.Lev
open Go.Eng
set_option maxRecDepth 10000
set_option maxHeartbeats 4000000
variable {P:Program} {inv:Nat→Option Nat} {w0:World} {M:Nat→Prop}
def gc (H A:List Int) (W:AV):List AV:=H.map AV.n++(A.map AV.n++[W])
section gc
variable {H A:List Int} {W:AV}
theorem zf0 (h:H.length=100) (h':A.length=100):(gc H A W).length=201:=by simp[gc,h,h']
theorem zoN (h:H.length=100) {i:Nat} (hi:i<100):(gc H A W)[i]?=some (.n (nth H i)):=by
 unfold gc
 rw[List.getElem?_append_left (by simp[h,hi]),ziU (by omega)]
theorem gc_get2 (h:H.length=100) (h':A.length=100) {i:Nat} (hi:i<100):(gc H A W)[100+i]?=some (.n (nth A i)):=by
 unfold gc
 rw[List.getElem?_append_right (by simp[h]),List.length_map,h,show 100+i-100=i by omega,List.getElem?_append_left (by simp[h',hi]),ziU (by omega)]
theorem gc_get3 (h:H.length=100) (h':A.length=100):(gc H A W)[200]?=some W:=by
 unfold gc
 rw[List.getElem?_append_right (by simp[h]),List.length_map,h,List.getElem?_append_right (by simp[h']),List.length_map,h']
 rfl
theorem gc_set1 (h:H.length=100) {i:Nat} (hi:i<100) (x:Int):(gc H A W).set i (.n x)=gc (H.set i x) A W:=by
 unfold gc
 rw[List.set_append_left _ _ (by simp[h,hi]),List.map_set]
theorem gc_set2 (h:H.length=100) (h':A.length=100) {i:Nat} (hi:i<100) (x:Int):(gc H A W).set (100+i) (.n x)=gc H (A.set i x) W:=by
 unfold gc
 rw[List.set_append_right _ _ (by simp[h]),List.length_map,h,show 100+i-100=i by omega,List.set_append_left _ _ (by simp[h',hi]),List.map_set]
theorem gc_set3 (h:H.length=100) (h':A.length=100) (W':AV):(gc H A W).set 200 W'=gc H A W':=by
 unfold gc
 rw[List.set_append_right _ _ (by simp[h]),List.length_map,h,List.set_append_right _ _ (by simp[h']),List.length_map,h']
 rfl
theorem zl8 (h:W.plain=true):zaw (gc H A W)=true:=by
 unfold gc
 rw[zco,zco,zcu,zcu]
 simp[zaw,h]
theorem zoP (h:W.plain=true):zac (gc H A W)=true:=zbE _ (zl8 h)
theorem ze6 (h:W.plain=true):zab (gc H A W)=0:=za4 _ (zoP h)
theorem gc_snap (h:W.plain=true) (k:Nat) (σ:AS):zbw k σ (gc H A W)=gc H A W:=zeI k σ (zl8 h)
end gc
def wsl (ws:List WayR):AV:=.sl 4 (ws.map Way.c)
theorem zeD (ws:List WayR):(wsl ws).plain=true:=rfl
def zbm (w:WayR) (l:Lock):List Int:=if l.phase=0 then [] else w.path.drop l.gone.toNat++w.over
def zcX (l:Lock) (a:AskR):Bool:=decide (a.pos<0)||decide (l.gone≤a.pos)
def zbs (n:Int):List Int→List Int→Bool→List Int×Bool
 |[],H,t=>(H,t)
 |s::r,H,t=>if t=true∧nth H s.toNat=0 then zbs n r (H.set s.toNat n) true else (H.set s.toNat n,false)
def zeo (l:Lock) (C:List (Int×Int)):List AskR→List Int→Bool→List Int×Bool
 |[],A,t=>(A,t)
 |a::r,A,t=>if zcX l a=true then (if t=true∧zfi C a.pnt=a.lie then zeo l C r (A.set a.pnt.toNat a.lie) true else (A.set a.pnt.toNat a.lie,false)) else zeo l C r A t
def stG (p:Pln) (s:State) (ws:List WayR) (C:List (Int×Int)) (l:Lock) (H A:List Int) (t:Bool):List (Nat×AO):=[(0,.cells p.c true),(1,.cells s.c true),(2,.cells (gc H A (wsl ws)) true),(3,.cells [.b t] true),(4,.cells [.fn 110 []] true),(5,.imap C),(6,.cells [.mp 5] true),(7,.cells l.c true)]
theorem held_ac (hH:HasAll P inv) (hM:∀ b,M b→b<w0.heap.size) (p:Pln) (s:State) (ws:List WayR) (C:List (Int×Int)) (l:Lock) (w:WayR) (H A:List Int) (t:Bool) (hg:0≤l.gone∧l.gone≤w.path.length) (h1:w.path.length≤1000) (h2:w.over.length≤1000) (hs:∀ x∈w.path++w.over,0≤x∧x≤99) (hHl:H.length=100) (hAl:A.length=100) :
  AC P inv w0 M 30 118 [.agg w.c,.agg l.c,.fn 119 [.ptr 3 1 0,.ptr 2 201 0,.ptr 7 4 0]] (stG p s ws C l H A t) fun r0 σ'=>r0=.tup []∧σ'=stG p s ws C l (zbs l.id (zbm w l) H t).1 A (if l.phase=0 then t else (zbs l.id (zbm w l) H t).2):=by
 have c3:=zkf hH [w.path.drop l.gone.toNat,w.over] (by simp) (by simp[ziZ];omega)
 rw[show [w.path.drop l.gone.toNat,w.over].flatten=w.path.drop l.gone.toNat++w.over by simp,show [w.path.drop l.gone.toNat,w.over].map lst=[[.sl 1 ((w.path.map zew).drop l.gone.toNat)],[.sl 1 (w.over.map zew)]] by simp[lst,List.map_drop]]at c3
 have hn1:¬l.gone<0:=by omega
 have hn2:¬((w.path.length:Int)<l.gone):=by omega
 have hgb:=ze6 (H:=H) (A:=A) (zeD ws)
 unfold zbm
 by_cases hph:l.phase=0
 ·simp only[hph,if_true,zbs]
  refine zaS (F:=cd118) (hH.has _ _ rfl) rfl (Nat.le_of_ble_eq_true rfl) fun Q hQ hR=>?_;have hE:=hH.callable;dsimp only[cd118,qm,ql,qf,qi,qb,qc,qp,qv,qN,qT,qF,qt]at hQ ⊢
  unfold stG
  (refine no_implicit_lambda% (st ?_);try with_reducible exact wT)
  (have hX:=@hgb;(repeat' first|refine zaa [0,1,2,3,4,7,10,24,25,26,27,33] fun K hK=>?_|(refine hK.go ?_;clear hK K)|with_reducible exact wT|refine wA ?_|(refine wB (fun h=>?_) (fun h=>?_)<;>first|exact wN h|subst (h:(_:Bool)=_)|skip)|(refine wR ?_;clear hQ hR hE hM)|fail);all_goals clear hX)
  all_goals first|(exfalso;contradiction)|skip
  all_goals ((first|refine ⟨[],trivial, ?_⟩|refine ⟨[],⟨rfl,trivial⟩, ?_⟩);simp only[swS,stG];(refine no_implicit_lambda% (st ?_);try with_reducible exact wT);(try simp))
 ·simp only[hph,if_false]
  obtain ⟨L,hL⟩:∃ L,L=w.path.drop l.gone.toNat++w.over:=⟨_,rfl⟩
  have hLs:∀ x∈L,0≤x∧x≤99:=fun x hx=>hs x (by
   rw[hL]at hx
   rcases List.mem_append.1 hx with h|h
   ·exact List.mem_append.2 (.inl (List.mem_of_mem_drop h))
   ·exact List.mem_append.2 (.inr h))
  have hLl:L.length≤2000:=by rw[hL];simp;omega
  rw[←hL]at c3 ⊢
  clear hL
  refine zaS (F:=cd118) (hH.has _ _ rfl) rfl (Nat.le_of_ble_eq_true rfl) fun Q hQ hR=>?_;have hE:=hH.callable;dsimp only[cd118,qm,ql,qf,qi,qb,qc,qp,qv,qN,qT,qF,qt]at hQ ⊢
  skip
  unfold stG
  (refine no_implicit_lambda% (st ?_);try with_reducible exact wT)
  (have hX:=zA @hn1 (zA @hn2 @hgb);(repeat' first|refine zaa [0,1,2,3,4,5,7,10,24,25,26,27,33] fun K hK=>?_|(refine hK.go ?_;clear hK K)|with_reducible exact wT|refine wA ?_|(refine wB (fun h=>?_) (fun h=>?_)<;>first|exact wN h|subst (h:(_:Bool)=_)|skip)|(refine wQ ?_;clear hQ hR)|refine wC c3 ?_|fail);all_goals clear hX)
  all_goals first|(exfalso;contradiction)|skip
  refine zat (ι:=Nat×(List Int)×Bool) [2,24,25,26] (fun z=>[(26,.n z.1)]) (fun z=>[(2,.cells (gc z.2.1 A (wsl ws)) true),(3,.cells [.b z.2.2] true)]) (fun z=>z.1) (L.length) (fun z=>(z.2.1.length=100)∧(zbs l.id (L.drop z.1) z.2.1 z.2.2=zbs l.id L H t)) (0,H,t) ?_;rintro ⟨k,X,u⟩ ⟨hk,hx,hgo⟩;(try dsimp only at hk hx hgo ⊢);rcases Nat.lt_or_ge k L.length with hlt|hge
  ·rw[zah hlt,zbs]at hgo
   have hb:=hLs _ (zaf hlt)
   have hgb2:=ze6 (H:=X) (A:=A) (zeD ws)
   have e1:=zoN (H:=X) (A:=A) (W:=wsl ws) hx (i:=(nth L k).toNat) (by omega)
   have e2:=gc_set1 (H:=X) (A:=A) (W:=wsl ws) hx (i:=(nth L k).toNat) (by omega) l.id
   have e3:=zf0 (H:=X) (A:=A) (W:=wsl ws) hx hAl
   (have hX:=zA @hgb2 (zA @e1 (zA @e2 @e3));(repeat' first|refine zaa [0,1,2,3,4,5,7,10,24,25,26,27,33] fun K hK=>?_|(refine hK.go ?_;clear hK K)|with_reducible exact wT|refine wA ?_|(refine wB (fun h=>?_) (fun h=>?_)<;>first|exact wN h|subst (h:(_:Bool)=_)|skip)|(refine wQ ?_;clear hQ hR)|(refine AC.callK 40 (by omega) (by first|omega|exact wF|((refine no_implicit_lambda% (st ?_);try with_reducible exact wT);omega)) (zaq (F:=cd119) (hH.has _ _ rfl) (Nat.le_of_ble_eq_true rfl) fun Q hQ hR=>?_);dsimp only[cd119,qm,ql,qf,qi,qb,qc,qp,qv,qN,qT,qF,qt]at hQ ⊢;try (refine no_implicit_lambda% (st ?_);try with_reducible exact wT))|fail);all_goals clear hX)
   all_goals first
    |(rw[if_neg (by simp[*])]at hgo;rw[←hgo];refine ⟨[],trivial, ?_⟩;simp only[swS,stG];(refine no_implicit_lambda% (st ?_);try with_reducible exact wT);(try simp[*]);done)
    |(rw[if_pos ⟨by simp[*],by simp[*]⟩]at hgo;exact ⟨(k+1,X.set (nth L k).toNat l.id,true),by dsimp only;omega,⟨by dsimp only;omega,by simp[hx],hgo⟩,by dsimp only;omega,rfl,by simp[*]⟩)
  ·rw[List.drop_eq_nil_of_le hge,zbs]at hgo
   (repeat' first|refine zaa [0,1,2,3,4,5,7,10,24,25,26,27,33] fun K hK=>?_|(refine hK.go ?_;clear hK K)|with_reducible exact wT|refine wA ?_|(refine wB (fun h=>?_) (fun h=>?_)<;>first|exact wN h|subst (h:(_:Bool)=_)|skip)|(refine wQ ?_;clear hQ hR)|fail)
   rw[←hgo];refine ⟨[],trivial, ?_⟩;simp only[swS,stG];(refine no_implicit_lambda% (st ?_);try with_reducible exact wT);(try simp[*])
theorem asks_ac (hH:HasAll P inv) (hM:∀ b,M b→b<w0.heap.size) (p:Pln) (s:State) (ws:List WayR) (C:List (Int×Int)) (l:Lock) (w:WayR) (H A:List Int) (t:Bool) (h1:w.asks.length≤1000) (hs:∀ a∈w.asks,0≤a.pnt∧a.pnt≤99) (hHl:H.length=100) (hAl:A.length=100) :
  AC P inv w0 M 30 120 [.agg w.c,.agg l.c,.fn 121 [.ptr 3 1 0,.ptr 6 1 0,.ptr 2 201 0]] (stG p s ws C l H A t) fun r0 σ'=>r0=.tup []∧σ'=stG p s ws C l H (if l.phase=0 then (A,t) else zeo l C w.asks A t).1 (if l.phase=0 then (A,t) else zeo l C w.asks A t).2:=by
 have hgb:=ze6 (H:=H) (A:=A) (zeD ws)
 by_cases hph:l.phase=0
 ·simp only[hph,if_true]
  refine zaS (F:=cd120) (hH.has _ _ rfl) rfl (Nat.le_of_ble_eq_true rfl) fun Q hQ hR=>?_;have hE:=hH.callable;dsimp only[cd120,qm,ql,qf,qi,qb,qc,qp,qv,qN,qT,qF,qt]at hQ ⊢
  unfold stG
  (refine no_implicit_lambda% (st ?_);try with_reducible exact wT)
  (have hX:=@hgb;(repeat' first|refine zaa [0,1,2,3,4,7,10,12,13,14,15,33] fun K hK=>?_|(refine hK.go ?_;clear hK K)|with_reducible exact wT|refine wA ?_|(refine wB (fun h=>?_) (fun h=>?_)<;>first|exact wN h|subst (h:(_:Bool)=_)|skip)|(refine wR ?_;clear hQ hR hE hM)|fail);all_goals clear hX)
  all_goals first|(exfalso;contradiction)|skip
  all_goals ((first|refine ⟨[],trivial, ?_⟩|refine ⟨[],⟨rfl,trivial⟩, ?_⟩);simp only[swS,stG];(refine no_implicit_lambda% (st ?_);try with_reducible exact wT);(try simp))
 ·simp only[hph,if_false]
  refine zaS (F:=cd120) (hH.has _ _ rfl) rfl (Nat.le_of_ble_eq_true rfl) fun Q hQ hR=>?_;have hE:=hH.callable;dsimp only[cd120,qm,ql,qf,qi,qb,qc,qp,qv,qN,qT,qF,qt]at hQ ⊢
  skip
  unfold stG
  (refine no_implicit_lambda% (st ?_);try with_reducible exact wT)
  (have hX:=@hgb;(repeat' first|refine zaa [0,1,2,3,4,5,7,10,12,13,14,15,33] fun K hK=>?_|(refine hK.go ?_;clear hK K)|with_reducible exact wT|refine wA ?_|(refine wB (fun h=>?_) (fun h=>?_)<;>first|exact wN h|subst (h:(_:Bool)=_)|skip)|(refine wQ ?_;clear hQ hR)|fail);all_goals clear hX)
  all_goals first|(exfalso;contradiction)|skip
  refine zat (ι:=Nat×(List Int)×Bool) [2,4,12,13,14] (fun z=>[(14,.n z.1)]) (fun z=>[(2,.cells (gc H z.2.1 (wsl ws)) true),(3,.cells [.b z.2.2] true)]) (fun z=>z.1) (w.asks.length) (fun z=>(z.2.1.length=100)∧(zeo l C (w.asks.drop z.1) z.2.1 z.2.2=zeo l C w.asks A t)) (0,A,t) ?_;rintro ⟨k,X,u⟩ ⟨hk,hx,hgo⟩;(try dsimp only at hk hx hgo ⊢);rcases Nat.lt_or_ge k w.asks.length with hlt|hge
  ·rw[zah hlt,zeo]at hgo
   have hb:=hs _ (zaf hlt)
   have hgb2:=ze6 (H:=H) (A:=X) (zeD ws)
   have e2:=gc_set2 (H:=H) (A:=X) (W:=wsl ws) hHl hx (i:=(nth w.asks k).pnt.toNat) (by omega) (nth w.asks k).lie
   have e3:=zf0 (H:=H) (A:=X) (W:=wsl ws) hHl hx
   (have hX:=zA @hgb2 (zA @e2 @e3);(repeat' first|refine zaa [0,1,2,3,4,5,7,10,12,13,14,15,33] fun K hK=>?_|(refine hK.go ?_;clear hK K)|with_reducible exact wT|refine wA ?_|(refine wB (fun h=>?_) (fun h=>?_)<;>first|exact wN h|subst (h:(_:Bool)=_)|skip)|(refine wQ ?_;clear hQ hR)|(refine AC.callK 40 (by omega) (by first|omega|exact wF|((refine no_implicit_lambda% (st ?_);try with_reducible exact wT);omega)) (zaq (F:=cd121) (hH.has _ _ rfl) (Nat.le_of_ble_eq_true rfl) fun Q hQ hR=>?_);dsimp only[cd121,qm,ql,qf,qi,qb,qc,qp,qv,qN,qT,qF,qt]at hQ ⊢;try (refine no_implicit_lambda% (st ?_);try with_reducible exact wT))|fail);all_goals clear hX)
   all_goals first
    |(rw[show zcX l (nth w.asks k)=true by simp[zcX, *],if_pos rfl,if_neg (by simp[*])]at hgo;rw[←hgo];refine ⟨[],trivial, ?_⟩;simp only[swS,stG];(refine no_implicit_lambda% (st ?_);try with_reducible exact wT);(try simp[*]);done)
    |(rw[show zcX l (nth w.asks k)=true by simp[zcX, *],if_pos rfl,if_pos ⟨by simp[*],by simp[*]⟩]at hgo;exact ⟨(k+1,X.set (nth w.asks k).pnt.toNat (nth w.asks k).lie,true),by dsimp only;omega,⟨by dsimp only;omega,by simp[hx],hgo⟩,by dsimp only;omega,rfl,by simp[*]⟩)
    |(rw[show zcX l (nth w.asks k)=false by simp[zcX];omega,if_neg (by simp)]at hgo;exact ⟨(k+1,X,_),by dsimp only;omega,⟨by dsimp only;omega,by simp[hx],hgo⟩,by dsimp only;omega,rfl,rfl⟩)
  ·rw[List.drop_eq_nil_of_le hge,zeo]at hgo
   (repeat' first|refine zaa [0,1,2,3,4,5,7,10,12,13,14,15,33] fun K hK=>?_|(refine hK.go ?_;clear hK K)|with_reducible exact wT|refine wA ?_|(refine wB (fun h=>?_) (fun h=>?_)<;>first|exact wN h|subst (h:(_:Bool)=_)|skip)|(refine wQ ?_;clear hQ hR)|fail)
   rw[←hgo];refine ⟨[],trivial, ?_⟩;simp only[swS,stG];(refine no_implicit_lambda% (st ?_);try with_reducible exact wT);(try simp[*])
end Go.Lev
namespace Go.Lev
open Go.Eng
set_option maxRecDepth 10000
set_option maxHeartbeats 4000000
variable {P:Program} {inv:Nat→Option Nat} {w0:World} {M:Nat→Prop}
def zbz (w:WayR) (l:Lock):List AskR:=if l.phase=0 then [] else w.asks
theorem held_ac2 (hH:HasAll P inv) (hM:∀ b,M b→b<w0.heap.size) (p:Pln) (s:State) (ws:List WayR) (C:List (Int×Int)) (l:Lock) (w:WayR) (H A:List Int) (t:Bool) (hg:0≤l.gone∧l.gone≤w.path.length) (h1:w.path.length≤1000) (h2:w.over.length≤1000) (hs:∀ x∈w.path++w.over,0≤x∧x≤99) (hHl:H.length=100) (hAl:A.length=100) :
  AC P inv w0 M 30 118 [.agg w.c,.agg l.c,.fn 119 [.ptr 3 1 0,.ptr 2 201 0,.ptr 7 4 0]] (stG p s ws C l H A t) fun r0 σ'=>r0=.tup []∧σ'=stG p s ws C l (zbs l.id (zbm w l) H t).1 A (zbs l.id (zbm w l) H t).2:=by
 have h:=held_ac hH hM p s ws C l w H A t hg h1 h2 hs hHl hAl
 by_cases hp:l.phase=0
 ·rw[if_pos hp]at h
  rw[show (zbs l.id (zbm w l) H t).2=t by unfold zbm;rw[if_pos hp];rfl]
  exact h
 ·rw[if_neg hp]at h;exact h
theorem asks_ac2 (hH:HasAll P inv) (hM:∀ b,M b→b<w0.heap.size) (p:Pln) (s:State) (ws:List WayR) (C:List (Int×Int)) (l:Lock) (w:WayR) (H A:List Int) (t:Bool) (h1:w.asks.length≤1000) (hs:∀ a∈w.asks,0≤a.pnt∧a.pnt≤99) (hHl:H.length=100) (hAl:A.length=100) :
  AC P inv w0 M 30 120 [.agg w.c,.agg l.c,.fn 121 [.ptr 3 1 0,.ptr 6 1 0,.ptr 2 201 0]] (stG p s ws C l H A t) fun r0 σ'=>r0=.tup []∧σ'=stG p s ws C l H (zeo l C (zbz w l) A t).1 (zeo l C (zbz w l) A t).2:=by
 have h:=asks_ac hH hM p s ws C l w H A t h1 hs hHl hAl
 by_cases hp:l.phase=0
 ·rw[if_pos hp]at h
  unfold zbz
  rw[if_pos hp]
  exact h
 ·rw[if_neg hp]at h
  unfold zbz
  rw[if_neg hp]
  exact h
theorem ze5 (n:Int):∀ (l H:List Int) (t:Bool),(zbs n l H t).1.length=H.length
 |[],H,t=>rfl
 |s::r,H,t=>by
  rw[zbs]
  split
  ·rw[ze5 n r];simp
  ·simp
theorem zfg (l:Lock) (C:List (Int×Int)):∀ (q:List AskR) (A:List Int) (t:Bool),(zeo l C q A t).1.length=A.length
 |[],A,t=>rfl
 |a::r,A,t=>by
  rw[zeo]
  split
  ·split
   ·rw[zfg l C r];simp
   ·simp
  ·exact zfg l C r A t
def zgn:List (Int×Int)→List Switch→List (Int×Int)
 |C,[]=>C
 |C,x::r=>zgn (zk4 C x.id x.call) r
def zdO (ws:List WayR) (C:List (Int×Int)):Nat→List Lock→List Int→List Int→Bool→List Int×List Int×Bool
 |_,[],H,A,t=>(H,A,t)
 |i,l::r,H,A,t=>zdO ws C (i+1) r (zbs l.id (zbm (nth ws i) l) H t).1 (zeo l C (zbz (nth ws i) l) A (zbs l.id (zbm (nth ws i) l) H t).2).1 (zeo l C (zbz (nth ws i) l) A (zbs l.id (zbm (nth ws i) l) H t).2).2
def zal (p:Pln) (s:State):Bool:=zaK zjn s.tracks p.sections&&(zaK ziw s.switches p.points&&zaK zcp s.locks p.routes)
def zaM (p:Pln):List WayR:=p.routes.map fun r=>(zaj p r).1
def zcS:List Int:=List.replicate 100 0
def gripR (p:Pln) (s:State):(List Int×List Int×Bool)×List WayR:=if zal p s=true then (zdO (zaM p) (zgn [] s.switches) 0 s.locks zcS zcS true,zaM p) else ((zcS,zcS,false),[])
theorem foldG:List.replicate 100 (AV.i .i64 0)++(List.replicate 100 (AV.i .i64 0)++[AV.s0 4])=gc zcS zcS (.s0 4):=rfl
theorem gc_snap0 (H A:List Int) (k:Nat) (σ:AS):zbw k σ (gc H A (.s0 4))=gc H A (.sl 4 []):=by
 unfold gc
 rw[zjt,zjt,ziy,ziy,zbM,zdt,sn_s0]
theorem ovl_gc {H A H' A':List Int} (h:H.length=100) (h':A.length=100) (h2:H'.length=100) (h2':A'.length=100) (W W':AV):ovl (gc H A W) 0 (gc H' A' W')=gc H' A' W':=by
 rw[zlZ _ _ _ (by rw[zf0 h h',zf0 h2 h2'];omega),List.take_zero,List.nil_append,List.drop_eq_nil_of_le (by rw[zf0 h h',zf0 h2 h2'];omega),List.append_nil]
theorem zbi:zcS.length=100:=by simp[zcS]
theorem zoO (H A:List Int):zab (gc H A (.s0 4))=0:=by
 unfold gc
 rw[zd9,zd9,zd4,zd4];rfl
theorem gc_bare0 (H A:List Int):zac (gc H A (.s0 4))=true:=by
 have h:∀ xs ys:List AV,zac (xs++ys)=(zac xs&&zac ys):=by
  intro xs ys
  induction xs with
  |nil=>simp[zac]
  |cons x xs ih=>simp[zac,ih,Bool.and_assoc]
 unfold gc
 rw[h,h,ze3,ze3];rfl
def stGg (p:Pln) (s:State) (g:List AV) (C:List (Int×Int)) (l:Lock) (t:Bool):List (Nat×AO):=[(0,.cells p.c true),(1,.cells s.c true),(2,.cells g true),(3,.cells [.b t] true),(4,.cells [.fn 110 []] true),(5,.imap C),(6,.cells [.mp 5] true),(7,.cells l.c true)]
theorem held_ac3 (hH:HasAll P inv) (hM:∀ b,M b→b<w0.heap.size) (G:List Int→List Int→AV→List AV) (hG:G=gc) (p:Pln) (s:State) (ws:List WayR) (C:List (Int×Int)) (l:Lock) (w:WayR) (H A:List Int) (t:Bool) (hg:0≤l.gone∧l.gone≤w.path.length) (h1:w.path.length≤1000) (h2:w.over.length≤1000) (hs:∀ x∈w.path++w.over,0≤x∧x≤99) (hHl:H.length=100) (hAl:A.length=100) :
  AC P inv w0 M 30 118 [.agg w.c,.agg l.c,.fn 119 [.ptr 3 1 0,.ptr 2 201 0,.ptr 7 4 0]] (stGg p s (G H A (.sl 4 (ws.map Way.c))) C l t) fun r0 σ'=>r0=.tup []∧σ'=stGg p s (G (zbs l.id (zbm w l) H t).1 A (.sl 4 (ws.map Way.c))) C l (zbs l.id (zbm w l) H t).2:=by
 subst hG
 exact held_ac2 hH hM p s ws C l w H A t hg h1 h2 hs hHl hAl
theorem asks_ac3 (hH:HasAll P inv) (hM:∀ b,M b→b<w0.heap.size) (G:List Int→List Int→AV→List AV) (hG:G=gc) (p:Pln) (s:State) (ws:List WayR) (C:List (Int×Int)) (l:Lock) (w:WayR) (H A:List Int) (t:Bool) (h1:w.asks.length≤1000) (hs:∀ a∈w.asks,0≤a.pnt∧a.pnt≤99) (hHl:H.length=100) (hAl:A.length=100) :
  AC P inv w0 M 30 120 [.agg w.c,.agg l.c,.fn 121 [.ptr 3 1 0,.ptr 6 1 0,.ptr 2 201 0]] (stGg p s (G H A (.sl 4 (ws.map Way.c))) C l t) fun r0 σ'=>r0=.tup []∧σ'=stGg p s (G H (zeo l C (zbz w l) A t).1 (.sl 4 (ws.map Way.c))) C l (zeo l C (zbz w l) A t).2:=by
 subst hG
 exact asks_ac2 hH hM p s ws C l w H A t h1 hs hHl hAl
structure GC (G:List Int→List Int→AV→List AV) (Z:List Int):Prop where
 eq:G=gc
 z:Z=zcS
 fold:List.replicate 100 (AV.i .i64 0)++(List.replicate 100 (AV.i .i64 0)++[AV.s0 4])=G Z Z (.s0 4)
 zl:Z.length=100
 len:∀ {H A:List Int} (W:AV),H.length=100→A.length=100→(G H A W).length=201
 sg:∀ {H A:List Int} (W:AV),H.length=100→A.length=100→List.take 201 (G H A W)=G H A W
 ov:∀ {H A H' A':List Int} (W W':AV),H.length=100→A.length=100→H'.length=100→A'.length=100→ovl (G H A W) 0 (G H' A' W')=G H' A' W'
 bd0:∀ H A:List Int,zab (G H A (.s0 4))=0
 ba0:∀ H A:List Int,zac (G H A (.s0 4))=true
 bd:∀ (H A:List Int) (l:List (List AV)),zab (G H A (.sl 4 l))=0
 ba:∀ (H A:List Int) (l:List (List AV)),zac (G H A (.sl 4 l))=true
 sn0:∀ (H A:List Int) (k:Nat) (σ:AS),zbw k σ (G H A (.s0 4))=G H A (.sl 4 [])
 sn:∀ (H A:List Int) (l:List (List AV)) (k:Nat) (σ:AS),zbw k σ (G H A (.sl 4 l))=G H A (.sl 4 l)
 get:∀ {H A:List Int} (W:AV),H.length=100→A.length=100→(G H A W)[200]?=some W
 set:∀ {H A:List Int} (W W':AV),H.length=100→A.length=100→(G H A W).set 200 W'=G H A W'
theorem GC.mk':GC gc zcS:=⟨rfl,rfl,foldG,zbi,fun W h1 h2=>zf0 h1 h2,fun W h1 h2=>List.take_of_length_le (by rw[zf0 h1 h2];exact Nat.le_refl _),fun W W' h1 h2 h3 h4=>ovl_gc h1 h2 h3 h4 W W',zoO,gc_bare0,fun H A l=>ze6 rfl,fun H A l=>zoP rfl,fun H A k σ=>gc_snap0 H A k σ,fun H A l k σ=>gc_snap rfl k σ,fun W h1 h2=>gc_get3 h1 h2,fun W W' h1 h2=>gc_set3 h1 h2 W'⟩
theorem zjk:∃ G Z,GC G Z:=⟨_,_,GC.mk'⟩
theorem zi6 {φ:AF} {σ:AS} {t u l l':Nat} {g:List AV} {b r r':Bool} (h1:za7 φ t=.ptr l 201 0) (h2:zaC σ l=some (.cells g r)) (h3:g.length=201) (hs:List.take 201 g=g) (h4:za7 φ u=.ptr l' 1 0) (h5:zaC σ l'=some (.cells [.b b] r')):zdy φ σ [.cell t (some 201),.cell u none]=some (.tup [.agg g,.b b]):=by
 have h:zcl g 0 (some 201)=some (.agg g):=by
  rw[al_s,if_pos (by omega),seg,List.drop_zero,hs]
 simp only[zdy,zhE,ares,h1,h4,zcY,h2,h5,h,h3,al_n,List.getElem?_cons_zero,List.length_cons,List.length_nil,if_true,Nat.zero_add]
theorem grip_bad (hH:HasAll P inv) (hI:HasIds P inv) (p:Pln) (hp:Sm p) (s:State) (hs:s.tracks.length≤1000∧s.switches.length≤1000∧s.locks.length≤1000) (hok:OkP p) (hb:zal p s=false):PC P inv 93 [.agg p.c,.agg s.c] (·=.tup [.agg (gc zcS zcS (.sl 4 [])),.b false]):=by
 obtain ⟨G,Z,hg⟩:=zjk
 rw[←hg.eq,←hg.z]
 have c1:=eqfTrk hH (caps:=[]) s.tracks p.sections (fun x _ y _=>zlH hH x y) rfl (by omega)
 have c2:=eqfSwt hH (caps:=[.ip 1 [[.fn 110 []]] 0 0]) s.switches p.points (fun x _ y _=>zlK hH x y) rfl (by omega)
 have c3:=eqfLck hH (caps:=[]) s.locks p.routes (fun x _ y hy=>zl3 hH x y (by have:=zcj hok hy;omega)) rfl (by omega)
 unfold zal at hb
 revert c1 c2 c3 hb
 generalize zaK zjn s.tracks p.sections=a1
 generalize zaK ziw s.switches p.points=a2
 generalize zaK zcp s.locks p.routes=a3
 intro hb c1 c2 c3
 have hfold:=hg.fold
 have hlen:=hg.len (.s0 4) hg.zl hg.zl
 have hsg:=hg.sg (.s0 4) hg.zl hg.zl
 have hov:=hg.ov (.s0 4) (.s0 4) hg.zl hg.zl hg.zl hg.zl
 have hbd:=hg.bd0 Z Z
 have hba:=hg.ba0 Z Z
 have hsn:=hg.sn0 Z Z
 clear hg
 cases a1
 ·refine PC.fn hH cd93 fun w0 M Q hM hE hQ hR=>?_;dsimp only[cd93,qm,ql,qf,qi,qb,qc,qp,qv,qN,qT,qF,qt]at hQ ⊢
  (have hX:=zA @hfold (zA @hlen (zA @hsg (zA @hov (zA @hbd (zA @hba @hsn)))));(repeat' first|refine zaa [0,1,2,3,4,5,6,7,9,10,11,34,43,45,46,47,48,58,59,60,61] fun K hK=>?_|(refine hK.go ?_;clear hK K)|with_reducible exact wT|refine wA ?_|(refine wB (fun h=>?_) (fun h=>?_)<;>first|exact wN h|subst (h:(_:Bool)=_)|skip)|(refine wQ ?_;clear hQ hR hE hM)|refine wC c1 ?_|fail);all_goals clear hX)
  all_goals (refine hQ _ _ _ (zi6 rfl rfl hlen hsg rfl rfl) ?_;simp only[zeg,zbM,zdt,zeJ,sn_b,hsn])
 ·cases a2
  ·refine PC.fn hH cd93 fun w0 M Q hM hE hQ hR=>?_;dsimp only[cd93,qm,ql,qf,qi,qb,qc,qp,qv,qN,qT,qF,qt]at hQ ⊢
   (have hX:=zA @hfold (zA @hlen (zA @hsg (zA @hov (zA @hbd (zA @hba @hsn)))));(repeat' first|refine zaa [0,1,2,3,4,5,6,7,9,10,11,34,43,45,46,47,48,58,59,60,61] fun K hK=>?_|(refine hK.go ?_;clear hK K)|with_reducible exact wT|refine wA ?_|(refine wB (fun h=>?_) (fun h=>?_)<;>first|exact wN h|subst (h:(_:Bool)=_)|skip)|(refine wQ ?_;clear hQ hR hE hM)|refine wC c1 ?_|refine wS c2 ?_|fail);all_goals clear hX)
   all_goals (refine hQ _ _ _ (zi6 rfl rfl hlen hsg rfl rfl) ?_;simp only[zeg,zbM,zdt,zeJ,sn_b,hsn])
  ·cases a3
   ·refine PC.fn hH cd93 fun w0 M Q hM hE hQ hR=>?_;dsimp only[cd93,qm,ql,qf,qi,qb,qc,qp,qv,qN,qT,qF,qt]at hQ ⊢
    (have hX:=zA @hfold (zA @hlen (zA @hsg (zA @hov (zA @hbd (zA @hba @hsn)))));(repeat' first|refine zaa [0,1,2,3,4,5,6,7,9,10,11,34,43,45,46,47,48,58,59,60,61] fun K hK=>?_|(refine hK.go ?_;clear hK K)|with_reducible exact wT|refine wA ?_|(refine wB (fun h=>?_) (fun h=>?_)<;>first|exact wN h|subst (h:(_:Bool)=_)|skip)|(refine wQ ?_;clear hQ hR hE hM)|refine wC c1 ?_|refine wS c2 ?_|refine wC c3 ?_|fail);all_goals clear hX)
    all_goals (refine hQ _ _ _ (zi6 rfl rfl hlen hsg rfl rfl) ?_;simp only[zeg,zbM,zdt,zeJ,sn_b,hsn])
   ·cases hb
theorem zmU {p:Pln} (hok:OkP p) {l:Lock} {r:Rte} (hr:r∈p.routes) (h:zcp l r=true):0≤l.gone∧l.gone≤(r.path.length:Int)-1:=by
 have hl:=zcj hok hr
 simp only[zcp,zaA,Bool.and_eq_true]at h
 obtain ⟨_,h⟩:=h
 repeat' split at h
 all_goals (simp at h;try omega)
theorem zeC {α β:Type} [Inhabited α] [Inhabited β] {q:α→β→Bool}:∀ {a:List α} {b:List β},zaK q a b=true→∀ {i:Nat},i<a.length→q (nth a i) (nth b i)=true
 |[],_,_,i,hi=>by simp at hi
 |x::xs,[],h,_,_=>by simp[zaK]at h
 |x::xs,y::ys,h,0,_=>by simp only[zaK,Bool.and_eq_true]at h;simpa [nth] using h.1
 |x::xs,y::ys,h,i+1,hi=>by
  simp only[zaK,Bool.and_eq_true]at h
  have:=zeC (q:=q) h.2 (i:=i) (by simpa using hi)
  simpa [nth] using this
theorem grip_ok (hH:HasAll P inv) (hI:HasIds P inv) (p:Pln) (hp:Sm p) (s:State) (hs:s.tracks.length≤1000∧s.switches.length≤1000∧s.locks.length≤1000) (ho:zbq p=true) (hb:zal p s=true):PC P inv 93 [.agg p.c,.agg s.c] (·=.tup [.agg (gc (zdO (zaM p) (zgn [] s.switches) 0 s.locks zcS zcS true).1 (zdO (zaM p) (zgn [] s.switches) 0 s.locks zcS zcS true).2.1 (.sl 4 ((zaM p).map Way.c))),.b (zdO (zaM p) (zgn [] s.switches) 0 s.locks zcS zcS true).2.2]):=by
 have hlr:=hp.rte
 simp only[zbq,Bool.and_eq_true]at ho
 have hok:=zg9 ho.1
 have c0:=all_pc hH hI p hp
 rw[zkr,ho.1,if_pos rfl,ho.2.1,if_pos rfl]at c0
 dsimp only at c0
 rw[show (p.routes.map fun r=>(zaj p r).1)=zaM p from rfl]at c0
 simp only[zal,Bool.and_eq_true]at hb
 have c1:=eqfTrk hH (caps:=[]) s.tracks p.sections (fun x _ y _=>zlH hH x y) rfl (by omega)
 have c2:=eqfSwt hH (caps:=[.ip 1 [[.fn 110 []]] 0 0]) s.switches p.points (fun x _ y _=>zlK hH x y) rfl (by omega)
 have c3:=eqfLck hH (caps:=[]) s.locks p.routes (fun x _ y hy=>zl3 hH x y (by have:=zcj hok hy;omega)) rfl (by omega)
 rw[hb.1]at c1
 rw[hb.2.1]at c2
 rw[hb.2.2]at c3
 have hll:s.locks.length=p.routes.length:=zbF hb.2.2
 have hwl:(zaM p).length=p.routes.length:=by simp[zaM]
 have hway:∀ i,i<p.routes.length→nth (zaM p) i=(zaj p (nth p.routes i)).1:=fun i hi=>nthm (fun r=>(zaj p r).1) hi
 have hpath:∀ i,i<p.routes.length→(zaj p (nth p.routes i)).1.path=(nth p.routes i).path∧(zaj p (nth p.routes i)).1.over=(nth p.routes i).over:=fun i hi=>by
  have h1:=(List.all_eq_true.1 ho.2.1) _ (zaf hi)
  have h2:=zbG (p:=p) (r:=nth p.routes i) (by simpa using h1)
  exact ⟨h2.1,h2.2.1⟩
 obtain ⟨ans,hans⟩:∃ ans,ans=zdO (zaM p) (zgn [] s.switches) 0 s.locks zcS zcS true:=⟨_,rfl⟩
 rw[←hans]
 obtain ⟨ws,hws⟩:∃ ws,ws=zaM p:=⟨_,rfl⟩
 rw[←hws]at c0 hwl hway hans ⊢
 obtain ⟨G,Z,hg⟩:=zjk
 rw[←hg.z]at hans
 rw[←hg.eq]
 have hfold:=hg.fold
 have hlen:=hg.len (.s0 4) hg.zl hg.zl
 have hlen2:=hg.len (.sl 4 (ws.map Way.c)) hg.zl hg.zl
 have hset:=hg.set (.s0 4) (.sl 4 (ws.map Way.c)) hg.zl hg.zl
 have hbd0:=hg.bd0 Z Z
 have hbd:=fun H A=>hg.bd H A (ws.map Way.c)
 have hba:=fun H A=>hg.ba H A (ws.map Way.c)
 refine PC.fn hH cd93 fun w0 M Q hM hE hQ hR=>?_;dsimp only[cd93,qm,ql,qf,qi,qb,qc,qp,qv,qN,qT,qF,qt]at hQ ⊢
 (have hX:=zA @hfold (zA @hlen (zA @hbd0 (zA @hbd (zA @hba (zA @hset @hlen2)))));(repeat' first|refine zaa [0,1,2,3,4,5,6,7,9,10,11,34,43,45,46,47,48,58,59,60,61] fun K hK=>?_|(refine hK.go ?_;clear hK K)|with_reducible exact wT|refine wA ?_|(refine wB (fun h=>?_) (fun h=>?_)<;>first|exact wN h|subst (h:(_:Bool)=_)|skip)|(refine wQ ?_;clear hQ hR hE hM)|refine wC c1 ?_|refine wS c2 ?_|refine wC c3 ?_|refine wC c0 ?_|fail);all_goals clear hX)
 refine zat (ι:=Nat×(List (Int×Int))) [3,4,5,7,45,46,47] (fun z=>[(47,.n z.1)]) (fun z=>[(5,.imap z.2)]) (fun z=>z.1) (s.switches.length) (fun z=>(zgn z.2 (s.switches.drop z.1)=zgn [] s.switches)) (0,([]:List (Int×Int))) ?_;rintro ⟨k,C⟩ ⟨hk,hm⟩;(try dsimp only at hk hm ⊢);rcases Nat.lt_or_ge k s.switches.length with hlt|hge
 ·rw[zah hlt,zgn]at hm
  (have hX:=@hbd;(repeat' first|refine zaa [0,1,2,3,4,5,6,7,9,10,11,34,43,45,46,47,48,58,59,60,61] fun K hK=>?_|(refine hK.go ?_;clear hK K)|with_reducible exact wT|refine wA ?_|(refine wB (fun h=>?_) (fun h=>?_)<;>first|exact wN h|subst (h:(_:Bool)=_)|skip)|(refine wQ ?_;clear hQ hR hE hM)|fail);all_goals clear hX)
  exact nY (k+1,zk4 C (nth s.switches k).id (nth s.switches k).call) ⟨by (try dsimp only);omega,hm⟩
 ·rw[List.drop_eq_nil_of_le hge,zgn]at hm
  rw[←hm]at hans
  clear hm
  (have hX:=@hbd;(repeat' first|refine zaa [0,1,2,3,4,5,6,7,9,10,11,34,43,45,46,47,48,58,59,60,61] fun K hK=>?_|(refine hK.go ?_;clear hK K)|with_reducible exact wT|refine wA ?_|(refine wB (fun h=>?_) (fun h=>?_)<;>first|exact wN h|subst (h:(_:Bool)=_)|skip)|(refine wQ ?_;clear hQ hR hE hM)|fail);all_goals clear hX)
  have hzl:Z.length=100∧Z.length=100:=⟨hg.zl,hg.zl⟩
  have hans0:zdO ws C 0 (s.locks.drop 0) Z Z true=ans:=by rw[List.drop_zero];exact hans.symm
  refine zat (ι:=Nat×(List Int)×(List Int)×Bool) [4,5,7,58,59,60] (fun z=>[(60,.n z.1)]) (fun z=>[(2,.cells (G z.2.1 z.2.2.1 (.sl 4 (ws.map Way.c))) true),(3,.cells [.b z.2.2.2] true)]) (fun z=>z.1) (s.locks.length) (fun z=>(z.2.1.length=100∧z.2.2.1.length=100)∧(zdO ws C z.1 (s.locks.drop z.1) z.2.1 z.2.2.1 z.2.2.2=ans)) (0,Z,Z,true) ?_;rintro ⟨i,H,A,t⟩ ⟨hk,hx,hgo⟩;(try dsimp only at hk hx hgo ⊢);rcases Nat.lt_or_ge i s.locks.length with hlt|hge
  ·rw[zah (by assumption),zdO]at hgo
   have hir:i<p.routes.length:=by omega
   have hw:=hway i hir
   have hpa:=hpath i hir
   have hm:=zaf hir
   have hls:=zcj hok hm
   have hse:=(zdi hok hm).1
   have hwl2:=zcw hok hm
   have hgn:=zmU hok hm (zeC hb.2.2 (i:=i) (by omega))
   have hap:∀ a∈(nth ws i).asks,0≤a.pnt∧a.pnt≤99:=fun a ha=>by rw[hw]at ha;have:=zbv hok hm ha;omega
   have hse2:∀ x∈(nth ws i).path++(nth ws i).over,0≤x∧x≤99:=fun x hx=>by
    rw[hw,hpa.1,hpa.2]at hx
    obtain ⟨q,hq,rfl⟩:=hse x hx
    have:=zcA hok hq
    omega
   have hgn2:0≤(nth s.locks i).gone∧(nth s.locks i).gone≤(nth ws i).path.length:=by rw[hw,hpa.1];omega
   have hl1:(nth ws i).path.length≤1000:=by rw[hw];omega
   have hl2:(nth ws i).over.length≤1000:=by rw[hw];omega
   have hl3:(nth ws i).asks.length≤1000:=by rw[hw];omega
   have hget:=hg.get (.sl 4 (ws.map Way.c)) hx.1 hx.2
   have hln:=hg.len (.sl 4 (ws.map Way.c)) hx.1 hx.2
   have hh:=fun C=>held_ac3 hH hM G hg.eq p s ws C (nth s.locks i) (nth ws i) H A t hgn2 hl1 hl2 hse2 hx.1 hx.2
   have hH1:(zbs (nth s.locks i).id (zbm (nth ws i) (nth s.locks i)) H t).1.length=100:=by rw[ze5];exact hx.1
   have hiw:i<ws.length:=by omega
   revert hh hgo hH1
   generalize zbs (nth s.locks i).id (zbm (nth ws i) (nth s.locks i)) H t=HT
   intro hgo hh hH1
   have hget':=hg.get (.sl 4 (ws.map Way.c)) hH1 hx.2
   have hln':=hg.len (.sl 4 (ws.map Way.c)) hH1 hx.2
   have ha:=fun C=>asks_ac3 hH hM G hg.eq p s ws C (nth s.locks i) (nth ws i) HT.1 A HT.2 hl3 hap hH1 hx.2
   have hA1:∀ C,(zeo (nth s.locks i) C (zbz (nth ws i) (nth s.locks i)) A HT.2).1.length=100:=fun C=>by rw[zfg];exact hx.2
   (have hX:=zA @hbd (zA @hget (zA @hln (zA @hget' (zA @hln' @stGg.eq_1))));(repeat' first|refine zaa [0,1,2,3,4,5,6,7,9,10,11,34,43,45,46,47,48,58,59,60,61] fun K hK=>?_|(refine hK.go ?_;clear hK K)|with_reducible exact wT|refine wA ?_|(refine wB (fun h=>?_) (fun h=>?_)<;>first|exact wN h|subst (h:(_:Bool)=_)|skip)|(refine wQ ?_;clear hQ hR hE hM)|(refine zed 30 (hh C) (by omega) (by first|omega|exact wF|((refine no_implicit_lambda% (st ?_);try with_reducible exact wT);omega)) ?_;try (refine no_implicit_lambda% (st ?_);try with_reducible exact wT))|(refine zed 30 (ha C) (by omega) (by first|omega|exact wF|((refine no_implicit_lambda% (st ?_);try with_reducible exact wT);omega)) ?_;try (refine no_implicit_lambda% (st ?_);try with_reducible exact wT))|fail);all_goals clear hX)
   exact ⟨(i+1,HT.1,_,_),by dsimp only;omega,⟨by dsimp only;omega,⟨hH1,hA1 _⟩,hgo⟩,by dsimp only;omega,rfl,rfl⟩
  ·rw[List.drop_eq_nil_of_le (by assumption),zdO]at hgo
   have hln:=hg.len (.sl 4 (ws.map Way.c)) hx.1 hx.2
   have hsg:=hg.sg (.sl 4 (ws.map Way.c)) hx.1 hx.2
   have hov:=hg.ov (.sl 4 (ws.map Way.c)) (.sl 4 (ws.map Way.c)) hx.1 hx.2 hx.1 hx.2
   have hba:=hba H A
   have hsn:=hg.sn H A (ws.map Way.c)
   (have hX:=zA @hbd (zA @hln (zA @hsg (zA @hov @hba)));(repeat' first|refine zaa [0,1,2,3,4,5,6,7,9,10,11,34,43,45,46,47,48,58,59,60,61] fun K hK=>?_|(refine hK.go ?_;clear hK K)|with_reducible exact wT|refine wA ?_|(refine wB (fun h=>?_) (fun h=>?_)<;>first|exact wN h|subst (h:(_:Bool)=_)|skip)|(refine wQ ?_;clear hQ hR hE hM)|fail);all_goals clear hX)
   refine hQ _ _ _ (zi6 rfl rfl hln hsg rfl rfl) ?_
   simp only[zeg,zbM,zdt,zeJ,sn_b,hsn]
   rw[←hgo]
end Go.Lev
namespace Go.Lev
open Go.Eng
set_option maxRecDepth 10000
set_option maxHeartbeats 4000000
variable {P:Program} {inv:Nat→Option Nat} {w0:World} {M:Nat→Prop}
def zaF (p:Pln) (s:State):List Int×List Int×Bool:=zdO (zaM p) (zgn [] s.switches) 0 s.locks zcS zcS true
theorem zhl (ws:List WayR) (C:List (Int×Int)):∀ (l:List Lock) (i:Nat) (H A:List Int) (t:Bool),(zdO ws C i l H A t).1.length=H.length∧(zdO ws C i l H A t).2.1.length=A.length
 |[],_,_,_,_=>⟨rfl,rfl⟩
 |l::r,i,H,A,t=>by
  rw[zdO]
  have:=zhl ws C r (i+1) (zbs l.id (zbm (nth ws i) l) H t).1 (zeo l C (zbz (nth ws i) l) A (zbs l.id (zbm (nth ws i) l) H t).2).1 (zeo l C (zbz (nth ws i) l) A (zbs l.id (zbm (nth ws i) l) H t).2).2
  rw[ze5,zfg]at this
  exact this
def zae (p:Pln) (s:State):Int:=if zbq p=true then (if zal p s=true∧(zaF p s).2.2=true then 0 else 8) else 100
structure GripR where
 hold:List Int
 ask:List Int
 ways:List WayR
 err:Int
def ofR (p:Pln) (s:State):GripR:=if zae p s=0 then ⟨(zaF p s).1,(zaF p s).2.1,zaM p,0⟩ else ⟨zcS,zcS,[],zae p s⟩
theorem zhc (p:Pln) (s:State):(ofR p s).hold.length=100∧(ofR p s).ask.length=100:=by
 unfold ofR
 split
 ·have:=zhl (zaM p) (zgn [] s.switches) s.locks 0 zcS zcS true
  exact ⟨this.1.trans zbi,this.2.trans zbi⟩
 ·exact ⟨zbi,zbi⟩
theorem ziS (p:Pln) (s:State):(ofR p s).err=zae p s:=by
 unfold ofR
 split
 ·rename_i h;exact h.symm
 ·rfl
def SmS (s:State):Prop:=s.tracks.length≤1000∧s.switches.length≤1000∧s.locks.length≤1000
theorem zi5 {φ:AF} {σ:AS} {t u l:Nat} {g:List AV} {e:AV} {r:Bool} {n:Int} (h1:za7 φ t=.ptr l 201 0) (h2:zaC σ l=some (.cells g r)) (h3:g.length=201) (hs:List.take 201 g=g) (h4:za7 φ u=e) (h5:e=.n n):zdy φ σ [.cell t (some 201),.tmp u]=some (.tup [.agg g,.n n]):=by
 have h:zcl g 0 (some 201)=some (.agg g):=by
  rw[al_s,if_pos (by omega),seg,List.drop_zero,hs]
 subst h5
 simp only[zdy,zhE,ares,h1,h4,zcY,h2,h,h3,if_true]
theorem of_pc (hH:HasAll P inv) (hI:HasIds P inv) (p:Pln) (hp:Sm p) (s:State) (hs:SmS s):PC P inv 79 [.agg p.c,.agg s.c] (·=.tup [.agg (gc (ofR p s).hold (ofR p s).ask (.sl 4 ((ofR p s).ways.map Way.c))),.n (ofR p s).err]):=by
 have c0:=zeF hH hI p hp
 have hRl:=zhc p s
 have c1:zbq p=true→PC P inv 93 [.agg p.c,.agg s.c] (·=.tup [.agg (gc (if zal p s=true then (zaF p s).1 else zcS) (if zal p s=true then (zaF p s).2.1 else zcS) (.sl 4 ((if zal p s=true then zaM p else []).map Way.c))),.b (zal p s&&(zaF p s).2.2)]):=by
  intro ho
  cases hb:zal p s with
  |true=>simpa [zaF] using grip_ok hH hI p hp s hs ho hb
  |false =>
   simp only[zbq,Bool.and_eq_true]at ho
   simpa using grip_bad hH hI p hp s hs (zg9 ho.1) hb
 have hgl:=zhl (zaM p) (zgn [] s.switches) s.locks 0 zcS zcS true
 have hl1:(if zal p s=true then (zaF p s).1 else zcS).length=100:=by
  split
  ·exact hgl.1.trans zbi
  ·exact zbi
 have hl2:(if zal p s=true then (zaF p s).2.1 else zcS).length=100:=by
  split
  ·exact hgl.2.trans zbi
  ·exact zbi
 have hR:ofR p s=if zbq p=true then (if (zal p s&&(zaF p s).2.2)=true then ⟨(if zal p s=true then (zaF p s).1 else zcS),(if zal p s=true then (zaF p s).2.1 else zcS),(if zal p s=true then zaM p else []),0⟩ else ⟨zcS,zcS,[],8⟩) else ⟨zcS,zcS,[],100⟩:=by
  unfold ofR zae
  cases zbq p<;>cases zal p s<;>cases (zaF p s).2.2<;>rfl
 clear hgl
 unfold zdF at c0
 revert hR c1 hl1 hl2 c0 hRl
 generalize ofR p s=R
 generalize (if zal p s=true then (zaF p s).1 else zcS)=H
 generalize (if zal p s=true then (zaF p s).2.1 else zcS)=A
 generalize (if zal p s=true then zaM p else [])=ws
 generalize (zal p s&&(zaF p s).2.2)=t
 generalize zbq p=o
 obtain ⟨G,Z,hg⟩:=zjk
 rw[←hg.eq,←hg.z]
 intro c0 hRl c1 hl1 hl2 hR
 have hfold:=hg.fold
 have hlen0:=hg.len (.s0 4) hg.zl hg.zl
 have hlen:=hg.len (.sl 4 (ws.map Way.c)) hl1 hl2
 have hsg0:=hg.sg (.s0 4) hg.zl hg.zl
 have hsg:=hg.sg (.sl 4 (ws.map Way.c)) hl1 hl2
 have hov0:=hg.ov (.s0 4) (.s0 4) hg.zl hg.zl hg.zl hg.zl
 have hov:=hg.ov (.s0 4) (.sl 4 (ws.map Way.c)) hg.zl hg.zl hl1 hl2
 have hbd0:=hg.bd0 Z Z
 have hba0:=hg.ba0 Z Z
 have hbd:=hg.bd H A (ws.map Way.c)
 have hba:=hg.ba H A (ws.map Way.c)
 have hsn0:=hg.sn0 Z Z
 have hsn:=hg.sn H A (ws.map Way.c)
 cases o with
 |false =>
  rw[if_neg (by simp)]at hR c0
  subst hR
  refine PC.fn hH cd79 fun w0 M Q hM hE hQ hR=>?_;dsimp only[cd79,qm,ql,qf,qi,qb,qc,qp,qv,qN,qT,qF,qt]at hQ ⊢
  (have hX:=zA @hfold (zA @hlen0 (zA @hsg0 (zA @hov0 (zA @hbd0 @hba0))));(repeat' first|refine zaa [0,1,2,3,4,5,6,7,8,12,22] fun K hK=>?_|(refine hK.go ?_;clear hK K)|with_reducible exact wT|refine wA ?_|(refine wB (fun h=>?_) (fun h=>?_)<;>first|exact wN h|subst (h:(_:Bool)=_)|skip)|(refine wQ ?_;clear hQ hR hE hM)|refine wC c0 ?_|fail);all_goals clear hX)
  all_goals first|(exfalso;contradiction)|skip
  all_goals (refine hQ _ _ _ (zi5 rfl rfl hlen0 hsg0 rfl rfl) ?_;simp only[zeg,zbM,zdt,zeJ,sn_i,hsn0];rfl)
 |true =>
  rw[if_pos rfl]at hR c0
  have c1:=c1 rfl
  cases t with
  |false =>
   rw[if_neg (by simp)]at hR
   subst hR
   refine PC.fn hH cd79 fun w0 M Q hM hE hQ hR=>?_;dsimp only[cd79,qm,ql,qf,qi,qb,qc,qp,qv,qN,qT,qF,qt]at hQ ⊢
   (have hX:=zA @hfold (zA @hlen0 (zA @hsg0 (zA @hov0 (zA @hbd0 (zA @hba0 (zA @hlen (zA @hov (zA @hbd @hba))))))));(repeat' first|refine zaa [0,1,2,3,4,5,6,7,8,12,22] fun K hK=>?_|(refine hK.go ?_;clear hK K)|with_reducible exact wT|refine wA ?_|(refine wB (fun h=>?_) (fun h=>?_)<;>first|exact wN h|subst (h:(_:Bool)=_)|skip)|(refine wQ ?_;clear hQ hR hE hM)|refine wC c0 ?_|refine wC c1 ?_|fail);all_goals clear hX)
   all_goals first|(exfalso;contradiction)|skip
   all_goals (refine hQ _ _ _ (zi5 rfl rfl hlen0 hsg0 rfl rfl) ?_;simp only[zeg,zbM,zdt,zeJ,sn_i,hsn0];rfl)
  |true =>
   rw[if_pos rfl]at hR
   subst hR
   refine PC.fn hH cd79 fun w0 M Q hM hE hQ hR=>?_;dsimp only[cd79,qm,ql,qf,qi,qb,qc,qp,qv,qN,qT,qF,qt]at hQ ⊢
   (have hX:=zA @hfold (zA @hlen0 (zA @hsg0 (zA @hov0 (zA @hbd0 (zA @hba0 (zA @hlen (zA @hov (zA @hbd (zA @hba @hsg)))))))));(repeat' first|refine zaa [0,1,2,3,4,5,6,7,8,12,22] fun K hK=>?_|(refine hK.go ?_;clear hK K)|with_reducible exact wT|refine wA ?_|(refine wB (fun h=>?_) (fun h=>?_)<;>first|exact wN h|subst (h:(_:Bool)=_)|skip)|(refine wQ ?_;clear hQ hR hE hM)|refine wC c0 ?_|refine wC c1 ?_|fail);all_goals clear hX)
   all_goals first|(exfalso;contradiction)|skip
   all_goals (refine hQ _ _ _ (zi5 rfl rfl hlen hsg rfl rfl) ?_;simp only[zeg,zbM,zdt,zeJ,sn_i,hsn])
end Go.Lev
namespace Go.Lev
open Go.Eng
set_option maxRecDepth 10000
set_option maxHeartbeats 4000000
variable {P:Program} {inv:Nat→Option Nat} {w0:World} {M:Nat→Prop}
theorem zbH (hH:HasAll P inv) (hI:HasIds P inv) (p:Pln) (hp:Sm p) (s:State) (hs:SmS s):PC P inv 69 [.agg p.c,.agg s.c] (·=.n (zae p s)):=by
 have c0:=of_pc hH hI p hp s hs
 have hRl:=zhc p s
 have hRe:=ziS p s
 rw[←hRe]
 revert c0 hRl
 generalize ofR p s=R
 obtain ⟨G,Z,hg⟩:=zjk
 rw[←hg.eq]
 intro c0 hRl
 have hfold:=hg.fold
 have hlen0:=hg.len (.s0 4) hg.zl hg.zl
 have hlen:=hg.len (.sl 4 (R.ways.map Way.c)) hRl.1 hRl.2
 have hov:=hg.ov (.s0 4) (.sl 4 (R.ways.map Way.c)) hg.zl hg.zl hRl.1 hRl.2
 have hbd0:=hg.bd0 Z Z
 have hbd:=hg.bd R.hold R.ask (R.ways.map Way.c)
 have hba:=hg.ba R.hold R.ask (R.ways.map Way.c)
 refine PC.fn hH cd69 fun w0 M Q hM hE hQ hR=>?_;dsimp only[cd69,qm,ql,qf,qi,qb,qc,qp,qv,qN,qT,qF,qt]at hQ ⊢
 (have hX:=zA @hfold (zA @hlen0 (zA @hlen (zA @hov (zA @hbd0 (zA @hbd @hba)))));(repeat' first|refine zaa [0,1,2,3,4,6] fun K hK=>?_|(refine hK.go ?_;clear hK K)|with_reducible exact wT|refine wA ?_|(refine wB (fun h=>?_) (fun h=>?_)<;>first|exact wN h|subst (h:(_:Bool)=_)|skip)|(refine wQ ?_;clear hQ hR hE hM)|refine wC c0 ?_|fail);all_goals clear hX)
theorem zex {α:Type} (q:α→Bool) (l:List α):decide (0≤zbn q 0 l)=l.any q:=by
 have:∀ (l:List α) (k:Int),0≤k→(decide (0≤zbn q k l)=l.any q):=by
  intro l
  induction l with
  |nil=>intro k _;simp[zbn]
  |cons x r ih =>
   intro k hk
   rw[zbn,List.any_cons]
   cases h:q x with
   |true=>simp[hk]
   |false=>simpa using ih (k+1) (by omega)
 exact this l 0 (Int.le_refl _)
theorem hasSec (hH:HasAll P inv) {jc:Nat} {caps:List AV} {q:Section→Bool} (l:List Section) (hc:∀ x∈l,PC P inv jc ([.agg x.c]++caps) (·=.b (q x))) (hl:l.length≤1000000000):PC P inv 80 [.sl 3 (l.map Section.c),.fn jc caps] (·=.b (l.any q)):=by
 have c1:=zhi hH l hc hl
 have e:=zex q l
 refine PC.fn hH cd80 fun w0 M Q hM hE hQ hR=>?_;dsimp only[cd80,qm,ql,qf,qi,qb,qc,qp,qv,qN,qT,qF,qt]at hQ ⊢
 (have hX:=@e;(repeat' first|refine zaa [0,1,4] fun K hK=>?_|(refine hK.go ?_;clear hK K)|with_reducible exact wT|refine wA ?_|(refine wB (fun h=>?_) (fun h=>?_)<;>first|exact wN h|subst (h:(_:Bool)=_)|skip)|(refine wQ ?_;clear hQ hR hE hM)|refine wC c1 ?_|fail);all_goals clear hX)
theorem isSec81 (hH:HasAll P inv) (n:Int) (x:Section):PC P inv 81 ([.agg x.c]++[.ip 1 [[.n n]] 0 0]) (·=.b (decide (x.id=n))):=by
 refine PC.fn hH cd81 fun w0 M Q hM hE hQ hR=>?_;dsimp only[cd81,qm,ql,qf,qi,qb,qc,qp,qv,qN,qT,qF,qt]at hQ ⊢
 (repeat' first|refine zaa [0,1,2,3] fun K hK=>?_|(refine hK.go ?_;clear hK K)|with_reducible exact wT|refine wA ?_|(refine wB (fun h=>?_) (fun h=>?_)<;>first|exact wN h|subst (h:(_:Bool)=_)|skip)|(refine wQ ?_;clear hQ hR hE hM)|fail)
def zhg (p:Pln) (n:Int):Bool:=p.sections.any fun x=>decide (x.id=n)
def zhR (p:Pln) (n:Int):Bool:=p.points.any fun x=>decide (x.id=n)
def zey (p:Pln) (s:State) (n:Int):Int×Int:=if zae p s=0 then (if zhg p n=true then (nth (zaF p s).1 n.toNat,0) else (0,6)) else (0,zae p s)
def askedR (p:Pln) (s:State) (n:Int):Int×Int:=if zae p s=0 then (if zhR p n=true then (nth (zaF p s).2.1 n.toNat,0) else (0,6)) else (0,zae p s)
theorem zao {p:Pln} {s:State} (h:zae p s=0):OkP p:=by
 unfold zae at h
 split at h
 ·rename_i ho
  simp only[zbq,Bool.and_eq_true]at ho
  exact zg9 ho.1
 ·cases h
theorem zla {p:Pln} (hok:OkP p) {n:Int} (h:zhg p n=true):0≤n∧n<100:=by
 obtain ⟨x,hx,e⟩:=List.any_eq_true.1 h
 have:=zcA hok hx
 have:x.id=n:=by simpa using e
 omega
theorem GC.get1 {G:List Int→List Int→AV→List AV} {Z:List Int} (hg:GC G Z) {H A:List Int} (W:AV) (h:H.length=100) {i:Nat} (hi:i<100):(G H A W)[i]?=some (.n (nth H i)):=by rw[hg.eq];exact zoN h hi
theorem GC.get2 {G:List Int→List Int→AV→List AV} {Z:List Int} (hg:GC G Z) {H A:List Int} (W:AV) (h:H.length=100) (h':A.length=100) {i:Nat} (hi:i<100):(G H A W)[100+i]?=some (.n (nth A i)):=by rw[hg.eq];exact gc_get2 h h' hi
theorem zhj (hH:HasAll P inv) (hI:HasIds P inv) (p:Pln) (hp:Sm p) (s:State) (hs:SmS s) (n:Int):PC P inv 67 [.agg p.c,.agg s.c,.n n] (·=.tup [.n (zey p s n).1,.n (zey p s n).2]):=by
 have c0:=of_pc hH hI p hp s hs
 have c1:=hasSec hH p.sections (fun x _=>isSec81 hH n x) (Nat.le_trans hp.sec (by omega))
 have hRl:=zhc p s
 have hRe:=ziS p s
 have hRh:zae p s=0→(ofR p s).hold=(zaF p s).1:=fun h=>by unfold ofR;rw[if_pos h]
 have hr:zae p s=0→zhg p n=true→0≤n∧n<100:=fun h1 h2=>zla (zao h1) h2
 rw[show (p.sections.any fun x=>decide (x.id=n))=zhg p n from rfl]at c1
 unfold zey
 revert c0 c1 hRl hRe hRh hr
 generalize ofR p s=R
 generalize zae p s=e
 generalize zhg p n=t
 generalize (zaF p s).1=H
 obtain ⟨G,Z,hg⟩:=zjk
 rw[←hg.eq]
 intro c0 c1 hRl hRe hRh hr
 have hfold:=hg.fold
 have hlen0:=hg.len (.s0 4) hg.zl hg.zl
 have hlen:=hg.len (.sl 4 (R.ways.map Way.c)) hRl.1 hRl.2
 have hov:=hg.ov (.s0 4) (.sl 4 (R.ways.map Way.c)) hg.zl hg.zl hRl.1 hRl.2
 have hbd0:=hg.bd0 Z Z
 have hbd:=hg.bd R.hold R.ask (R.ways.map Way.c)
 have hba:=hg.ba R.hold R.ask (R.ways.map Way.c)
 by_cases he:e=0
 ·rw[if_pos he]
  rw[hRe]at c0
  subst he
  cases t with
  |false =>
   rw[if_neg (by simp)]
   refine PC.fn hH cd67 fun w0 M Q hM hE hQ hR=>?_;dsimp only[cd67,qm,ql,qf,qi,qb,qc,qp,qv,qN,qT,qF,qt]at hQ ⊢
   (have hX:=zA @hfold (zA @hlen0 (zA @hlen (zA @hov (zA @hbd0 (zA @hbd @hba)))));(repeat' first|refine zaa [0,1,2,3,4,5,6,7,8,9,17,23] fun K hK=>?_|(refine hK.go ?_;clear hK K)|with_reducible exact wT|refine wA ?_|(refine wB (fun h=>?_) (fun h=>?_)<;>first|exact wN h|subst (h:(_:Bool)=_)|skip)|(refine wQ ?_;clear hQ hR hE hM)|refine wC c0 ?_|refine wS c1 ?_|fail);all_goals clear hX)
   all_goals first|rfl|(exfalso;contradiction)|skip
  |true =>
   rw[if_pos rfl]
   have hr:=hr rfl rfl
   have hget:=hg.get1 (A:=R.ask) (.sl 4 (R.ways.map Way.c)) hRl.1 (i:=n.toNat) (by omega)
   rw[hRh rfl]at hget hlen hov hbd hba c0
   refine PC.fn hH cd67 fun w0 M Q hM hE hQ hR=>?_;dsimp only[cd67,qm,ql,qf,qi,qb,qc,qp,qv,qN,qT,qF,qt]at hQ ⊢
   (have hX:=zA @hfold (zA @hlen0 (zA @hlen (zA @hov (zA @hbd0 (zA @hbd (zA @hba @hget))))));(repeat' first|refine zaa [0,1,2,3,4,5,6,7,8,9,17,23] fun K hK=>?_|(refine hK.go ?_;clear hK K)|with_reducible exact wT|refine wA ?_|(refine wB (fun h=>?_) (fun h=>?_)<;>first|exact wN h|subst (h:(_:Bool)=_)|skip)|(refine wQ ?_;clear hQ hR hE hM)|refine wC c0 ?_|refine wS c1 ?_|fail);all_goals clear hX)
   all_goals first|rfl|(exfalso;contradiction)|skip
 ·rw[if_neg he]
  rw[hRe]at c0
  refine PC.fn hH cd67 fun w0 M Q hM hE hQ hR=>?_;dsimp only[cd67,qm,ql,qf,qi,qb,qc,qp,qv,qN,qT,qF,qt]at hQ ⊢
  (have hX:=zA @hfold (zA @hlen0 (zA @hlen (zA @hov (zA @hbd0 (zA @hbd @hba)))));(repeat' first|refine zaa [0,1,2,3,4,5,6,7,8,9,17,23] fun K hK=>?_|(refine hK.go ?_;clear hK K)|with_reducible exact wT|refine wA ?_|(refine wB (fun h=>?_) (fun h=>?_)<;>first|exact wN h|subst (h:(_:Bool)=_)|skip)|(refine wQ ?_;clear hQ hR hE hM)|refine wC c0 ?_|fail);all_goals clear hX)
  all_goals first|rfl|(exfalso;contradiction)|skip
end Go.Lev
namespace Go.Lev
open Go.Eng
set_option maxRecDepth 10000
set_option maxHeartbeats 4000000
variable {P:Program} {inv:Nat→Option Nat}
def kept (a b:State):Bool:=zaK keptSw a.switches b.switches&&zaK keptLk a.locks b.locks
end Go.Lev
namespace Go.Lev
open Go.Eng
set_option maxRecDepth 10000
set_option maxHeartbeats 4000000
variable {P:Program} {inv:Nat→Option Nat}
theorem sTwin_po (hH:HasAll P inv) (s:State) (h1:s.tracks.length≤1000000) (h2:s.switches.length≤1000000) (h3:s.locks.length≤1000000):PO P inv 9 [.agg s.c] (.agg [.sm 2 (s.tracks.length*2) 0 s.tracks.length 2,.sm 3 (s.switches.length*3) 0 s.switches.length 3,.sm 4 (s.locks.length*4) 0 s.locks.length 4])
  [(2,.cells (s.tracks.map Track.c).flatten (decide (0<s.tracks.length))),(3,.cells (s.switches.map Switch.c).flatten (decide (0<s.switches.length))),(4,.cells (s.locks.map Lock.c).flatten (decide (0<s.locks.length)))]:=by
 have c1:=zjd hH s.tracks h1
 have c2:=zhW hH s.switches h2
 have c3:=zki hH s.locks h3
 refine PO.fn hH cd9 fun w0 M Q hM hE hQ hR=>?_;dsimp only[cd9,qm,ql,qf,qi,qb,qc,qp,qv,qN,qT,qF,qt]at hQ ⊢
 (repeat' first|refine zaa [0,1,2,11] fun K hK=>?_|(refine hK.go ?_;clear hK K)|with_reducible exact wT|refine wA ?_|(refine wB (fun h=>?_) (fun h=>?_)<;>first|exact wN h|subst (h:(_:Bool)=_)|skip)|(refine wR ?_;clear hQ hR hE hM)|refine wO c1 ?_|refine wO c2 ?_|refine wO c3 ?_|fail)
 left
 constructor
 ·(refine no_implicit_lambda% (st ?_);try with_reducible exact wT)
 ·(refine no_implicit_lambda% (st ?_);try with_reducible exact wT)
end Go.Lev
namespace Go.Lev
open Go.Eng
set_option maxRecDepth 10000
set_option maxHeartbeats 4000000
variable {P:Program} {inv:Nat→Option Nat} {w0:World} {M:Nat→Prop}
def stV (s:State):AV:=.agg [.sm 2 (s.tracks.length*2) 0 s.tracks.length 2,.sm 3 (s.switches.length*3) 0 s.switches.length 3,.sm 4 (s.locks.length*4) 0 s.locks.length 4]
def stR (s:State):List (Nat×AO):=[(2,.cells (s.tracks.map Track.c).flatten (decide (0<s.tracks.length))),(3,.cells (s.switches.map Switch.c).flatten (decide (0<s.switches.length))),(4,.cells (s.locks.map Lock.c).flatten (decide (0<s.locks.length)))]
def zky (b:Nat) (s:State):AV:=.agg [.sm b (s.tracks.length*2) 0 s.tracks.length 2,.sm (b+1) (s.switches.length*3) 0 s.switches.length 3,.sm (b+2) (s.locks.length*4) 0 s.locks.length 4]
def zkz (b:Nat) (s:State):List (Nat×AO):=[(b,.cells (s.tracks.map Track.c).flatten (decide (0<s.tracks.length))),(b+1,.cells (s.switches.map Switch.c).flatten (decide (0<s.switches.length))),(b+2,.cells (s.locks.map Lock.c).flatten (decide (0<s.locks.length)))]
theorem zjq (b:Nat) (s:State):zdG 4 (zkz b s) (zky b s)=.agg s.c:=by
 have h1:(b+1=b)=False:=by simp
 have h2:(b+2=b)=False:=by simp
 have h3:(b+2=b+1)=False:=by simp
 unfold zkz zky
 simp -dsimp -implicitDefEqProofs (disch:=omega) only[go_sem,reduceIte,↓reduceIte,Nat.reduceEqDiff,Nat.reduceLT,Nat.reduceLeDiff,Nat.reduceAdd,Nat.reduceSub,Nat.reduceMul,Int.reduceToNat,Int.reduceLT,Int.reduceLE,Int.reduceEq,Int.reduceNeg,Int.reduceNe,reduceCtorEq,h1,h2,h3,if_false]
theorem zdW (b:Nat) (s:State) (e:Int):zdG 4 (zkz b s) (.tup [zky b s,.n e])=.tup [.agg s.c,.n e]:=by
 rw[zeg,zbM,zbM,zdt,zjq,sn_i]
theorem zc3 (hH:HasAll P inv) (s:State) (hs:SmS s):PO P inv 9 [.agg s.c] (stV s) (stR s):=by
 have:=hs.1
 have:=hs.2.1
 have:=hs.2.2
 exact sTwin_po hH s (by omega) (by omega) (by omega)
def State.z:State:=⟨[],[],[]⟩
def atS (p:Pln):State:=⟨p.sections.map fun x=>⟨x.id,2⟩,p.points.map fun x=>⟨x.id,0,0⟩,p.routes.map fun x=>⟨x.id,0,0,0⟩⟩
def atR (p:Pln):State:=if zbq p=true then atS p else State.z
theorem sAt_po (hH:HasAll P inv) (hI:HasIds P inv) (p:Pln) (hp:Sm p) (ho:zbq p=true):PO P inv 65 [.agg p.c] (.tup [stV (atS p),.n 0]) (stR (atS p)):=by
 have c0:=zeF hH hI p hp
 rw[show zdF p=0 by unfold zdF;rw[if_pos ho]]at c0
 have h1:=hp.sec
 have h2:=hp.pts
 have h3:=hp.rte
 refine PO.fn hH cd65 fun w0 M Q hM hE hQ hR=>?_;dsimp only[cd65,qm,ql,qf,qi,qb,qc,qp,qv,qN,qT,qF,qt]at hQ ⊢
 (repeat' first|refine zaa [0,1,2,3,5,7,9,13,15,16,17,18,31,32,33,34,47,48,49,50] fun K hK=>?_|(refine hK.go ?_;clear hK K)|with_reducible exact wT|refine wA ?_|(refine wB (fun h=>?_) (fun h=>?_)<;>first|exact wN h|subst (h:(_:Bool)=_)|skip)|(refine wR ?_;clear hQ hR hE hM)|refine wC c0 ?_|fail)
 all_goals first|(exfalso;contradiction)|skip
 refine zde 1 0 2 2 rfl rfl (Nat.zero_le _) (by (refine no_implicit_lambda% (st ?_);try with_reducible exact wT)) (by (refine no_implicit_lambda% (st ?_);try with_reducible exact wT)) ?_
 refine zde 1 1 3 3 rfl rfl (Nat.zero_le _) (by (refine no_implicit_lambda% (st ?_);try with_reducible exact wT)) (by (refine no_implicit_lambda% (st ?_);try with_reducible exact wT)) ?_
 refine zde 1 2 4 4 rfl rfl (Nat.zero_le _) (by (refine no_implicit_lambda% (st ?_);try with_reducible exact wT)) (by (refine no_implicit_lambda% (st ?_);try with_reducible exact wT)) ?_
 (refine no_implicit_lambda% (st ?_);try with_reducible exact wT)
 refine zat (ι:=Nat×(List Track)) [1,2,3,15,16,17] (fun z=>[(17,.n z.1)]) (fun z=>[(1,.cells [.sm 2 (z.2.length*2) 0 z.2.length 2,.sm 3 0 0 0 3,.sm 4 0 0 0 4] true),(2,.cells (z.2.map Track.c).flatten (decide (0<z.2.length)))]) (fun z=>z.1) (p.sections.length) (fun z=>(z.2.length=z.1)∧(z.2++(p.sections.drop z.1).map (fun x=>(⟨x.id,2⟩:Track))=(atS p).tracks)) (0,([]:List Track)) ?_;rintro ⟨k,ts⟩ ⟨hk,hl,hg⟩;(try dsimp only at hk hl hg ⊢);rcases Nat.lt_or_ge k p.sections.length with hlt|hge
 ·rw[zah hlt,List.map_cons]at hg
  (repeat' first|refine zaa [0,1,2,3,5,7,9,13,15,16,17,18,31,32,33,34,47,48,49,50] fun K hK=>?_|(refine hK.go ?_;clear hK K)|with_reducible exact wT|refine wA ?_|(refine wB (fun h=>?_) (fun h=>?_)<;>first|exact wN h|subst (h:(_:Bool)=_)|skip)|(refine wR ?_;clear hQ hR hE hM)|fail)
  exact nY (k+1,ts++[⟨(nth p.sections k).id,2⟩]) ⟨by (try dsimp only);omega,by (try dsimp only);simp[hl],by (try dsimp only);rw[←hg];simp⟩
 ·rw[List.drop_eq_nil_of_le hge,List.map_nil,List.append_nil]at hg
  (repeat' first|refine zaa [0,1,2,3,5,7,9,13,15,16,17,18,31,32,33,34,47,48,49,50] fun K hK=>?_|(refine hK.go ?_;clear hK K)|with_reducible exact wT|refine wA ?_|(refine wB (fun h=>?_) (fun h=>?_)<;>first|exact wN h|subst (h:(_:Bool)=_)|skip)|(refine wR ?_;clear hQ hR hE hM)|fail)
  refine zat (ι:=Nat×(List Switch)) [1,2,3,31,32,33] (fun z=>[(33,.n z.1)]) (fun z=>[(1,.cells [.sm 2 (ts.length*2) 0 ts.length 2,.sm 3 (z.2.length*3) 0 z.2.length 3,.sm 4 0 0 0 4] true),(3,.cells (z.2.map Switch.c).flatten (decide (0<z.2.length)))]) (fun z=>z.1) (p.points.length) (fun z=>(z.2.length=z.1)∧(z.2++(p.points.drop z.1).map (fun x=>(⟨x.id,0,0⟩:Switch))=(atS p).switches)) (0,([]:List Switch)) ?_;rintro ⟨k2,ss⟩ ⟨hk,hl2,hg2⟩;(try dsimp only at hk hl2 hg2 ⊢);rcases Nat.lt_or_ge k2 p.points.length with hlt|hge
  ·rw[zah (by assumption),List.map_cons]at hg2
   (repeat' first|refine zaa [0,1,2,3,5,7,9,13,15,16,17,18,31,32,33,34,47,48,49,50] fun K hK=>?_|(refine hK.go ?_;clear hK K)|with_reducible exact wT|refine wA ?_|(refine wB (fun h=>?_) (fun h=>?_)<;>first|exact wN h|subst (h:(_:Bool)=_)|skip)|(refine wR ?_;clear hQ hR hE hM)|fail)
   exact nY (k2+1,ss++[⟨(nth p.points k2).id,0,0⟩]) ⟨by (try dsimp only);omega,by (try dsimp only);simp[hl2],by (try dsimp only);rw[←hg2];simp⟩
  ·rw[List.drop_eq_nil_of_le (by assumption),List.map_nil,List.append_nil]at hg2
   (repeat' first|refine zaa [0,1,2,3,5,7,9,13,15,16,17,18,31,32,33,34,47,48,49,50] fun K hK=>?_|(refine hK.go ?_;clear hK K)|with_reducible exact wT|refine wA ?_|(refine wB (fun h=>?_) (fun h=>?_)<;>first|exact wN h|subst (h:(_:Bool)=_)|skip)|(refine wR ?_;clear hQ hR hE hM)|fail)
   refine zat (ι:=Nat×(List Lock)) [2,3,47,48,49] (fun z=>[(49,.n z.1)]) (fun z=>[(1,.cells [.sm 2 (ts.length*2) 0 ts.length 2,.sm 3 (ss.length*3) 0 ss.length 3,.sm 4 (z.2.length*4) 0 z.2.length 4] true),(4,.cells (z.2.map Lock.c).flatten (decide (0<z.2.length)))]) (fun z=>z.1) (p.routes.length) (fun z=>(z.2.length=z.1)∧(z.2++(p.routes.drop z.1).map (fun x=>(⟨x.id,0,0,0⟩:Lock))=(atS p).locks)) (0,([]:List Lock)) ?_;rintro ⟨k3,ls⟩ ⟨hk,hl3,hg3⟩;(try dsimp only at hk hl3 hg3 ⊢);rcases Nat.lt_or_ge k3 p.routes.length with hlt|hge
   ·rw[zah (by assumption),List.map_cons]at hg3
    (repeat' first|refine zaa [0,1,2,3,5,7,9,13,15,16,17,18,31,32,33,34,47,48,49,50] fun K hK=>?_|(refine hK.go ?_;clear hK K)|with_reducible exact wT|refine wA ?_|(refine wB (fun h=>?_) (fun h=>?_)<;>first|exact wN h|subst (h:(_:Bool)=_)|skip)|(refine wR ?_;clear hQ hR hE hM)|fail)
    exact nY (k3+1,ls++[⟨(nth p.routes k3).id,0,0,0⟩]) ⟨by (try dsimp only);omega,by (try dsimp only);simp[hl3],by (try dsimp only);rw[←hg3];simp⟩
   ·rw[List.drop_eq_nil_of_le (by assumption),List.map_nil,List.append_nil]at hg3
    (repeat' first|refine zaa [0,1,2,3,5,7,9,13,15,16,17,18,31,32,33,34,47,48,49,50] fun K hK=>?_|(refine hK.go ?_;clear hK K)|with_reducible exact wT|refine wA ?_|(refine wB (fun h=>?_) (fun h=>?_)<;>first|exact wN h|subst (h:(_:Bool)=_)|skip)|(refine wR ?_;clear hQ hR hE hM)|fail)
    left
    unfold stV stR
    rw[←hg,←hg2,←hg3]
    constructor
    ·(refine no_implicit_lambda% (st ?_);try with_reducible exact wT)
    ·(refine no_implicit_lambda% (st ?_);try with_reducible exact wT)
end Go.Lev
namespace Go.Lev
open Go.Eng
set_option maxRecDepth 10000
set_option maxHeartbeats 4000000
variable {P:Program} {inv:Nat→Option Nat} {w0:World} {M:Nat→Prop}
section upd
variable {α:Type} [Inhabited α]
def zf4 (f:Nat→α→α) (k:Nat) (l:List α):List α:=(l.mapIdx f).take k++l.drop k
theorem zcL (f:Nat→α→α) (k:Nat) (l:List α):(zf4 f k l).length=l.length:=by simp[zf4];omega
theorem znu (f:Nat→α→α) (l:List α):zf4 f 0 l=l:=by simp[zf4]
theorem zgf (f:Nat→α→α) {k:Nat} {l:List α} (h:l.length≤k):zf4 f k l=l.mapIdx f:=by
 unfold zf4
 rw[List.take_of_length_le (by simpa using h),List.drop_eq_nil_of_le h,List.append_nil]
theorem zdV (f:Nat→α→α) {k:Nat} {l:List α} (h:k<l.length):nth (zf4 f k l) k=nth l k:=by
 rw[zaN (by rw[zcL];exact h),zaN h]
 unfold zf4
 rw[List.getElem_append_right (by simp;omega)]
 simp[Nat.min_eq_left (Nat.le_of_lt h)]
theorem zge (f:Nat→α→α) {k:Nat} {l:List α} (h:k<l.length):(zf4 f k l).set k (f k (nth l k))=zf4 f (k+1) l:=by
 unfold zf4
 rw[List.set_append_right _ _ (by simp;omega),List.length_take,List.length_mapIdx,Nat.min_eq_left (Nat.le_of_lt h),Nat.sub_self,zah h,List.set_cons_zero]
 rw[show (l.mapIdx f).take (k+1)=(l.mapIdx f).take k++[f k (nth l k)] by
  rw[List.take_succ_eq_append_getElem (by simpa using h),List.getElem_mapIdx,zaN h]]
 simp
attribute [go_sem] znu zcL
end upd
def imgT (_:Nat) (t:Track):Track:=⟨t.id,2⟩
def imgW (_:Nat) (x:Switch):Switch:=⟨x.id,0,x.call⟩
def imgK (p:Pln) (i:Nat) (l:Lock):Lock:=if 0<l.left then ⟨l.id,l.phase,l.gone,(nth p.routes i).timer⟩ else l
def imgS (p:Pln) (s:State):State:=⟨s.tracks.mapIdx imgT,s.switches.mapIdx imgW,s.locks.mapIdx (imgK p)⟩
theorem zap {p:Pln} {s:State} (h:zal p s=true):s.tracks.length=p.sections.length∧s.switches.length=p.points.length∧s.locks.length=p.routes.length:=by
 simp only[zal,Bool.and_eq_true]at h
 exact ⟨zbF h.1,zbF h.2.1,zbF h.2.2⟩
theorem zad {p:Pln} {s:State} (h:zae p s=0):zbq p=true∧zal p s=true∧(zaF p s).2.2=true:=by
 unfold zae at h
 split at h
 ·rename_i h1
  split at h
  ·rename_i h2;exact ⟨h1,h2⟩
  ·cases h
 ·cases h
def imageR (p:Pln) (s:State):State:=if zae p s=0 then imgS p s else State.z
end Go.Lev
namespace Go.Lev
open Go.Eng
abbrev WL:=WayR×Lock
def hdl (z:WL):List Int:=zbm z.1 z.2
def asl (z:WL):List AskR:=(zbz z.1 z.2).filter (zcX z.2)
theorem zid (n:Int) (hn:n≠0):∀ (l H:List Int) (t:Bool),H.length=100→(∀ s∈l,0≤s∧s≤99) →
  ((zbs n l H t).2=true↔t=true∧(∀ s∈l,nth H s.toNat=0)∧l.Nodup) ∧
  ((zbs n l H t).2=true→(∀ s∈l,nth (zbs n l H t).1 s.toNat=n)∧∀ k:Nat,(∀ s∈l,s.toNat≠k)→nth (zbs n l H t).1 k=nth H k)
 |[],H,t,_,_=>by simp[zbs]
 |s::r,H,t,hH,hs=>by
  rw[zbs]
  have h0:=hs s (by simp)
  split
  ·rename_i hc
   obtain ⟨rfl,hc⟩:=hc
   have ih:=zid n hn r (H.set s.toNat n) true (by simpa using hH) fun x hx=>hs x (by simp[hx])
   have key:(∀ x∈r,nth (H.set s.toNat n) x.toNat=0)↔(∀ x∈r,nth H x.toNat=0)∧s∉r:=by
    constructor
    ·intro h
     have hne:∀ x∈r,x≠s:=fun x hx e=>by
      have:=h x hx
      rw[e,zbr _ _ _ _ (by omega),if_pos rfl]at this
      exact hn this
     refine ⟨fun x hx=>?_,fun hx=>hne s hx rfl⟩
     have h1:=h x hx
     have h2:=hs x (by simp[hx])
     rw[zbr _ _ _ _ (by omega),if_neg (by have:=hne x hx;omega)]at h1
     exact h1
    ·rintro ⟨h1,h2⟩ x hx
     have h3:=hs x (by simp[hx])
     rw[zbr _ _ _ _ (by omega),if_neg (fun e=>h2 (by rw[show s=x by omega];exact hx))]
     exact h1 x hx
   refine ⟨?_, ?_⟩
   ·rw[ih.1,key]
    simp only[List.mem_cons,forall_eq_or_imp,List.nodup_cons,true_and]
    constructor
    ·rintro ⟨⟨h1,h2⟩,h3⟩;exact ⟨⟨hc,h1⟩,h2,h3⟩
    ·rintro ⟨⟨_,h1⟩,h2,h3⟩;exact ⟨⟨h1,h2⟩,h3⟩
   ·intro ht
    have h2:=ih.2 ht
    have h3:=(ih.1.1 ht).2
    rw[key]at h3
    refine ⟨fun x hx=>?_,fun k hk=>?_⟩
    ·rcases List.mem_cons.1 hx with rfl|hx
     ·rw[h2.2 _ (fun y hy e=>h3.1.2 (by have:=hs y (by simp[hy]);rw[show x=y by omega];exact hy)),zbr _ _ _ _ (by omega),if_pos rfl]
     ·exact h2.1 x hx
    ·rw[h2.2 k fun y hy=>hk y (by simp[hy]),zbr _ _ _ _ (by omega),if_neg (fun e=>hk s (by simp) e.symm)]
  ·rename_i hc
   refine ⟨?_,fun h=>by cases h⟩
   simp only[Bool.false_eq_true,false_iff,not_and]
   intro ht h1
   exact absurd ⟨ht,h1 s (by simp)⟩ hc
theorem zff (l:Lock) (C:List (Int×Int)):∀ (q:List AskR) (A:List Int) (t:Bool),A.length=100→(∀ a∈q,0≤a.pnt∧a.pnt≤99) →
  ((zeo l C q A t).2=true↔t=true∧∀ a∈q.filter (zcX l),zfi C a.pnt=a.lie) ∧
  ((zeo l C q A t).2=true→(∀ a∈q.filter (zcX l),nth (zeo l C q A t).1 a.pnt.toNat=a.lie)∧∀ k:Nat,(∀ a∈q.filter (zcX l),a.pnt.toNat≠k)→nth (zeo l C q A t).1 k=nth A k)
 |[],A,t,_,_=>by simp[zeo]
 |a::r,A,t,hA,hs=>by
  rw[zeo]
  have h0:=hs a (by simp)
  by_cases ho:zcX l a=true
  ·rw[if_pos ho,List.filter_cons_of_pos ho]
   split
   ·rename_i hc
    obtain ⟨rfl,hc⟩:=hc
    have ih:=zff l C r (A.set a.pnt.toNat a.lie) true (by simpa using hA) fun x hx=>hs x (by simp[hx])
    refine ⟨?_, ?_⟩
    ·rw[ih.1]
     simp only[List.mem_cons,forall_eq_or_imp,true_and]
     exact ⟨fun h=>⟨hc,h⟩,fun h=>h.2⟩
    ·intro ht
     have h2:=ih.2 ht
     have h3:=(ih.1.1 ht).2
     refine ⟨fun x hx=>?_,fun k hk=>?_⟩
     ·rcases List.mem_cons.1 hx with rfl|hx
      ·rcases Classical.em (∃ y∈r.filter (zcX l),y.pnt.toNat=x.pnt.toNat) with ⟨y,hy,e⟩|h4
       ·have h5:=hs y (by simp[(List.mem_filter.1 hy).1])
        have h6:=h2.1 y hy
        rw[e]at h6
        rw[h6,←h3 y hy,←hc,show y.pnt=x.pnt by omega]
       ·rw[h2.2 _ (fun y hy e=>h4 ⟨y,hy,e⟩),zbr _ _ _ _ (by omega),if_pos rfl]
      ·exact h2.1 x hx
     ·rw[h2.2 k fun y hy=>hk y (by simp[hy]),zbr _ _ _ _ (by omega),if_neg (fun e=>hk a (by simp) e.symm)]
   ·rename_i hc
    refine ⟨?_,fun h=>by cases h⟩
    simp only[Bool.false_eq_true,false_iff,not_and]
    intro ht h1
    exact absurd ⟨ht,h1 a (by simp)⟩ hc
  ·rw[if_neg ho,List.filter_cons_of_neg ho]
   exact zff l C r A t hA fun x hx=>hs x (by simp[hx])
def zez (C:List (Int×Int)):List WL→List Int→List Int→Bool→List Int×List Int×Bool
 |[],H,A,t=>(H,A,t)
 |z::r,H,A,t=>zez C r (zbs z.2.id (zbm z.1 z.2) H t).1 (zeo z.2 C (zbz z.1 z.2) A (zbs z.2.id (zbm z.1 z.2) H t).2).1 (zeo z.2 C (zbz z.1 z.2) A (zbs z.2.id (zbm z.1 z.2) H t).2).2
theorem zoH (ws:List WayR) (C:List (Int×Int)):∀ (l:List Lock) (i:Nat) (H A:List Int) (t:Bool),i+l.length=ws.length→zdO ws C i l H A t=zez C ((ws.drop i).zip l) H A t
 |[],i,H,A,t,_=>by rw[zdO,List.zip_nil_right,zez]
 |x::r,i,H,A,t,h=>by
  simp only[List.length_cons]at h
  rw[zdO,zah (show i<ws.length by omega),List.zip_cons_cons,zez,zoH ws C r (i+1) _ _ _ (by omega)]
structure ZOk (Z:List WL):Prop where
 id:∀ z∈Z,z.2.id≠0
 sec:∀ z∈Z,∀ n∈hdl z,0≤n∧n≤99
 pnt:∀ z∈Z,∀ a∈zbz z.1 z.2,0≤a.pnt∧a.pnt≤99
theorem zlh (C:List (Int×Int)):∀ (Z:List WL) (H A:List Int),(zez C Z H A false).2.2=false
 |[],H,A=>rfl
 |z::r,H,A=>by
  rw[zez]
  have h1:(zbs z.2.id (zbm z.1 z.2) H false).2=false:=by
   cases zbm z.1 z.2 with
   |nil=>rfl
   |cons s q=>rw[zbs,if_neg (by simp)]
  have h2:∀ q:List AskR,(zeo z.2 C q A false).2=false:=by
   intro q
   induction q with
   |nil=>rfl
   |cons a q ih =>
    rw[zeo]
    split
    ·rw[if_neg (by simp)]
    ·exact ih
  rw[h1,h2]
  exact zlh C r _ _
theorem zd5 (C:List (Int×Int)):∀ (Z:List WL) (H A:List Int),ZOk Z→H.length=100→A.length=100 →
  ((zez C Z H A true).2.2=true↔(∀ z∈Z,(∀ n∈hdl z,nth H n.toNat=0)∧(hdl z).Nodup∧∀ a∈asl z,zfi C a.pnt=a.lie)∧Z.Pairwise fun z z'=>∀ n∈hdl z,n∉hdl z') ∧
  ((zez C Z H A true).2.2=true→(∀ z∈Z,(∀ n∈hdl z,nth (zez C Z H A true).1 n.toNat=z.2.id)∧∀ a∈asl z,nth (zez C Z H A true).2.1 a.pnt.toNat=a.lie) ∧
   (∀ k:Nat,(∀ z∈Z,∀ n∈hdl z,n.toNat≠k)→nth (zez C Z H A true).1 k=nth H k)∧(∀ k:Nat,(∀ z∈Z,∀ a∈asl z,a.pnt.toNat≠k)→nth (zez C Z H A true).2.1 k=nth A k))
 |[],H,A,_,_,_=>by simp[zez]
 |z::r,H,A,hZ,hH,hA=>by
  have hZr:ZOk r:=⟨fun y hy=>hZ.id y (by simp[hy]),fun y hy=>hZ.sec y (by simp[hy]),fun y hy=>hZ.pnt y (by simp[hy])⟩
  have hs:=zid z.2.id (hZ.id z (by simp)) (zbm z.1 z.2) H true hH (hZ.sec z (by simp))
  have hse:∀ n∈hdl z,0≤n∧n≤99:=hZ.sec z (by simp)
  have hlen:=ze5 z.2.id (zbm z.1 z.2) H true
  rw[zez]
  rw[show zbm z.1 z.2=hdl z from rfl]at hs hlen ⊢
  revert hs hlen
  generalize zbs z.2.id (hdl z) H true=HT
  intro hs hlen
  cases ht:HT.2 with
  |false =>
   have hf:(zeo z.2 C (zbz z.1 z.2) A false).2=false:=by
    have:=(zff z.2 C (zbz z.1 z.2) A false hA (hZ.pnt z (by simp))).1
    cases h:(zeo z.2 C (zbz z.1 z.2) A false).2 with
    |false=>rfl
    |true=>have:=(this.1 h).1;cases this
   rw[hf,zlh]
   refine ⟨?_,fun h=>by cases h⟩
   simp only[Bool.false_eq_true,false_iff,not_and]
   intro h1 _
   have h2:=h1 z (by simp)
   have h3:=hs.1.2 ⟨rfl,h2.1,h2.2.1⟩
   rw[ht]at h3
   cases h3
  |true =>
   have hs1:=(hs.1.1 ht).2
   have hs2:=hs.2 ht
   have ha:=zff z.2 C (zbz z.1 z.2) A true hA (hZ.pnt z (by simp))
   have hpn:=hZ.pnt z (by simp)
   have halen:=zfg z.2 C (zbz z.1 z.2) A true
   rw[show (zbz z.1 z.2).filter (zcX z.2)=asl z from rfl]at ha
   revert ha halen
   generalize zeo z.2 C (zbz z.1 z.2) A true=AT
   intro ha halen
   cases hat:AT.2 with
   |false =>
    rw[zlh]
    refine ⟨?_,fun h=>by cases h⟩
    simp only[Bool.false_eq_true,false_iff,not_and]
    intro h1 _
    have h3:=ha.1.2 ⟨rfl,(h1 z (by simp)).2.2⟩
    rw[hat]at h3
    cases h3
   |true =>
    have ha1:=(ha.1.1 hat).2
    have ha2:=ha.2 hat
    have ih:=zd5 C r HT.1 AT.1 hZr (by omega) (by omega)
    have key:∀ y∈r,((∀ n∈hdl y,nth HT.1 n.toNat=0)↔(∀ n∈hdl y,nth H n.toNat=0)∧∀ n∈hdl z,n∉hdl y):=by
     intro y hy
     constructor
     ·intro h
      have hne:∀ n∈hdl z,n∉hdl y:=fun n hn hny=>by
       have:=h n hny
       rw[hs2.1 n hn]at this
       exact hZ.id z (by simp) this
      refine ⟨fun n hn=>?_,hne⟩
      have:=h n hn
      rw[hs2.2 _ (fun m hm e=>hne m hm (by have:=hse m hm;have:=hZ.sec y (by simp[hy]) n hn;rw[show m=n by omega];exact hn))]at this
      exact this
     ·rintro ⟨h1,h2⟩ n hn
      rw[hs2.2 _ (fun m hm e=>h2 m hm (by have:=hse m hm;have:=hZ.sec y (by simp[hy]) n hn;rw[show m=n by omega];exact hn))]
      exact h1 n hn
    refine ⟨?_, ?_⟩
    ·rw[ih.1]
     simp only[List.mem_cons,forall_eq_or_imp,List.pairwise_cons]
     constructor
     ·rintro ⟨h1,h2⟩
      refine ⟨⟨⟨hs1.1,hs1.2,ha1⟩,fun y hy=>⟨((key y hy).1 (h1 y hy).1).1,(h1 y hy).2⟩⟩,fun y hy=>((key y hy).1 (h1 y hy).1).2,h2⟩
     ·rintro ⟨⟨_,h1⟩,h3,h2⟩
      exact ⟨fun y hy=>⟨(key y hy).2 ⟨(h1 y hy).1,h3 y hy⟩,(h1 y hy).2⟩,h2⟩
    ·intro hg
     have h1:=ih.2 hg
     have h2:=ih.1.1 hg
     refine ⟨?_, ?_, ?_⟩
     ·intro y hy
      rcases List.mem_cons.1 hy with rfl|hy
      ·refine ⟨fun n hn=>?_,fun a haa=>?_⟩
       ·rw[h1.2.1 n.toNat fun x hx m hm e=>?_]
        ·exact hs2.1 n hn
        ·have h5:=((key x hx).1 (h2.1 x hx).1).2 n hn
         have:=hse n hn
         have:=hZ.sec x (by simp[hx]) m hm
         exact h5 (by rw[show n=m by omega];exact hm)
       ·have hpa:=hpn a (List.mem_filter.1 haa).1
        rcases Classical.em (∃ x∈r,∃ b∈asl x,b.pnt.toNat=a.pnt.toNat) with ⟨x,hx,b,hb,e⟩|h4
        ·have hpb:=hZ.pnt x (by simp[hx]) b (List.mem_filter.1 hb).1
         rw[←e,(h1.1 x hx).2 b hb,←(h2.1 x hx).2.2 b hb,←ha1 a haa,show b.pnt=a.pnt by omega]
        ·rw[h1.2.2 _ fun x hx b hb e=>h4 ⟨x,hx,b,hb,e⟩]
         exact ha2.1 a haa
      ·exact h1.1 y hy
     ·intro k hk
      rw[h1.2.1 k fun y hy=>hk y (by simp[hy])]
      exact hs2.2 k fun n hn=>hk z (by simp) n hn
     ·intro k hk
      rw[h1.2.2 k fun y hy=>hk y (by simp[hy])]
      exact ha2.2 k fun a haa=>hk z (by simp) a haa
end Go.Lev
namespace Go.Lev
open Go.Eng
theorem ze0 (C:List (Int×Int)) (k v k':Int):zfi (zk4 C k v) k'=if k'=k then v else zfi C k':=by
 induction C with
 |nil=>simp[zk4,zfi]
 |cons q r ih =>
  rw[zk4]
  split
  ·rename_i h;subst h;simp only[zfi];split<;>rfl
  ·rename_i h
   simp only[zfi,ih]
   by_cases h1:k'=q.1
   ·rw[if_pos h1,if_pos h1,if_neg (by omega)]
   ·rw[if_neg h1,if_neg h1]
theorem zh9:∀ (l:List Switch) (C:List (Int×Int)) (k:Int),(∀ x∈l,x.id≠k)→zfi (zgn C l) k=zfi C k
 |[],_,_,_=>rfl
 |x::r,C,k,h=>by
  rw[zgn,zh9 r _ k fun y hy=>h y (by simp[hy]),ze0,if_neg (fun e=>h x (by simp) e.symm)]
theorem zk6:∀ (l:List Switch) (C:List (Int×Int)),(l.map Switch.id).Nodup→∀ x∈l,zfi (zgn C l) x.id=x.call
 |[],_,_,x,h=>by cases h
 |y::r,C,hn,x,hx=>by
  simp only[List.map_cons,List.nodup_cons]at hn
  rw[zgn]
  rcases List.mem_cons.1 hx with rfl|hx
  ·rw[zh9 r _ _ fun z hz e=>hn.1 (by rw[←e];exact List.mem_map_of_mem hz),ze0,if_pos rfl]
  ·exact zk6 r _ hn.2 x hx
def zch (s:State) (n:Int):Int:=zfi (zgn [] s.switches) n
def zof (p:Pln) (s:State):List WL:=(zaM p).zip s.locks
theorem zdU {α β:Type} {q:α→β→Bool} {f:α→Int} {g:β→Int} (hq:∀ x y,q x y=true→f x=g y):∀ {a:List α} {b:List β},zaK q a b=true→a.map f=b.map g
 |[],[],_=>rfl
 |[],_::_,h=>by simp[zaK]at h
 |_::_,[],h=>by simp[zaK]at h
 |x::xs,y::ys,h=>by
  simp only[zaK,Bool.and_eq_true]at h
  simp only[List.map_cons,zdU hq h.2,hq x y h.1]
theorem zgv {p:Pln} {s:State} (h:zal p s=true):s.tracks.map Track.id=p.sections.map Section.id:=by
 simp only[zal,Bool.and_eq_true]at h
 exact zdU (fun x y h=>by simp only[zjn,Bool.and_eq_true,decide_eq_true_eq]at h;exact h.1) h.1
theorem zcT {p:Pln} {s:State} (h:zal p s=true):s.switches.map Switch.id=p.points.map Pnt.id:=by
 simp only[zal,Bool.and_eq_true]at h
 exact zdU (fun x y h=>by simp only[ziw,Bool.and_eq_true,decide_eq_true_eq]at h;exact h.1) h.2.1
theorem lck_ids {p:Pln} {s:State} (h:zal p s=true):s.locks.map Lock.id=p.routes.map Rte.id:=by
 simp only[zal,Bool.and_eq_true]at h
 exact zdU (fun x y h=>by simp only[zcp,Bool.and_eq_true,decide_eq_true_eq]at h;exact h.1) h.2.2
theorem zcD {p:Pln} (h:OkP p):(p.points.map Pnt.id).Nodup:=by
 have hp:=h.pts
 simp only[points,Bool.and_eq_true]at hp
 exact ziI hp.1
theorem zgL {p:Pln} (h:OkP p):(p.routes.map Rte.id).Nodup:=ziI h.rise
theorem zeO {p:Pln} (h:OkP p):(p.sections.map Section.id).Nodup:=ziW (secIds h.sec)
theorem zjE {p:Pln} (h:OkP p) {r:Rte} (hr:r∈p.routes):1≤r.id∧r.id≤99:=((zgk _ _).1 h.rise).1 r.id (List.mem_map_of_mem hr)
theorem za0 {p:Pln} (h:zbq p=true):OkP p∧(∀ r∈p.routes,(zaj p r).2.2=0)∧∀ r∈p.routes,zcO p r=true:=by
 simp only[zbq,Bool.and_eq_true]at h
 refine ⟨zg9 h.1,fun r hr=>?_,fun r hr=>?_⟩
 ·simpa using (List.all_eq_true.1 h.2.1) r hr
 ·exact (List.all_eq_true.1 h.2.2) r hr
theorem zkk {p:Pln} {s:State} (ho:OkP p) (h:zal p s=true) {x:Switch} (hx:x∈s.switches):zch s x.id=x.call :=
 zk6 _ _ (by rw[zcT h];exact zcD ho) x hx
theorem zfj {p:Pln} {s:State} (h:zal p s=true) {z:WL} (hz:z∈zof p s):∃ i,∃ r∈p.routes,i<p.routes.length∧nth p.routes i=r∧nth s.locks i=z.2∧z.2∈s.locks∧z.1=(zaj p r).1∧zcp z.2 r=true:=by
 have hl:=zap h
 simp only[zal,Bool.and_eq_true]at h
 obtain ⟨i,hi,e⟩:=List.mem_iff_getElem.1 hz
 have hi1:i<p.routes.length:=by simp only[zof,List.length_zip,zaM,List.length_map]at hi;omega
 have hi2:i<s.locks.length:=by omega
 have e1:z.1=(zaj p (nth p.routes i)).1:=by
  rw[←e];simp[zof,zaM,zaN hi1]
 have e2:nth s.locks i=z.2:=by
  rw[←e];simp[zof,zaN hi2]
 refine ⟨i,nth p.routes i,zaf hi1,hi1,rfl,e2,by rw[←e2];exact zaf hi2,e1, ?_⟩
 rw[←e2]
 exact zeC h.2.2 hi2
theorem zof_at {p:Pln} {s:State} (h:zal p s=true) {i:Nat} (hi:i<p.routes.length):((zaj p (nth p.routes i)).1,nth s.locks i)∈zof p s:=by
 have hl:=zap h
 have hi2:i<s.locks.length:=by omega
 rw[List.mem_iff_getElem]
 refine ⟨i,by simp[zof,zaM];omega, ?_⟩
 simp[zof,zaM,zaN hi,zaN hi2]
theorem zlF {p:Pln} {s:State} (ho:zbq p=true) (h:zal p s=true):ZOk (zof p s):=by
 obtain ⟨hok,hw,_⟩:=za0 ho
 refine ⟨fun z hz=>?_,fun z hz n hn=>?_,fun z hz a ha=>?_⟩
 ·obtain ⟨i,r,hr,_,_,_,_,_,hl⟩:=zfj h hz
  simp only[zcp,Bool.and_eq_true,decide_eq_true_eq]at hl
  have:=zjE hok hr
  omega
 ·obtain ⟨i,r,hr,_,_,_,_,e,hl⟩:=zfj h hz
  have hp:=zbG (hw r hr)
  unfold hdl zbm at hn
  split at hn
  ·simp at hn
  ·have h1:n∈r.path++r.over:=by
    rw[e,hp.1,hp.2.1]at hn
    rcases List.mem_append.1 hn with h2|h2
    ·exact List.mem_append.2 (.inl (List.mem_of_mem_drop h2))
    ·exact List.mem_append.2 (.inr h2)
   obtain ⟨q,hq,rfl⟩:=(zdi hok hr).1 n h1
   have:=zcA hok hq
   omega
 ·obtain ⟨i,r,hr,_,_,_,_,e,hl⟩:=zfj h hz
  unfold zbz at ha
  split at ha
  ·simp at ha
  ·rw[e]at ha
   have:=zbv hok hr ha
   omega
theorem zoE {p:Pln} {s:State} (ho:zbq p=true) (h:zal p s=true) {z:WL} (hz:z∈zof p s):(hdl z).Nodup:=by
 obtain ⟨hok,hw,_⟩:=za0 ho
 obtain ⟨i,r,hr,_,_,_,_,e,_⟩:=zfj h hz
 have hp:=zbG (hw r hr)
 unfold hdl zbm
 split
 ·simp
 ·rw[e,hp.1,hp.2.1]
  have:=(zdi hok hr).2
  exact List.Nodup.sublist (List.Sublist.append (List.drop_sublist _ _) (List.Sublist.refl _)) this
theorem zlg {p:Pln} {s:State} (h:zal p s=true):zaF p s=zez (zgn [] s.switches) (zof p s) zcS zcS true:=by
 unfold zaF zof
 rw[zoH _ _ _ _ _ _ _ (by have:=zap h;simp[zaM];omega),List.drop_zero]
theorem zir (k:Nat):nth zcS k=0:=by
 rcases Nat.lt_or_ge k 100 with h|h
 ·exact zhd _ _ _ h
 ·unfold zcS nth;rw[getElem!_neg _ _ (by simp;omega)];rfl
def zlE (Z:List WL):Prop:=Z.Pairwise fun z z'=>∀ n∈hdl z,n∉hdl z'
def zmn (s:State) (Z:List WL):Prop:=∀ z∈Z,∀ a∈asl z,zch s a.pnt=a.lie
theorem zfo (p:Pln) (s:State):zae p s=0↔zbq p=true∧zal p s=true∧zlE (zof p s)∧zmn s (zof p s):=by
 constructor
 ·intro h
  obtain ⟨h1,h2,h3⟩:=zad h
  rw[zlg h2]at h3
  have:=((zd5 _ _ _ _ (zlF h1 h2) zbi zbi).1).1 h3
  exact ⟨h1,h2,this.2,fun z hz a ha=>(this.1 z hz).2.2 a ha⟩
 ·rintro ⟨h1,h2,h3,h4⟩
  unfold zae
  have h5:(zaF p s).2.2=true:=by
   rw[zlg h2]
   exact ((zd5 _ _ _ _ (zlF h1 h2) zbi zbi).1).2 ⟨fun z hz=>⟨fun n _=>zir _,zoE h1 h2 hz,h4 z hz⟩,h3⟩
  rw[if_pos h1,if_pos ⟨h2,h5⟩]
section
variable {p:Pln} {s:State} (h:zae p s=0)
include h
theorem zhk:(∀ z∈zof p s,(∀ n∈hdl z,nth (zaF p s).1 n.toNat=z.2.id)∧∀ a∈asl z,nth (zaF p s).2.1 a.pnt.toNat=a.lie) ∧
  (∀ k:Nat,(∀ z∈zof p s,∀ n∈hdl z,n.toNat≠k)→nth (zaF p s).1 k=0)∧(∀ k:Nat,(∀ z∈zof p s,∀ a∈asl z,a.pnt.toNat≠k)→nth (zaF p s).2.1 k=0):=by
 obtain ⟨h1,h2,h3⟩:=zad h
 rw[zlg h2]at h3 ⊢
 have:=(zd5 _ _ _ _ (zlF h1 h2) zbi zbi).2 h3
 refine ⟨this.1,fun k hk=>?_,fun k hk=>?_⟩
 ·rw[this.2.1 k hk];exact zir k
 ·rw[this.2.2 k hk];exact zir k
theorem zlf {z:WL} (hz:z∈zof p s) {n:Int} (hn:n∈hdl z):nth (zaF p s).1 n.toNat=z.2.id:=((zhk h).1 z hz).1 n hn
theorem hold_no {n:Int} (h0:0≤n) (hn:∀ z∈zof p s,n∉hdl z):nth (zaF p s).1 n.toNat=0:=(zhk h).2.1 _ fun z hz m hm e=>by
 have:=(zlF (zad h).1 (zad h).2.1).sec z hz m hm
 exact hn z hz (by rw[show n=m by omega];exact hm)
theorem zic {n:Int} (h0:0≤n):(∃ z∈zof p s,n∈hdl z∧nth (zaF p s).1 n.toNat=z.2.id)∨((∀ z∈zof p s,n∉hdl z)∧nth (zaF p s).1 n.toNat=0):=by
 rcases Classical.em (∃ z∈zof p s,n∈hdl z) with ⟨z,hz,hn⟩|h1
 ·exact .inl ⟨z,hz,hn,zlf h hz hn⟩
 ·exact .inr ⟨fun z hz hn=>h1 ⟨z,hz,hn⟩,hold_no h h0 fun z hz hn=>h1 ⟨z,hz,hn⟩⟩
theorem ask_at {z:WL} (hz:z∈zof p s) {a:AskR} (ha:a∈asl z):nth (zaF p s).2.1 a.pnt.toNat=a.lie:=((zhk h).1 z hz).2 a ha
end
end Go.Lev
namespace Go.Lev
open Go.Eng
set_option maxRecDepth 10000
set_option maxHeartbeats 4000000
variable {P:Program} {inv:Nat→Option Nat} {w0:World} {M:Nat→Prop}
def minK (n:Int):Int:=if 1000<n then 1000 else n
def sumS:Int→List Section→Int
 |t,[]=>t
 |t,s::r=>sumS (t+minK s.ends.length) r
def sumR:Int→List Rte→Int
 |t,[]=>t
 |t,r::l=>sumR (t+minK r.path.length+minK r.over.length+minK r.flanks.length) l
def zc9 (p:Pln):Bool:=decide (100<(p.sections.length:Int))||(decide (100<(p.points.length:Int))||(decide (100<(p.signals.length:Int))||decide (100<(p.routes.length:Int))))
def zie (p:Pln):Bool:=zc9 p||decide (1000<sumR (sumS 0 p.sections) p.routes)
theorem zl1 (n:Nat):0≤minK n∧minK n≤1000:=by unfold minK;split<;>omega
theorem zfZ (hH:HasAll P inv) (p:Pln):PC P inv 71 [.agg p.c] (·=.b (zie p)):=by
 unfold zie
 cases hg0:zc9 p with
 |true =>
  rw[Bool.true_or]
  refine PC.fn hH cd71 fun w0 M Q hM hE hQ hR=>?_;dsimp only[cd71,qm,ql,qf,qi,qb,qc,qp,qv,qN,qT,qF,qt]at hQ ⊢
  (repeat' first|refine zaa [0,1,2,3,4,5,27,32,49] fun K hK=>?_|(refine hK.go ?_;clear hK K)|with_reducible exact wT|refine wA ?_|(refine wB (fun h=>?_) (fun h=>?_)<;>first|exact wN h|subst (h:(_:Bool)=_)|skip)|(refine wQ ?_;clear hQ hR hE hM)|fail)
  all_goals first|rfl|(exfalso;simp[zc9]at hg0;omega)
 |false =>
  rw[Bool.false_or]
  have hb:p.sections.length≤100∧p.points.length≤100∧p.signals.length≤100∧p.routes.length≤100:=by
   simp[zc9]at hg0;omega
  refine PC.fn hH cd71 fun w0 M Q hM hE hQ hR=>?_;dsimp only[cd71,qm,ql,qf,qi,qb,qc,qp,qv,qN,qT,qF,qt]at hQ ⊢
  (repeat' first|refine zaa [0,1,2,3,4,5,27,32,49] fun K hK=>?_|(refine hK.go ?_;clear hK K)|with_reducible exact wT|refine wA ?_|(refine wB (fun h=>?_) (fun h=>?_)<;>first|exact wN h|subst (h:(_:Bool)=_)|skip)|(refine wQ ?_;clear hQ hR hE hM)|fail)
  all_goals first|(exfalso;omega)|skip
  refine zat (ι:=Nat×Int) [1,2,3,4] (fun z=>[(3,.n z.2),(4,.n z.1)]) (fun _=>[]) (fun z=>z.1) (p.sections.length) (fun z=>(0≤z.2∧z.2≤1000*z.1)∧(sumS z.2 (p.sections.drop z.1)=sumS 0 p.sections)) (0,0) ?_;rintro ⟨k,t⟩ ⟨hk,ht,hg⟩;(try dsimp only at hk ht hg ⊢);rcases Nat.lt_or_ge k p.sections.length with hlt|hge
  ·rw[zah hlt]at hg
   rw[sumS]at hg
   have hm:=zl1 (nth p.sections k).ends.length
   unfold minK at hg hm
   (repeat' first|refine zaa [0,1,2,3,4,5,27,32,49] fun K hK=>?_|(refine hK.go ?_;clear hK K)|with_reducible exact wT|refine wA ?_|(refine wB (fun h=>?_) (fun h=>?_)<;>first|exact wN h|subst (h:(_:Bool)=_)|skip)|(refine wQ ?_;clear hQ hR hE hM)|fail)
   exact nY (k+1,_) ⟨by (try dsimp only);omega,by (try dsimp only);omega,hg⟩
  ·rw[List.drop_eq_nil_of_le hge,sumS]at hg
   (repeat' first|refine zaa [0,1,2,3,4,5,27,32,49] fun K hK=>?_|(refine hK.go ?_;clear hK K)|with_reducible exact wT|refine wA ?_|(refine wB (fun h=>?_) (fun h=>?_)<;>first|exact wN h|subst (h:(_:Bool)=_)|skip)|(refine wQ ?_;clear hQ hR hE hM)|fail)
   refine zat (ι:=Nat×Int) [1,2,3,5] (fun z=>[(3,.n z.2),(5,.n z.1)]) (fun _=>[]) (fun z=>z.1) (p.routes.length) (fun z=>(0≤z.2∧z.2≤100000+3000*z.1)∧(sumR z.2 (p.routes.drop z.1)=sumR t p.routes)) (0,t) ?_;rintro ⟨k2,u⟩ ⟨hk,hu,hg2⟩;(try dsimp only at hk hu hg2 ⊢);rcases Nat.lt_or_ge k2 p.routes.length with hlt|hge
   ·rw[zah (by assumption),sumR]at hg2
    have hm1:=zl1 (nth p.routes k2).path.length
    have hm2:=zl1 (nth p.routes k2).over.length
    have hm3:=zl1 (nth p.routes k2).flanks.length
    unfold minK at hg2 hm1 hm2 hm3
    (repeat' first|refine zaa [0,1,2,3,4,5,27,32,49] fun K hK=>?_|(refine hK.go ?_;clear hK K)|with_reducible exact wT|refine wA ?_|(refine wB (fun h=>?_) (fun h=>?_)<;>first|exact wN h|subst (h:(_:Bool)=_)|skip)|(refine wQ ?_;clear hQ hR hE hM)|fail)
    exact nY (k2+1,_) ⟨by (try dsimp only);omega,by (try dsimp only);omega,hg2⟩
   ·rw[List.drop_eq_nil_of_le (by assumption),sumR]at hg2
    (repeat' first|refine zaa [0,1,2,3,4,5,27,32,49] fun K hK=>?_|(refine hK.go ?_;clear hK K)|with_reducible exact wT|refine wA ?_|(refine wB (fun h=>?_) (fun h=>?_)<;>first|exact wN h|subst (h:(_:Bool)=_)|skip)|(refine wQ ?_;clear hQ hR hE hM)|fail)
    rw[hg2,hg]
theorem sm_of {p:Pln} (hp:Pln.ok p) (hg:zie p=false):Sm p:=by
 have h1:zc9 p=false:=by
  unfold zie at hg
  simp only[Bool.or_eq_false_iff]at hg
  exact hg.1
 have hb:p.sections.length≤100∧p.points.length≤100∧p.signals.length≤100∧p.routes.length≤100:=by
  simp[zc9]at h1;omega
 obtain ⟨_,_,h3,h4,h5,h6⟩:=hp
 refine ⟨by omega,fun s hs=>?_,by omega,by omega,by omega,fun r hr=>?_⟩
 ·have:=(h3.2 s hs).2.2.1
  exact Nat.le_trans this (by decide)
 ·have:=h6.2 r hr
  exact ⟨Nat.le_trans this.2.2.2.1.1 (by decide),Nat.le_trans this.2.2.2.2.1.1 (by decide),Nat.le_trans this.2.2.2.2.2.1.1 (by decide)⟩
theorem smS_of {s:State} (h:zi3 s=false):SmS s:=by
 unfold zi3 at h;unfold SmS;simp at h;omega
end Go.Lev
namespace Go.Lev
open Go.Eng
set_option maxRecDepth 10000
set_option maxHeartbeats 4000000
variable {P:Program} {inv:Nat→Option Nat} {w0:World} {M:Nat→Prop}
def zdD {α:Type} (f:α→Int) (n:Int) (g:α→α) (l:List α):List α:=l.map fun x=>if f x=n then g x else x
theorem zgg {α:Type} [Inhabited α] (f:α→Int) (n:Int) (g:α→α):∀ {l:List α},(l.map f).Nodup→∀ {k:Nat},k<l.length→f (nth l k)=n→l.set k (g (nth l k))=zdD f n g l
 |[],_,k,h,_=>by simp at h
 |x::r,hn,0,_,e=>by
  simp only[List.map_cons,List.nodup_cons]at hn
  have e:f x=n:=e
  unfold zdD
  rw[List.set_cons_zero,List.map_cons,if_pos e]
  congr 1
  symm
  refine (List.map_congr_left fun y hy=>?_).trans (List.map_id r)
  rw[if_neg (fun h=>hn.1 (by rw[e,←h];exact List.mem_map_of_mem hy))]
  rfl
 |x::r,hn,k+1,h,e=>by
  simp only[List.map_cons,List.nodup_cons]at hn
  have hk:k<r.length:=by simpa using h
  have e:f (nth r k)=n:=e
  have ih:=zgg f n g hn.2 hk e
  unfold zdD at ih ⊢
  rw[List.set_cons_succ,List.map_cons,if_neg (fun h=>hn.1 (by rw[h,←e];exact List.mem_map_of_mem (zaf hk)))]
  exact congrArg (x::·) ih
theorem zcn {α:Type} (f:α→Int) (n:Int) (g:α→α) (l:List α):(zdD f n g l).length=l.length:=by simp[zdD]
theorem za3 {α:Type} [Inhabited α] (f:α→Int) (n:Int) (l:List α):(zbn (fun x=>decide (f x=n)) 0 l=-1∧∀ x∈l,f x≠n)∨∃ i:Nat,i<l.length∧zbn (fun x=>decide (f x=n)) 0 l=(i:Int)∧f (nth l i)=n:=by
 rcases zbQ (fun x:α=>decide (f x=n)) l 0 with ⟨h1,h2⟩|⟨i,h1,h2,h3⟩
 ·exact .inl ⟨h1,zoT h2⟩
 ·exact .inr ⟨i,h1,by omega,(zdP (f:=f) h3).2⟩
end Go.Lev
namespace Go.Lev
open Go.Eng
set_option maxRecDepth 10000
set_option maxHeartbeats 4000000
variable {P:Program} {inv:Nat→Option Nat} {w0:World} {M:Nat→Prop}
def setT (s:State) (n v:Int):State:=⟨zdD Track.id n (fun t=>⟨t.id,v⟩) s.tracks,s.switches,s.locks⟩
def setL (s:State) (n v:Int):State:=⟨s.tracks,zdD Switch.id n (fun t=>⟨t.id,v,t.call⟩) s.switches,s.locks⟩
def zk8 (s:State) (n:Int):Prop:=∃ t∈s.tracks,t.id=n
def zk9 (s:State) (n:Int):Prop:=∃ t∈s.switches,t.id=n
instance (s:State) (n:Int):Decidable (zk8 s n):=by unfold zk8;infer_instance
instance (s:State) (n:Int):Decidable (zk9 s n):=by unfold zk9;infer_instance
def zcB (p:Pln) (s:State) (n v:Int):Int:=if zae p s=0 then (if zk8 s n then (if v=0∨v=1 then 0 else 2) else 6) else zae p s
def zcG (p:Pln) (s:State) (n v:Int):Int:=if zae p s=0 then (if zk9 s n then (if 0≤v∧v≤2 then 0 else 2) else 6) else zae p s
theorem zor (hH:HasAll P inv) (n:Int) (x:Track):PC P inv 86 ([.agg x.c]++[.ip 1 [[.n n]] 0 0]) (·=.b (decide (x.id=n))):=by
 refine PC.fn hH cd86 fun w0 M Q hM hE hQ hR=>?_;dsimp only[cd86,qm,ql,qf,qi,qb,qc,qp,qv,qN,qT,qF,qt]at hQ ⊢
 (repeat' first|refine zaa [0,1,2,3] fun K hK=>?_|(refine hK.go ?_;clear hK K)|with_reducible exact wT|refine wA ?_|(refine wB (fun h=>?_) (fun h=>?_)<;>first|exact wN h|subst (h:(_:Bool)=_)|skip)|(refine wQ ?_;clear hQ hR hE hM)|fail)
theorem sec_po (hH:HasAll P inv) (hI:HasIds P inv) (p:Pln) (hp:Sm p) (s:State) (hs:SmS s) (n v:Int) (he:zcB p s n v=0):PO P inv 73 [.agg p.c,.agg s.c,.n n,.n v] (.tup [zky 6 (setT s n v),.n 0]) (zkz 6 (setT s n v)):=by
 have hc:zae p s=0∧zk8 s n∧(v=0∨v=1):=by
  unfold zcB at he
  split at he
  ·rename_i h1
   split at he
   ·rename_i h2
    split at he
    ·rename_i h3;exact ⟨h1,h2,h3⟩
    ·cases he
   ·cases he
  ·rename_i h1;exact absurd he h1
 obtain ⟨hc,⟨t,ht,htn⟩,hv⟩:=hc
 have c0:=zbH hH hI p hp s hs
 rw[hc]at c0
 have c1:=zc3 hH s hs
 obtain ⟨h1,h2,h3⟩:=hs
 have c2:=zld hH s.tracks (fun x _=>zor hH n x) (by omega)
 have hno:(s.tracks.map Track.id).Nodup:=by rw[zgv (zad hc).2.1];exact zeO (zao hc)
 rcases za3 Track.id n s.tracks with ⟨_,h4⟩|⟨k,hk,h4,h5⟩
 ·exact absurd htn (h4 t ht)
 ·rw[h4]at c2
  have e1:=zgg Track.id n (fun t=>(⟨t.id,v⟩:Track)) hno hk h5
  have e2:=zb7 (c:=Track.c) (l:=s.tracks) (k:=k) (i:=1) hk (by omega) (.i .u8 v) (⟨(nth s.tracks k).id,v⟩:Track) rfl
  rw[e1]at e2
  unfold stV stR at c1
  refine PO.fn hH cd73 fun w0 M Q hM hE hQ hR=>?_;dsimp only[cd73,qm,ql,qf,qi,qb,qc,qp,qv,qN,qT,qF,qt]at hQ ⊢
  skip
  (have hX:=@e2;(repeat' first|refine zaa [0,1,2,3,4,5,6,8,9,10,11,16,26,33] fun K hK=>?_|(refine hK.go ?_;clear hK K)|with_reducible exact wT|refine wA ?_|(refine wB (fun h=>?_) (fun h=>?_)<;>first|exact wN h|subst (h:(_:Bool)=_)|skip)|(refine wQ ?_;clear hQ hR)|refine wC c0 ?_|refine wO c1 ?_|(refine AC.callK 30 (by omega) (by first|omega|exact wF|((refine no_implicit_lambda% (st ?_);try with_reducible exact wT);omega)) (zaq (F:=cd85) (hH.has _ _ rfl) (Nat.le_of_ble_eq_true rfl) fun Q hQ hR=>?_);dsimp only[cd85,qm,ql,qf,qi,qb,qc,qp,qv,qN,qT,qF,qt]at hQ ⊢;try (refine no_implicit_lambda% (st ?_);try with_reducible exact wT))|refine wS c2 ?_|fail);all_goals clear hX)
  all_goals (left;unfold zky zkz setT;dsimp only;rw[zcn];constructor)
  all_goals (refine no_implicit_lambda% (st ?_);try with_reducible exact wT)
def secR (p:Pln) (s:State) (n v:Int):State:=if zcB p s n v=0 then setT s n v else State.z
def detR (p:Pln) (s:State) (n v:Int):State:=if zcG p s n v=0 then setL s n v else State.z
theorem sec_pc (hH:HasAll P inv) (hI:HasIds P inv) (p:Pln) (hp:Sm p) (s:State) (hs:SmS s) (n v:Int):PC P inv 73 [.agg p.c,.agg s.c,.n n,.n v] (·=.tup [.agg (secR p s n v).c,.n (zcB p s n v)]):=by
 unfold secR
 by_cases he:zcB p s n v=0
 ·have:=(sec_po hH hI p hp s hs n v he).pc
  rw[zdW]at this
  rw[if_pos he,he]
  exact this
 ·rw[if_neg he]
  have c0:=zbH hH hI p hp s hs
  have c1:=zc3 hH s hs
  unfold zcB at he ⊢
  by_cases hc:zae p s=0
  ·rw[if_pos hc]at he ⊢
   rw[hc]at c0
   obtain ⟨h1,h2,h3⟩:=hs
   have c2:=zld hH s.tracks (fun x _=>zor hH n x) (by omega)
   unfold stV stR at c1
   rcases za3 Track.id n s.tracks with ⟨h4,h5⟩|⟨k,hk,h4,h5⟩
   ·rw[if_neg (fun ⟨t,ht,e⟩=>h5 t ht e)]
    rw[h4]at c2
    refine PC.fn hH cd73 fun w0 M Q hM hE hQ hR=>?_;dsimp only[cd73,qm,ql,qf,qi,qb,qc,qp,qv,qN,qT,qF,qt]at hQ ⊢
    skip
    (repeat' first|refine zaa [0,1,2,3,4,5,6,8,9,10,11,16,26,33] fun K hK=>?_|(refine hK.go ?_;clear hK K)|with_reducible exact wT|refine wA ?_|(refine wB (fun h=>?_) (fun h=>?_)<;>first|exact wN h|subst (h:(_:Bool)=_)|skip)|(refine wQ ?_;clear hQ hR)|refine wC c0 ?_|refine wO c1 ?_|(refine AC.callK 30 (by omega) (by first|omega|exact wF|((refine no_implicit_lambda% (st ?_);try with_reducible exact wT);omega)) (zaq (F:=cd85) (hH.has _ _ rfl) (Nat.le_of_ble_eq_true rfl) fun Q hQ hR=>?_);dsimp only[cd85,qm,ql,qf,qi,qb,qc,qp,qv,qN,qT,qF,qt]at hQ ⊢;try (refine no_implicit_lambda% (st ?_);try with_reducible exact wT))|refine wS c2 ?_|fail)
    all_goals first|rfl|(exfalso;contradiction)|skip
   ·rw[if_pos ⟨_,zaf hk,h5⟩]at he ⊢
    rw[h4]at c2
    by_cases hv:v=0∨v=1
    ·rw[if_pos hv]at he;exact absurd rfl he
    ·rw[if_neg hv]
     refine PC.fn hH cd73 fun w0 M Q hM hE hQ hR=>?_;dsimp only[cd73,qm,ql,qf,qi,qb,qc,qp,qv,qN,qT,qF,qt]at hQ ⊢
     skip
     (repeat' first|refine zaa [0,1,2,3,4,5,6,8,9,10,11,16,26,33] fun K hK=>?_|(refine hK.go ?_;clear hK K)|with_reducible exact wT|refine wA ?_|(refine wB (fun h=>?_) (fun h=>?_)<;>first|exact wN h|subst (h:(_:Bool)=_)|skip)|(refine wQ ?_;clear hQ hR)|refine wC c0 ?_|refine wO c1 ?_|(refine AC.callK 30 (by omega) (by first|omega|exact wF|((refine no_implicit_lambda% (st ?_);try with_reducible exact wT);omega)) (zaq (F:=cd85) (hH.has _ _ rfl) (Nat.le_of_ble_eq_true rfl) fun Q hQ hR=>?_);dsimp only[cd85,qm,ql,qf,qi,qb,qc,qp,qv,qN,qT,qF,qt]at hQ ⊢;try (refine no_implicit_lambda% (st ?_);try with_reducible exact wT))|refine wS c2 ?_|fail)
     all_goals first|rfl|(exfalso;omega)|skip
  ·rw[if_neg hc]
   generalize zae p s=e at c0 hc ⊢
   refine PC.fn hH cd73 fun w0 M Q hM hE hQ hR=>?_;dsimp only[cd73,qm,ql,qf,qi,qb,qc,qp,qv,qN,qT,qF,qt]at hQ ⊢
   (repeat' first|refine zaa [0,1,2,3,4,5,6,8,9,10,11,16,26,33] fun K hK=>?_|(refine hK.go ?_;clear hK K)|with_reducible exact wT|refine wA ?_|(refine wB (fun h=>?_) (fun h=>?_)<;>first|exact wN h|subst (h:(_:Bool)=_)|skip)|(refine wQ ?_;clear hQ hR hE hM)|refine wC c0 ?_|fail)
   all_goals first|rfl|(exfalso;contradiction)|skip
end Go.Lev
namespace Go.Lev
open Go.Eng
theorem zcZ {α β:Type} [Inhabited α] [Inhabited β] (q:α→β→Bool):∀ (a:List α) (b:List β),zaK q a b=true↔a.length=b.length∧∀ i,i<a.length→q (nth a i) (nth b i)=true
 |[],[]=>by simp[zaK]
 |[],_::_=>by simp[zaK]
 |_::_,[]=>by simp[zaK]
 |x::xs,y::ys=>by
  simp only[zaK,Bool.and_eq_true,zcZ q xs ys,List.length_cons,Nat.add_right_cancel_iff]
  constructor
  ·rintro ⟨h1,h2,h3⟩
   refine ⟨h2,fun i hi=>?_⟩
   cases i with
   |zero=>exact h1
   |succ i=>exact h3 i (by omega)
  ·rintro ⟨h2,h3⟩
   exact ⟨h3 0 (by omega),h2,fun i hi=>h3 (i+1) (by omega)⟩
theorem zej {p:Pln} {s:State} (h:zal p s=true) {i:Nat} (hi:i<s.locks.length):zcp (nth s.locks i) (nth p.routes i)=true:=by
 simp only[zal,Bool.and_eq_true]at h
 exact zeC h.2.2 hi
theorem zis {α:Type} (f:α→Int) (n:Int) (g:α→α) (hg:∀ x,f (g x)=f x) (l:List α):(zdD f n g l).map f=l.map f:=by
 unfold zdD
 rw[List.map_map]
 refine List.map_congr_left fun x _=>?_
 simp only[Function.comp]
 split
 ·exact hg x
 ·rfl
end Go.Lev
namespace Go.Lev
open Go.Eng
theorem zi1 {p:Pln} {s:State} (h:zae p s=0) {i j:Nat} (hi:i<s.locks.length) (hj:j<s.locks.length) (e:(nth s.locks i).id=(nth s.locks j).id):i=j:=by
 obtain ⟨h1,h2,_⟩:=zad h
 have hn:(s.locks.map Lock.id).Nodup:=by rw[lck_ids h2];exact zgL (za0 h1).1
 have:=(List.nodup_iff_pairwise_ne.1 hn)
 rcases Nat.lt_trichotomy i j with hlt|he|hlt
 ·have:=List.pairwise_iff_getElem.1 this i j (by simpa using hi) (by simpa using hj) hlt
  simp only[List.getElem_map]at this
  rw[←zaN hi,←zaN hj]at this
  exact absurd e this
 ·exact he
 ·have:=List.pairwise_iff_getElem.1 this j i (by simpa using hj) (by simpa using hi) hlt
  simp only[List.getElem_map]at this
  rw[←zaN hi,←zaN hj]at this
  exact absurd e.symm this
theorem zi0 {p:Pln} {s:State} (h:zae p s=0) {i:Nat} (hi:i<s.locks.length):1≤(nth s.locks i).id∧(nth s.locks i).id≤99:=by
 obtain ⟨h1,h2,_⟩:=zad h
 have hl:=zap h2
 have hl2:=zej h2 hi
 simp only[zcp,Bool.and_eq_true,decide_eq_true_eq]at hl2
 rw[hl2.1]
 exact zjE (za0 h1).1 (zaf (by omega))
def zjm (p:Pln) (s:State) (i:Nat):List Int:=zbm (zaj p (nth p.routes i)).1 (nth s.locks i)
def znb (p:Pln) (s:State) (i:Nat):List AskR:=(zbz (zaj p (nth p.routes i)).1 (nth s.locks i)).filter (zcX (nth s.locks i))
theorem zgt {p:Pln} {s:State} (h:zae p s=0) {z:WL} (hz:z∈zof p s):∃ i,i<s.locks.length∧z=((zaj p (nth p.routes i)).1,nth s.locks i):=by
 have h2:=(zad h).2.1
 have hl:=zap h2
 obtain ⟨i,r,hr,hi,e1,e2,_,e3,_⟩:=zfj h2 hz
 refine ⟨i,by omega, ?_⟩
 rw[e1,e2,←e3]
theorem zeW {p:Pln} {s:State} (h:zae p s=0) {i:Nat} (hi:i<s.locks.length):((zaj p (nth p.routes i)).1,nth s.locks i)∈zof p s:=by
 have h2:=(zad h).2.1
 have hl:=zap h2
 exact zof_at h2 (by omega)
theorem ze4 {p:Pln} {s:State} (h:zae p s=0) {i:Nat} (hi:i<s.locks.length) {n:Int} (hn:0≤n):nth (zaF p s).1 n.toNat=(nth s.locks i).id↔n∈zjm p s i:=by
 constructor
 ·intro e
  rcases zic h hn with ⟨z,hz,hm,e2⟩|⟨_,e2⟩
  ·obtain ⟨j,hj,rfl⟩:=zgt h hz
   rw[e2]at e
   obtain rfl:=zi1 h hj hi e
   exact hm
  ·have:=zi0 h hi
   omega
 ·intro hm
  exact zlf h (zeW h hi) hm
theorem ask_is {p:Pln} {s:State} (h:zae p s=0) {i:Nat} (hi:i<s.locks.length) {a:AskR} (ha:a∈znb p s i):nth (zaF p s).2.1 a.pnt.toNat=a.lie:=ask_at h (zeW h hi) ha
theorem zoi {p:Pln} {s:State} (h:zae p s=0) {i:Nat} (hi:i<s.locks.length) {a:AskR} (ha:a∈znb p s i):a.lie=1∨a.lie=2:=by
 obtain ⟨h1,h2,_⟩:=zad h
 have hl:=zap h2
 have h3:=(List.mem_filter.1 ha).1
 unfold zbz at h3
 split at h3
 ·simp at h3
 ·exact (zbv (za0 h1).1 (zaf (by omega)) h3).2.2
def pathG (g n:Int):Nat→List Int→Bool
 |_,[]=>false
 |k,x::r=>(decide (x=n)&&decide (g≤k))||pathG g n (k+1) r
end Go.Lev
namespace Go.Eng
mutual
def nz:AV→AV
 |.s0 sz=>.sl sz []
 |.agg cs=>.agg (nzL cs)
 |.tup cs=>.tup (nzL cs)
 |.fn j cs=>.fn j (nzL cs)
 |.sl sz es=>.sl sz (nzR es)
 |.ip sz es i k=>.ip sz (nzR es) i k
 |.i k n=>.i k n
 |.b t=>.b t
 |.v x=>.v x
 |.u=>.u
 |.ptr l ver off=>.ptr l ver off
 |.sm l ver off n sz=>.sm l ver off n sz
 |.mp l=>.mp l
 |.top=>.top
def nzL:List AV→List AV
 |[]=>[]
 |x::xs=>nz x::nzL xs
def nzR:List (List AV)→List (List AV)
 |[]=>[]
 |r::rs=>nzL r::nzR rs
end
theorem zob:∀ xs:List AV,(nzL xs).length=xs.length
 |[]=>by simp only[nzL]
 |x::xs=>by simp only[nzL,List.length_cons,zob xs]
theorem zk1:∀ xs:List (List AV),(nzR xs).length=xs.length
 |[]=>by simp only[nzR]
 |x::xs=>by simp only[nzR,List.length_cons,zk1 xs]
mutual
theorem zk0:∀ x:AV,x.bare=true→(nz x).bare=true
 |.s0 sz,_=>by simp only[nz,AV.bare]
 |.agg cs,h=>by simp only[nz,AV.bare]at h ⊢;exact zgm cs h
 |.tup cs,h=>by simp only[nz,AV.bare]at h ⊢;exact zgm cs h
 |.fn j cs,h=>by simp only[nz,AV.bare]at h ⊢;exact zgm cs h
 |.sl sz es,_=>by simp only[nz,AV.bare]
 |.ip sz es i k,_=>by simp only[nz,AV.bare]
 |.i k n,_=>by simp only[nz,AV.bare]
 |.b t,_=>by simp only[nz,AV.bare]
 |.v x,_=>by simp only[nz,AV.bare]
 |.u,_=>by simp only[nz,AV.bare]
 |.ptr l ver off,h=>by simp only[nz];exact h
 |.sm l ver off n sz,h=>by simp only[nz];exact h
 |.mp l,h=>by simp only[nz];exact h
 |.top,_=>by simp only[nz,AV.bare]
theorem zgm:∀ xs:List AV,zac xs=true→zac (nzL xs)=true
 |[],_=>by simp only[nzL,zac]
 |x::xs,h=>by
  simp only[zac,Bool.and_eq_true]at h
  simp only[nzL,zac,zk0 x h.1,zgm xs h.2,Bool.and_self]
end
mutual
theorem zlR:∀ (c:Ctx) (x:AV) (y:Value),rel c x y→rel c (nz x) y
 |c,.s0 sz,y,r=>by
  simp only[nz,rel]at r ⊢
  obtain ⟨ad,e⟩:=r
  exact ⟨ad,0,e,Nat.le_refl _,fun h=>absurd rfl h⟩
 |c,.agg cs,y,r=>by
  simp only[nz,rel]at r ⊢
  obtain ⟨xs,e,r⟩:=r
  exact ⟨xs,e,zlU c cs _ r⟩
 |c,.tup cs,y,r=>by
  simp only[nz,rel]at r ⊢
  obtain ⟨xs,e,r⟩:=r
  exact ⟨xs,e,zkT c cs _ r⟩
 |c,.fn j cs,y,r=>by
  simp only[nz,rel]at r ⊢
  obtain ⟨g,xs,e,hi,r⟩:=r
  exact ⟨g,xs,e,hi,zkT c cs _ r⟩
 |c,.sl sz es,y,r=>by
  simp only[nz,rel]at r ⊢
  obtain ⟨ad,cap,e,h,r⟩:=r
  refine ⟨ad,cap,by rw[zk1];exact e,by rw[zk1];exact h,fun hne=>?_⟩
  have hne':es≠[]:=fun e0=>hne (by rw[e0];simp only[nzR])
  obtain ⟨a,e1,h1,h2,h3⟩:=r hne'
  exact ⟨a,e1,h1,h2,zfv c sz a 0 es h3⟩
 |c,.ip sz es i k,y,r=>by
  simp only[nz,rel]at r ⊢
  obtain ⟨a,e,h1,h2,h3⟩:=r
  exact ⟨a,e,h1,h2,zfv c sz a 0 es h3⟩
 |c,.i k n,y,r=>by simp only[nz];exact r
 |c,.b t,y,r=>by simp only[nz];exact r
 |c,.v x,y,r=>by simp only[nz];exact r
 |c,.u,y,r=>by simp only[nz];exact r
 |c,.ptr l ver off,y,r=>by simp only[nz];exact r
 |c,.sm l ver off n sz,y,r=>by simp only[nz];exact r
 |c,.mp l,y,r=>by simp only[nz];exact r
 |c,.top,y,r=>by simp only[nz];exact r
theorem zkT:∀ (c:Ctx) (xs:List AV) (ys:List Value),zbA c xs ys→zbA c (nzL xs) ys
 |c,[],ys,r=>by simp only[nzL];exact r
 |c,x::xs,ys,r=>by
  simp only[nzL,zbA]at r ⊢
  obtain ⟨y,ys',e,r1,r2⟩:=r
  exact ⟨y,ys',e,zlR c x y r1,zkT c xs ys' r2⟩
theorem zlU:∀ (c:Ctx) (xs:List AV) (ys:List Value),relCs c xs ys→relCs c (nzL xs) ys
 |c,[],ys,r=>by simp only[nzL];exact r
 |c,x::xs,ys,r=>by
  simp only[nzL,relCs]at r ⊢
  obtain ⟨y,ys',e,ho,r1,r2⟩:=r
  exact ⟨y,ys',e,ho,zlR c x y r1,zlU c xs ys' r2⟩
theorem zjG:∀ (c:Ctx) (a:Addr) (k:Nat) (xs:List AV),zbo c a k xs→zbo c a k (nzL xs)
 |c,a,k,[],r=>by simp only[nzL];exact r
 |c,a,k,x::xs,r=>by
  simp only[nzL,zbo]at r ⊢
  obtain ⟨⟨y,h1,h2,h3,h4⟩,r⟩:=r
  exact ⟨⟨y,h1,h2,zk0 x h3,zlR _ x y h4⟩,zjG c a (k+1) xs r⟩
theorem zfv:∀ (c:Ctx) (sz:Nat) (a:Addr) (k:Nat) (es:List (List AV)),zax c sz a k es→zax c sz a k (nzR es)
 |c,sz,a,k,[],r=>by simp only[nzR];exact r
 |c,sz,a,k,x::xs,r=>by
  simp only[nzR,zax]at r ⊢
  exact ⟨by rw[zob];exact r.1,zjG c a k x r.2.1,zfv c sz a (k+sz) xs r.2.2⟩
end
theorem PC.nzr {P:Program} {inv:Nat→Option Nat} {j:Nat} {args:List AV} {r:AV} (h:PC P inv j args (·=r)):PC P inv j args (·=nz r) :=
 fun g hg M w vs hM ha=>(h g hg M w vs hM ha).mono fun _ _ ⟨v,r',e,h1,h2,h3,h4⟩=>⟨v,nz r',e,by rw[h1],h2,zk0 r' h3,zlR _ r' v h4⟩
attribute [go_sem] nz nzL nzR
end Go.Eng
