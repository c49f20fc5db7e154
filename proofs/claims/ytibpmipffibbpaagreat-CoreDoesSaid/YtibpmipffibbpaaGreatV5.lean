/-
  A part of the engine that walks the functions' codes, and of the functions' contracts. Conditions: those that each theorem names.
-/
import Derived.Test.YtibpmipffibbpaaGreatV4
import Derived.IntWalk
set_option linter.unusedSimpArgs false
set_option linter.unusedVariables false
set_option linter.unusedSectionVars false
namespace Go.Lev
open Go.Eng
set_option maxRecDepth 10000
set_option maxHeartbeats 4000000
variable {P:Program} {inv:Nat->Option Nat} {w0:World} {M:Nat->Prop}
def gc (H A:List Int) (W:AV):List AV:=H.map AV.n++(A.map AV.n++[W])
section gc
variable {H A:List Int} {W:AV}
theorem zg2 (h:H.length=100) (h':A.length=100):(gc H A W).length=201:=by simp[gc,h,h']
theorem zq8 (h:H.length=100) {i:Nat} (hi:i<100):(gc H A W)[i]?=some (.n (nth H i)):=by
 unfold gc
 rw[List.getElem?_append_left (by simp[h,hi]),zko (by omega)]
theorem gc_get2 (h:H.length=100) (h':A.length=100) {i:Nat} (hi:i<100):(gc H A W)[100+i]?=some (.n (nth A i)):=by
 unfold gc
 rw[List.getElem?_append_right (by simp[h]),List.length_map,h,show 100+i-100=i by omega,List.getElem?_append_left (by simp[h',hi]),zko (by omega)]
theorem gc_get3 (h:H.length=100) (h':A.length=100):(gc H A W)[200]?=some W:=by
 unfold gc
 rw[List.getElem?_append_right (by simp[h]),List.length_map,h,List.getElem?_append_right (by simp[h']),List.length_map,h']
 rfl
theorem gc_set1 (h:H.length=100) {i:Nat} (hi:i<100) (x:Int):(gc H A W).set i (.n x)=gc (H.set i x) A W:=by
 unfold gc
 rw[List.set_append_left _ _ (by simp[h,hi]),List.map_set]
theorem gc_set2 (h:H.length=100) (h':A.length=100) {i:Nat} (hi:i<100) (x:Int):(gc H A W).set (100+i) (.n x)=gc H (A.set i x) W:=by
 unfold gc
 rw[List.set_append_right _ _ (by simp[h]),List.length_map,h,show 100+i-100=i by omega,List.set_append_left _ _ (by simp[h',hi]),List.map_set]
theorem gc_set3 (h:H.length=100) (h':A.length=100) (W':AV):(gc H A W).set 200 W'=gc H A W':=by
 unfold gc
 rw[List.set_append_right _ _ (by simp[h]),List.length_map,h,List.set_append_right _ _ (by simp[h']),List.length_map,h']
 rfl
theorem znZ (h:W.plain=true):zaC (gc H A W)=true:=by
 unfold gc
 rw[zc6,zc6,zdc,zdc]
 simp[zaC,h]
theorem zra (h:W.plain=true):zag (gc H A W)=true:=zcc _ (znZ h)
theorem zf4 (h:W.plain=true):zae (gc H A W)=0:=zbn _ (zra h)
theorem gc_snap (h:W.plain=true) (k:Nat) (σ:AS):zb3 k σ (gc H A W)=gc H A W:=zfE k σ (znZ h)
end gc
def wsl (ws:List WayR):AV:=.sl 4 (ws.map Way.c)
theorem zfw (ws:List WayR):(wsl ws).plain=true:=rfl
def zbq (w:WayR) (l:Lock):List Int:=if l.phase=0 then [] else w.path.drop l.gone.toNat++w.over
def zb4 (l:Lock) (a:AskR):Bool:=decide (a.pos<0)||decide (l.gone<=a.pos)
def zbU (n:Int):List Int->List Int->Bool->List Int×Bool
 |[],H,t=>(H,t)
 |s::r,H,t=>if t=true/\nth H s.toNat=0 then zbU n r (H.set s.toNat n) true else (H.set s.toNat n,false)
def zeh (l:Lock) (C:List (Int×Int)):List AskR->List Int->Bool->List Int×Bool
 |[],A,t=>(A,t)
 |a::r,A,t=>if zb4 l a=true then (if t=true/\zgj C a.pnt=a.lie then zeh l C r (A.set a.pnt.toNat a.lie) true else (A.set a.pnt.toNat a.lie,false)) else zeh l C r A t
def stG (p:Pln) (s:State) (ws:List WayR) (C:List (Int×Int)) (l:Lock) (H A:List Int) (t:Bool):List (Nat×AO):=[(0,.cells p.c true),(1,.cells s.c true),(2,.cells (gc H A (wsl ws)) true),(3,.cells [.b t] true),(4,.cells [.fn 110 []] true),(5,.imap C),(6,.cells [.mp 5] true),(7,.cells l.c true)]
theorem held_ac (hH:HasAll P inv) (hM:∀ b,M b->b<w0.heap.size) (p:Pln) (s:State) (ws:List WayR) (C:List (Int×Int)) (l:Lock) (w:WayR) (H A:List Int) (t:Bool) (hg:0<=l.gone/\l.gone<=w.path.length) (h1:w.path.length<=1000) (h2:w.over.length<=1000) (hs:∀ x∈w.path++w.over,0<=x/\x<=99) (hHl:H.length=100) (hAl:A.length=100) :
  AC P inv w0 M 30 118 [.agg w.c,.agg l.c,.fn 119 [.ptr 3 1 0,.ptr 2 201 0,.ptr 7 4 0]] (stG p s ws C l H A t) fun r0 σ'=>r0=.tup []/\σ'=stG p s ws C l (zbU l.id (zbq w l) H t).1 A (if l.phase=0 then t else (zbU l.id (zbq w l) H t).2):=by
 have c3:=zlT hH [w.path.drop l.gone.toNat,w.over] (by simp) (by simp[lens];omega)
 rw[show [w.path.drop l.gone.toNat,w.over].flatten=w.path.drop l.gone.toNat++w.over by simp,show [w.path.drop l.gone.toNat,w.over].map lst=[[.sl 1 ((w.path.map zcG).drop l.gone.toNat)],[.sl 1 (w.over.map zcG)]] by simp[lst,List.map_drop]]at c3
 have hn1:¬l.gone<0:=by omega
 have hn2:¬((w.path.length:Int)<l.gone):=by omega
 have hgb:=zf4 (H:=H) (A:=A) (zfw ws)
 unfold zbq
 by_cases hph:l.phase=0
 ·simp only[hph,if_true,zbU]
  refine za4 (F:=cd118) (hH.has _ _ rfl) rfl (Nat.le_of_ble_eq_true rfl) fun Q hQ hR=>?_;have hE:=hH.callable;dsimp only[cd118,qm,ql,qf,qi,qb,qc,qN,qt]at hQ |-
  unfold stG
  (refine wD ?_;try with_reducible exact wT)
  (have hX:=@hgb;(repeat' first|refine zaa [0,1,2,3,4,7,10,24,25,26,27,33] fun K hK=>?_|(refine hK.go ?_;clear hK K)|with_reducible exact wT|refine wA ?_|(refine wB (fun h=>?_) (fun h=>?_)<;>first|exact wN h|subst (h:(_:Bool)=_)|skip)|(refine wR ?_;clear hQ hR hE hM)|fail);all_goals clear hX)
  all_goals first|(exfalso;contradiction)|skip
  all_goals ((first|refine ⟨[],trivial, ?_⟩|refine ⟨[],⟨rfl,trivial⟩, ?_⟩);simp only[swS,stG];(refine wD ?_;try with_reducible exact wT);(try simp))
 ·simp only[hph,if_false]
  obtain ⟨L,hL⟩:∃ L,L=w.path.drop l.gone.toNat++w.over:=⟨_,rfl⟩
  have hLs:∀ x∈L,0<=x/\x<=99:=fun x hx=>hs x (by
   rw[hL]at hx
   rcases List.mem_append.1 hx with h|h
   ·exact List.mem_append.2 (.inl (List.mem_of_mem_drop h))
   ·exact List.mem_append.2 (.inr h))
  have hLl:L.length<=2000:=by rw[hL];simp;omega
  rw[<-hL]at c3 |-
  clear hL
  refine za4 (F:=cd118) (hH.has _ _ rfl) rfl (Nat.le_of_ble_eq_true rfl) fun Q hQ hR=>?_;have hE:=hH.callable;dsimp only[cd118,qm,ql,qf,qi,qb,qc,qN,qt]at hQ |-
  skip
  unfold stG
  (refine wD ?_;try with_reducible exact wT)
  (have hX:=zA @hn1 (zA @hn2 @hgb);(repeat' first|refine zaa [0,1,2,3,4,5,7,10,24,25,26,27,33] fun K hK=>?_|(refine hK.go ?_;clear hK K)|with_reducible exact wT|refine wA ?_|(refine wB (fun h=>?_) (fun h=>?_)<;>first|exact wN h|subst (h:(_:Bool)=_)|skip)|(refine wQ ?_;clear hQ hR)|refine wC c3 ?_|fail);all_goals clear hX)
  all_goals first|(exfalso;contradiction)|skip
  refine zam (ι:=Nat×(List Int)×Bool) [2,24,25,26] (fun z=>[(26,.n z.1)]) (fun z=>[(2,.cells (gc z.2.1 A (wsl ws)) true),(3,.cells [.b z.2.2] true)]) (fun z=>z.1) (L.length) (fun z=>(z.2.1.length=100)/\(zbU l.id (L.drop z.1) z.2.1 z.2.2=zbU l.id L H t)) (0,H,t) ?_;rintro ⟨k,X,u⟩ ⟨hk,hx,hgo⟩;(try dsimp only at hk hx hgo |-);rcases Nat.lt_or_ge k L.length with hlt|hge
  ·rw[zaf hlt,zbU]at hgo
   have hb:=hLs _ (zab hlt)
   have hgb2:=zf4 (H:=X) (A:=A) (zfw ws)
   have e1:=zq8 (H:=X) (A:=A) (W:=wsl ws) hx (i:=(nth L k).toNat) (by omega)
   have e2:=gc_set1 (H:=X) (A:=A) (W:=wsl ws) hx (i:=(nth L k).toNat) (by omega) l.id
   have e3:=zg2 (H:=X) (A:=A) (W:=wsl ws) hx hAl
   (have hX:=zA @hgb2 (zA @e1 (zA @e2 @e3));(repeat' first|refine zaa [0,1,2,3,4,5,7,10,24,25,26,27,33] fun K hK=>?_|(refine hK.go ?_;clear hK K)|with_reducible exact wT|refine wA ?_|(refine wB (fun h=>?_) (fun h=>?_)<;>first|exact wN h|subst (h:(_:Bool)=_)|skip)|(refine wQ ?_;clear hQ hR)|(refine AC.callK 40 (by omega) (by first|omega|exact wF|((refine wD ?_;try with_reducible exact wT);omega)) (zao (F:=cd119) (hH.has _ _ rfl) (Nat.le_of_ble_eq_true rfl) fun Q hQ hR=>?_);dsimp only[cd119,qm,ql,qf,qc,qp,qN,qT,qt]at hQ |-;try refine wD ?_)|fail);all_goals clear hX)
   all_goals first
    |(rw[if_neg (by simp[*])]at hgo;rw[<-hgo];refine ⟨[],trivial, ?_⟩;simp only[swS,stG];(refine wD ?_;try with_reducible exact wT);(try simp[*]);done)
    |(rw[if_pos ⟨by simp[*],by simp[*]⟩]at hgo;exact ⟨(k+1,X.set (nth L k).toNat l.id,true),by dsimp only;omega,⟨by dsimp only;omega,by simp[hx],hgo⟩,by dsimp only;omega,rfl,by simp[*]⟩)
  ·rw[List.drop_eq_nil_of_le hge,zbU]at hgo
   (repeat' first|refine zaa [0,1,2,3,4,5,7,10,24,25,26,27,33] fun K hK=>?_|(refine hK.go ?_;clear hK K)|with_reducible exact wT|refine wA ?_|(refine wB (fun h=>?_) (fun h=>?_)<;>first|exact wN h|subst (h:(_:Bool)=_)|skip)|(refine wQ ?_;clear hQ hR)|fail)
   rw[<-hgo];refine ⟨[],trivial, ?_⟩;simp only[swS,stG];(refine wD ?_;try with_reducible exact wT);(try simp[*])
theorem asks_ac (hH:HasAll P inv) (hM:∀ b,M b->b<w0.heap.size) (p:Pln) (s:State) (ws:List WayR) (C:List (Int×Int)) (l:Lock) (w:WayR) (H A:List Int) (t:Bool) (h1:w.asks.length<=1000) (hs:∀ a∈w.asks,0<=a.pnt/\a.pnt<=99) (hHl:H.length=100) (hAl:A.length=100) :
  AC P inv w0 M 30 120 [.agg w.c,.agg l.c,.fn 121 [.ptr 3 1 0,.ptr 6 1 0,.ptr 2 201 0]] (stG p s ws C l H A t) fun r0 σ'=>r0=.tup []/\σ'=stG p s ws C l H (if l.phase=0 then (A,t) else zeh l C w.asks A t).1 (if l.phase=0 then (A,t) else zeh l C w.asks A t).2:=by
 have hgb:=zf4 (H:=H) (A:=A) (zfw ws)
 by_cases hph:l.phase=0
 ·simp only[hph,if_true]
  refine za4 (F:=cd120) (hH.has _ _ rfl) rfl (Nat.le_of_ble_eq_true rfl) fun Q hQ hR=>?_;have hE:=hH.callable;dsimp only[cd120,qm,ql,qf,qi,qb,qc,qp,qv,qN,qT,qF,qt]at hQ |-
  unfold stG
  (refine wD ?_;try with_reducible exact wT)
  (have hX:=@hgb;(repeat' first|refine zaa [0,1,2,3,4,7,10,12,13,14,15,33] fun K hK=>?_|(refine hK.go ?_;clear hK K)|with_reducible exact wT|refine wA ?_|(refine wB (fun h=>?_) (fun h=>?_)<;>first|exact wN h|subst (h:(_:Bool)=_)|skip)|(refine wR ?_;clear hQ hR hE hM)|fail);all_goals clear hX)
  all_goals first|(exfalso;contradiction)|skip
  all_goals ((first|refine ⟨[],trivial, ?_⟩|refine ⟨[],⟨rfl,trivial⟩, ?_⟩);simp only[swS,stG];(refine wD ?_;try with_reducible exact wT);(try simp))
 ·simp only[hph,if_false]
  refine za4 (F:=cd120) (hH.has _ _ rfl) rfl (Nat.le_of_ble_eq_true rfl) fun Q hQ hR=>?_;have hE:=hH.callable;dsimp only[cd120,qm,ql,qf,qi,qb,qc,qp,qv,qN,qT,qF,qt]at hQ |-
  skip
  unfold stG
  (refine wD ?_;try with_reducible exact wT)
  (have hX:=@hgb;(repeat' first|refine zaa [0,1,2,3,4,5,7,10,12,13,14,15,33] fun K hK=>?_|(refine hK.go ?_;clear hK K)|with_reducible exact wT|refine wA ?_|(refine wB (fun h=>?_) (fun h=>?_)<;>first|exact wN h|subst (h:(_:Bool)=_)|skip)|(refine wQ ?_;clear hQ hR)|fail);all_goals clear hX)
  all_goals first|(exfalso;contradiction)|skip
  refine zam (ι:=Nat×(List Int)×Bool) [2,4,12,13,14] (fun z=>[(14,.n z.1)]) (fun z=>[(2,.cells (gc H z.2.1 (wsl ws)) true),(3,.cells [.b z.2.2] true)]) (fun z=>z.1) (w.asks.length) (fun z=>(z.2.1.length=100)/\(zeh l C (w.asks.drop z.1) z.2.1 z.2.2=zeh l C w.asks A t)) (0,A,t) ?_;rintro ⟨k,X,u⟩ ⟨hk,hx,hgo⟩;(try dsimp only at hk hx hgo |-);rcases Nat.lt_or_ge k w.asks.length with hlt|hge
  ·rw[zaf hlt,zeh]at hgo
   have hb:=hs _ (zab hlt)
   have hgb2:=zf4 (H:=H) (A:=X) (zfw ws)
   have e2:=gc_set2 (H:=H) (A:=X) (W:=wsl ws) hHl hx (i:=(nth w.asks k).pnt.toNat) (by omega) (nth w.asks k).lie
   have e3:=zg2 (H:=H) (A:=X) (W:=wsl ws) hHl hx
   (have hX:=zA @hgb2 (zA @e2 @e3);(repeat' first|refine zaa [0,1,2,3,4,5,7,10,12,13,14,15,33] fun K hK=>?_|(refine hK.go ?_;clear hK K)|with_reducible exact wT|refine wA ?_|(refine wB (fun h=>?_) (fun h=>?_)<;>first|exact wN h|subst (h:(_:Bool)=_)|skip)|(refine wQ ?_;clear hQ hR)|(refine AC.callK 40 (by omega) (by first|omega|exact wF|((refine wD ?_;try with_reducible exact wT);omega)) (zao (F:=cd121) (hH.has _ _ rfl) (Nat.le_of_ble_eq_true rfl) fun Q hQ hR=>?_);dsimp only[cd121,qm,ql,qf,qb,qp,qN,qT,qt]at hQ |-;try refine wD ?_)|fail);all_goals clear hX)
   all_goals first
    |(rw[show zb4 l (nth w.asks k)=true by simp[zb4, *],if_pos rfl,if_neg (by simp[*])]at hgo;rw[<-hgo];refine ⟨[],trivial, ?_⟩;simp only[swS,stG];(refine wD ?_;try with_reducible exact wT);(try simp[*]);done)
    |(rw[show zb4 l (nth w.asks k)=true by simp[zb4, *],if_pos rfl,if_pos ⟨by simp[*],by simp[*]⟩]at hgo;exact ⟨(k+1,X.set (nth w.asks k).pnt.toNat (nth w.asks k).lie,true),by dsimp only;omega,⟨by dsimp only;omega,by simp[hx],hgo⟩,by dsimp only;omega,rfl,by simp[*]⟩)
    |(rw[show zb4 l (nth w.asks k)=false by simp[zb4];omega,if_neg (by simp)]at hgo;exact ⟨(k+1,X,_),by dsimp only;omega,⟨by dsimp only;omega,by simp[hx],hgo⟩,by dsimp only;omega,rfl,rfl⟩)
  ·rw[List.drop_eq_nil_of_le hge,zeh]at hgo
   (repeat' first|refine zaa [0,1,2,3,4,5,7,10,12,13,14,15,33] fun K hK=>?_|(refine hK.go ?_;clear hK K)|with_reducible exact wT|refine wA ?_|(refine wB (fun h=>?_) (fun h=>?_)<;>first|exact wN h|subst (h:(_:Bool)=_)|skip)|(refine wQ ?_;clear hQ hR)|fail)
   rw[<-hgo];refine ⟨[],trivial, ?_⟩;simp only[swS,stG];(refine wD ?_;try with_reducible exact wT);(try simp[*])
def zbJ (w:WayR) (l:Lock):List AskR:=if l.phase=0 then [] else w.asks
theorem held_ac2 (hH:HasAll P inv) (hM:∀ b,M b->b<w0.heap.size) (p:Pln) (s:State) (ws:List WayR) (C:List (Int×Int)) (l:Lock) (w:WayR) (H A:List Int) (t:Bool) (hg:0<=l.gone/\l.gone<=w.path.length) (h1:w.path.length<=1000) (h2:w.over.length<=1000) (hs:∀ x∈w.path++w.over,0<=x/\x<=99) (hHl:H.length=100) (hAl:A.length=100) :
  AC P inv w0 M 30 118 [.agg w.c,.agg l.c,.fn 119 [.ptr 3 1 0,.ptr 2 201 0,.ptr 7 4 0]] (stG p s ws C l H A t) fun r0 σ'=>r0=.tup []/\σ'=stG p s ws C l (zbU l.id (zbq w l) H t).1 A (zbU l.id (zbq w l) H t).2:=by
 have h:=held_ac hH hM p s ws C l w H A t hg h1 h2 hs hHl hAl
 by_cases hp:l.phase=0
 ·rw[if_pos hp]at h
  rw[show (zbU l.id (zbq w l) H t).2=t by unfold zbq;rw[if_pos hp];rfl]
  exact h
 ·rw[if_neg hp]at h;exact h
theorem asks_ac2 (hH:HasAll P inv) (hM:∀ b,M b->b<w0.heap.size) (p:Pln) (s:State) (ws:List WayR) (C:List (Int×Int)) (l:Lock) (w:WayR) (H A:List Int) (t:Bool) (h1:w.asks.length<=1000) (hs:∀ a∈w.asks,0<=a.pnt/\a.pnt<=99) (hHl:H.length=100) (hAl:A.length=100) :
  AC P inv w0 M 30 120 [.agg w.c,.agg l.c,.fn 121 [.ptr 3 1 0,.ptr 6 1 0,.ptr 2 201 0]] (stG p s ws C l H A t) fun r0 σ'=>r0=.tup []/\σ'=stG p s ws C l H (zeh l C (zbJ w l) A t).1 (zeh l C (zbJ w l) A t).2:=by
 have h:=asks_ac hH hM p s ws C l w H A t h1 hs hHl hAl
 by_cases hp:l.phase=0
 ·rw[if_pos hp]at h
  unfold zbJ
  rw[if_pos hp]
  exact h
 ·rw[if_neg hp]at h
  unfold zbJ
  rw[if_neg hp]
  exact h
theorem zf2 (n:Int):∀ (l H:List Int) (t:Bool),(zbU n l H t).1.length=H.length
 |[],H,t=>rfl
 |s::r,H,t=>by
  rw[zbU]
  split
  ·rw[zf2 n r];simp
  ·simp
theorem zgh (l:Lock) (C:List (Int×Int)):∀ (q:List AskR) (A:List Int) (t:Bool),(zeh l C q A t).1.length=A.length
 |[],A,t=>rfl
 |a::r,A,t=>by
  rw[zeh]
  split
  ·split
   ·rw[zgh l C r];simp
   ·simp
  ·exact zgh l C r A t
def zgk:List (Int×Int)->List Switch->List (Int×Int)
 |C,[]=>C
 |C,x::r=>zgk (zmA C x.id x.call) r
def zdB (ws:List WayR) (C:List (Int×Int)):Nat->List Lock->List Int->List Int->Bool->List Int×List Int×Bool
 |_,[],H,A,t=>(H,A,t)
 |i,l::r,H,A,t=>zdB ws C (i+1) r (zbU l.id (zbq (nth ws i) l) H t).1 (zeh l C (zbJ (nth ws i) l) A (zbU l.id (zbq (nth ws i) l) H t).2).1 (zeh l C (zbJ (nth ws i) l) A (zbU l.id (zbq (nth ws i) l) H t).2).2
def zaj (p:Pln) (s:State):Bool:=zaw ze6 s.tracks p.sections&&(zaw zfz s.switches p.points&&zaw zbR s.locks p.routes)
def zaP (p:Pln):List WayR:=p.routes.map fun r=>(zah p r).1
def zdw:List Int:=List.replicate 100 0
def gripR (p:Pln) (s:State):(List Int×List Int×Bool)×List WayR:=if zaj p s=true then (zdB (zaP p) (zgk [] s.switches) 0 s.locks zdw zdw true,zaP p) else ((zdw,zdw,false),[])
theorem foldG:List.replicate 100 (AV.i .i64 0)++(List.replicate 100 (AV.i .i64 0)++[AV.s0 4])=gc zdw zdw (.s0 4):=rfl
theorem gc_snap0 (H A:List Int) (k:Nat) (σ:AS):zb3 k σ (gc H A (.s0 4))=gc H A (.sl 4 []):=by
 unfold gc
 rw[zkZ,zkZ,zjW,zjW,zc1,zeq,sn_s0]
theorem ovl_gc {H A H' A':List Int} (h:H.length=100) (h':A.length=100) (h2:H'.length=100) (h2':A'.length=100) (W W':AV):ovl (gc H A W) 0 (gc H' A' W')=gc H' A' W':=by
 rw[znH _ _ _ (by rw[zg2 h h',zg2 h2 h2'];omega),List.take_zero,List.nil_append,List.drop_eq_nil_of_le (by rw[zg2 h h',zg2 h2 h2'];omega),List.append_nil]
theorem zbM:zdw.length=100:=by simp[zdw]
theorem zq9 (H A:List Int):zae (gc H A (.s0 4))=0:=by
 unfold gc
 rw[ze1,ze1,zeT,zeT];rfl
theorem gc_bare0 (H A:List Int):zag (gc H A (.s0 4))=true:=by
 have h:∀ xs ys:List AV,zag (xs++ys)=(zag xs&&zag ys):=by
  intro xs ys
  induction xs with
  |nil=>simp[zag]
  |cons x xs ih=>simp[zag,ih,Bool.and_assoc]
 unfold gc
 rw[h,h,zf1,zf1];rfl
def stGg (p:Pln) (s:State) (g:List AV) (C:List (Int×Int)) (l:Lock) (t:Bool):List (Nat×AO):=[(0,.cells p.c true),(1,.cells s.c true),(2,.cells g true),(3,.cells [.b t] true),(4,.cells [.fn 110 []] true),(5,.imap C),(6,.cells [.mp 5] true),(7,.cells l.c true)]
theorem held_ac3 (hH:HasAll P inv) (hM:∀ b,M b->b<w0.heap.size) (G:List Int->List Int->AV->List AV) (hG:G=gc) (p:Pln) (s:State) (ws:List WayR) (C:List (Int×Int)) (l:Lock) (w:WayR) (H A:List Int) (t:Bool) (hg:0<=l.gone/\l.gone<=w.path.length) (h1:w.path.length<=1000) (h2:w.over.length<=1000) (hs:∀ x∈w.path++w.over,0<=x/\x<=99) (hHl:H.length=100) (hAl:A.length=100) :
  AC P inv w0 M 30 118 [.agg w.c,.agg l.c,.fn 119 [.ptr 3 1 0,.ptr 2 201 0,.ptr 7 4 0]] (stGg p s (G H A (.sl 4 (ws.map Way.c))) C l t) fun r0 σ'=>r0=.tup []/\σ'=stGg p s (G (zbU l.id (zbq w l) H t).1 A (.sl 4 (ws.map Way.c))) C l (zbU l.id (zbq w l) H t).2:=by
 subst hG
 exact held_ac2 hH hM p s ws C l w H A t hg h1 h2 hs hHl hAl
theorem asks_ac3 (hH:HasAll P inv) (hM:∀ b,M b->b<w0.heap.size) (G:List Int->List Int->AV->List AV) (hG:G=gc) (p:Pln) (s:State) (ws:List WayR) (C:List (Int×Int)) (l:Lock) (w:WayR) (H A:List Int) (t:Bool) (h1:w.asks.length<=1000) (hs:∀ a∈w.asks,0<=a.pnt/\a.pnt<=99) (hHl:H.length=100) (hAl:A.length=100) :
  AC P inv w0 M 30 120 [.agg w.c,.agg l.c,.fn 121 [.ptr 3 1 0,.ptr 6 1 0,.ptr 2 201 0]] (stGg p s (G H A (.sl 4 (ws.map Way.c))) C l t) fun r0 σ'=>r0=.tup []/\σ'=stGg p s (G H (zeh l C (zbJ w l) A t).1 (.sl 4 (ws.map Way.c))) C l (zeh l C (zbJ w l) A t).2:=by
 subst hG
 exact asks_ac2 hH hM p s ws C l w H A t h1 hs hHl hAl
structure GC (G:List Int->List Int->AV->List AV) (Z:List Int):Prop where
 eq:G=gc
 z:Z=zdw
 fold:List.replicate 100 (AV.i .i64 0)++(List.replicate 100 (AV.i .i64 0)++[AV.s0 4])=G Z Z (.s0 4)
 zl:Z.length=100
 len:∀ {H A:List Int} (W:AV),H.length=100->A.length=100->(G H A W).length=201
 sg:∀ {H A:List Int} (W:AV),H.length=100->A.length=100->List.take 201 (G H A W)=G H A W
 ov:∀ {H A H' A':List Int} (W W':AV),H.length=100->A.length=100->H'.length=100->A'.length=100->ovl (G H A W) 0 (G H' A' W')=G H' A' W'
 bd0:∀ H A:List Int,zae (G H A (.s0 4))=0
 ba0:∀ H A:List Int,zag (G H A (.s0 4))=true
 bd:∀ (H A:List Int) (l:List (List AV)),zae (G H A (.sl 4 l))=0
 ba:∀ (H A:List Int) (l:List (List AV)),zag (G H A (.sl 4 l))=true
 sn0:∀ (H A:List Int) (k:Nat) (σ:AS),zb3 k σ (G H A (.s0 4))=G H A (.sl 4 [])
 sn:∀ (H A:List Int) (l:List (List AV)) (k:Nat) (σ:AS),zb3 k σ (G H A (.sl 4 l))=G H A (.sl 4 l)
 get:∀ {H A:List Int} (W:AV),H.length=100->A.length=100->(G H A W)[200]?=some W
 set:∀ {H A:List Int} (W W':AV),H.length=100->A.length=100->(G H A W).set 200 W'=G H A W'
theorem GC.mk':GC gc zdw:=⟨rfl,rfl,foldG,zbM,fun W h1 h2=>zg2 h1 h2,fun W h1 h2=>List.take_of_length_le (by rw[zg2 h1 h2];exact Nat.le_refl _),fun W W' h1 h2 h3 h4=>ovl_gc h1 h2 h3 h4 W W',zq9,gc_bare0,fun H A l=>zf4 rfl,fun H A l=>zra rfl,fun H A k σ=>gc_snap0 H A k σ,fun H A l k σ=>gc_snap rfl k σ,fun W h1 h2=>gc_get3 h1 h2,fun W W' h1 h2=>gc_set3 h1 h2 W'⟩
theorem GC.ex:∃ G Z,GC G Z:=⟨_,_,GC.mk'⟩
theorem zkB {φ:AF} {σ:AS} {t u l l':Nat} {g:List AV} {b r r':Bool} (h1:zbs φ t=.ptr l 201 0) (h2:zaF σ l=some (.cells g r)) (h3:g.length=201) (hs:List.take 201 g=g) (h4:zbs φ u=.ptr l' 1 0) (h5:zaF σ l'=some (.cells [.b b] r')):zed φ σ [.cell t (some 201),.cell u none]=some (.tup [.agg g,.b b]):=by
 have h:zcx g 0 (some 201)=some (.agg g):=by
  rw[al_s,if_pos (by omega),seg,List.drop_zero,hs]
 simp only[zed,ziQ,ares,h1,h4,zdC,h2,h5,h,h3,al_n,List.getElem?_cons_zero,List.length_cons,List.length_nil,if_true,Nat.zero_add]
theorem grip_bad (hH:HasAll P inv) (hI:HasIds P inv) (p:Pln) (hp:Sm p) (s:State) (hs:s.tracks.length<=1000/\s.switches.length<=1000/\s.locks.length<=1000) (hok:OkP p) (hb:zaj p s=false):PC P inv 93 [.agg p.c,.agg s.c] (·=.tup [.agg (gc zdw zdw (.sl 4 [])),.b false]):=by
 obtain ⟨G,Z,hg⟩:=GC.ex
 rw[<-hg.eq,<-hg.z]
 have c1:=eqfTrk hH (caps:=[]) s.tracks p.sections (fun x _ y _=>zng hH x y) rfl (by omega)
 have c2:=eqfSwt hH (caps:=[.ip 1 [[.fn 110 []]] 0 0]) s.switches p.points (fun x _ y _=>znj hH x y) rfl (by omega)
 have c3:=eqfLck hH (caps:=[]) s.locks p.routes (fun x _ y hy=>znR hH x y (by have:=zc3 hok hy;omega)) rfl (by omega)
 unfold zaj at hb
 revert c1 c2 c3 hb
 generalize zaw ze6 s.tracks p.sections=a1
 generalize zaw zfz s.switches p.points=a2
 generalize zaw zbR s.locks p.routes=a3
 intro hb c1 c2 c3
 have hfold:=hg.fold
 have hlen:=hg.len (.s0 4) hg.zl hg.zl
 have hsg:=hg.sg (.s0 4) hg.zl hg.zl
 have hov:=hg.ov (.s0 4) (.s0 4) hg.zl hg.zl hg.zl hg.zl
 have hbd:=hg.bd0 Z Z
 have hba:=hg.ba0 Z Z
 have hsn:=hg.sn0 Z Z
 clear hg
 cases a1
 ·refine PC.fn hH cd93 fun w0 M Q hM hE hQ hR=>?_;dsimp only[cd93,qm,ql,qf,qi,qb,qc,qv,qN,qF,qt]at hQ |-
  (have hX:=zA @hfold (zA @hlen (zA @hsg (zA @hov (zA @hbd (zA @hba @hsn)))));(repeat' first|refine zaa [0,1,2,3,4,5,6,7,9,10,11,34,43,45,46,47,48,58,59,60,61] fun K hK=>?_|(refine hK.go ?_;clear hK K)|with_reducible exact wT|refine wA ?_|(refine wB (fun h=>?_) (fun h=>?_)<;>first|exact wN h|subst (h:(_:Bool)=_)|skip)|(refine wQ ?_;clear hQ hR hE hM)|refine wC c1 ?_|fail);all_goals clear hX)
  all_goals (refine hQ _ _ _ (zkB rfl rfl hlen hsg rfl rfl) ?_;simp only[zfD,zc1,zeq,zfF,sn_b,hsn])
 ·cases a2
  ·refine PC.fn hH cd93 fun w0 M Q hM hE hQ hR=>?_;dsimp only[cd93,qm,ql,qf,qi,qb,qc,qv,qN,qF,qt]at hQ |-
   (have hX:=zA @hfold (zA @hlen (zA @hsg (zA @hov (zA @hbd (zA @hba @hsn)))));(repeat' first|refine zaa [0,1,2,3,4,5,6,7,9,10,11,34,43,45,46,47,48,58,59,60,61] fun K hK=>?_|(refine hK.go ?_;clear hK K)|with_reducible exact wT|refine wA ?_|(refine wB (fun h=>?_) (fun h=>?_)<;>first|exact wN h|subst (h:(_:Bool)=_)|skip)|(refine wQ ?_;clear hQ hR hE hM)|refine wC c1 ?_|refine wS c2 ?_|fail);all_goals clear hX)
   all_goals (refine hQ _ _ _ (zkB rfl rfl hlen hsg rfl rfl) ?_;simp only[zfD,zc1,zeq,zfF,sn_b,hsn])
  ·cases a3
   ·refine PC.fn hH cd93 fun w0 M Q hM hE hQ hR=>?_;dsimp only[cd93,qm,ql,qf,qi,qb,qc,qv,qN,qF,qt]at hQ |-
    (have hX:=zA @hfold (zA @hlen (zA @hsg (zA @hov (zA @hbd (zA @hba @hsn)))));(repeat' first|refine zaa [0,1,2,3,4,5,6,7,9,10,11,34,43,45,46,47,48,58,59,60,61] fun K hK=>?_|(refine hK.go ?_;clear hK K)|with_reducible exact wT|refine wA ?_|(refine wB (fun h=>?_) (fun h=>?_)<;>first|exact wN h|subst (h:(_:Bool)=_)|skip)|(refine wQ ?_;clear hQ hR hE hM)|refine wC c1 ?_|refine wS c2 ?_|refine wC c3 ?_|fail);all_goals clear hX)
    all_goals (refine hQ _ _ _ (zkB rfl rfl hlen hsg rfl rfl) ?_;simp only[zfD,zc1,zeq,zfF,sn_b,hsn])
   ·cases hb
theorem zeS {p:Pln} (hok:OkP p) {l:Lock} {r:Rte} (hr:r∈p.routes) (h:zbR l r=true):0<=l.gone/\l.gone<=(r.path.length:Int)-1:=by
 have hl:=zc3 hok hr
 simp only[zbR,zax,Bool.and_eq_true]at h
 obtain ⟨_,h⟩:=h
 repeat' split at h
 all_goals (simp at h;try omega)
theorem zfv {α β:Type} [Inhabited α] [Inhabited β] {q:α->β->Bool}:∀ {a:List α} {b:List β},zaw q a b=true->∀ {i:Nat},i<a.length->q (nth a i) (nth b i)=true
 |[],_,_,i,hi=>by simp at hi
 |x::xs,[],h,_,_=>by simp[zaw]at h
 |x::xs,y::ys,h,0,_=>by simp only[zaw,Bool.and_eq_true]at h;simpa [nth] using h.1
 |x::xs,y::ys,h,i+1,hi=>by
  simp only[zaw,Bool.and_eq_true]at h
  have:=zfv (q:=q) h.2 (i:=i) (by simpa using hi)
  simpa [nth] using this
theorem grip_ok (hH:HasAll P inv) (hI:HasIds P inv) (p:Pln) (hp:Sm p) (s:State) (hs:s.tracks.length<=1000/\s.switches.length<=1000/\s.locks.length<=1000) (ho:zbd p=true) (hb:zaj p s=true):PC P inv 93 [.agg p.c,.agg s.c] (·=.tup [.agg (gc (zdB (zaP p) (zgk [] s.switches) 0 s.locks zdw zdw true).1 (zdB (zaP p) (zgk [] s.switches) 0 s.locks zdw zdw true).2.1 (.sl 4 ((zaP p).map Way.c))),.b (zdB (zaP p) (zgk [] s.switches) 0 s.locks zdw zdw true).2.2]):=by
 have hlr:=hp.rte
 simp only[zbd,Bool.and_eq_true]at ho
 have hok:=zid ho.1
 have c0:=all_pc hH hI p hp
 rw[zl5,ho.1,if_pos rfl,ho.2.1,if_pos rfl]at c0
 dsimp only at c0
 rw[show (p.routes.map fun r=>(zah p r).1)=zaP p from rfl]at c0
 simp only[zaj,Bool.and_eq_true]at hb
 have c1:=eqfTrk hH (caps:=[]) s.tracks p.sections (fun x _ y _=>zng hH x y) rfl (by omega)
 have c2:=eqfSwt hH (caps:=[.ip 1 [[.fn 110 []]] 0 0]) s.switches p.points (fun x _ y _=>znj hH x y) rfl (by omega)
 have c3:=eqfLck hH (caps:=[]) s.locks p.routes (fun x _ y hy=>znR hH x y (by have:=zc3 hok hy;omega)) rfl (by omega)
 rw[hb.1]at c1
 rw[hb.2.1]at c2
 rw[hb.2.2]at c3
 have hll:s.locks.length=p.routes.length:=zce hb.2.2
 have hwl:(zaP p).length=p.routes.length:=by simp[zaP]
 have hway:∀ i,i<p.routes.length->nth (zaP p) i=(zah p (nth p.routes i)).1:=fun i hi=>znK (fun r=>(zah p r).1) hi
 have hpath:∀ i,i<p.routes.length->(zah p (nth p.routes i)).1.path=(nth p.routes i).path/\(zah p (nth p.routes i)).1.over=(nth p.routes i).over:=fun i hi=>by
  have h1:=(List.all_eq_true.1 ho.2.1) _ (zab hi)
  have h2:=zbv (p:=p) (r:=nth p.routes i) (by simpa using h1)
  exact ⟨h2.1,h2.2.1⟩
 obtain ⟨ans,hans⟩:∃ ans,ans=zdB (zaP p) (zgk [] s.switches) 0 s.locks zdw zdw true:=⟨_,rfl⟩
 rw[<-hans]
 obtain ⟨ws,hws⟩:∃ ws,ws=zaP p:=⟨_,rfl⟩
 rw[<-hws]at c0 hwl hway hans |-
 obtain ⟨G,Z,hg⟩:=GC.ex
 rw[<-hg.z]at hans
 rw[<-hg.eq]
 have hfold:=hg.fold
 have hlen:=hg.len (.s0 4) hg.zl hg.zl
 have hlen2:=hg.len (.sl 4 (ws.map Way.c)) hg.zl hg.zl
 have hset:=hg.set (.s0 4) (.sl 4 (ws.map Way.c)) hg.zl hg.zl
 have hbd0:=hg.bd0 Z Z
 have hbd:=fun H A=>hg.bd H A (ws.map Way.c)
 have hba:=fun H A=>hg.ba H A (ws.map Way.c)
 refine PC.fn hH cd93 fun w0 M Q hM hE hQ hR=>?_;dsimp only[cd93,qm,ql,qf,qi,qb,qc,qv,qN,qF,qt]at hQ |-
 (have hX:=zA @hfold (zA @hlen (zA @hbd0 (zA @hbd (zA @hba (zA @hset @hlen2)))));(repeat' first|refine zaa [0,1,2,3,4,5,6,7,9,10,11,34,43,45,46,47,48,58,59,60,61] fun K hK=>?_|(refine hK.go ?_;clear hK K)|with_reducible exact wT|refine wA ?_|(refine wB (fun h=>?_) (fun h=>?_)<;>first|exact wN h|subst (h:(_:Bool)=_)|skip)|(refine wQ ?_;clear hQ hR hE hM)|refine wC c1 ?_|refine wS c2 ?_|refine wC c3 ?_|refine wC c0 ?_|fail);all_goals clear hX)
 refine zam (ι:=Nat×(List (Int×Int))) [3,4,5,7,45,46,47] (fun z=>[(47,.n z.1)]) (fun z=>[(5,.imap z.2)]) (fun z=>z.1) (s.switches.length) (fun z=>(zgk z.2 (s.switches.drop z.1)=zgk [] s.switches)) (0,([]:List (Int×Int))) ?_;rintro ⟨k,C⟩ ⟨hk,hm⟩;(try dsimp only at hk hm |-);rcases Nat.lt_or_ge k s.switches.length with hlt|hge
 ·rw[zaf hlt,zgk]at hm
  (have hX:=@hbd;(repeat' first|refine zaa [0,1,2,3,4,5,6,7,9,10,11,34,43,45,46,47,48,58,59,60,61] fun K hK=>?_|(refine hK.go ?_;clear hK K)|with_reducible exact wT|refine wA ?_|(refine wB (fun h=>?_) (fun h=>?_)<;>first|exact wN h|subst (h:(_:Bool)=_)|skip)|(refine wQ ?_;clear hQ hR hE hM)|fail);all_goals clear hX)
  exact nY (k+1,zmA C (nth s.switches k).id (nth s.switches k).call) ⟨by (try dsimp only);omega,hm⟩
 ·rw[List.drop_eq_nil_of_le hge,zgk]at hm
  rw[<-hm]at hans
  clear hm
  (have hX:=@hbd;(repeat' first|refine zaa [0,1,2,3,4,5,6,7,9,10,11,34,43,45,46,47,48,58,59,60,61] fun K hK=>?_|(refine hK.go ?_;clear hK K)|with_reducible exact wT|refine wA ?_|(refine wB (fun h=>?_) (fun h=>?_)<;>first|exact wN h|subst (h:(_:Bool)=_)|skip)|(refine wQ ?_;clear hQ hR hE hM)|fail);all_goals clear hX)
  have hzl:Z.length=100/\Z.length=100:=⟨hg.zl,hg.zl⟩
  have hans0:zdB ws C 0 (s.locks.drop 0) Z Z true=ans:=by rw[List.drop_zero];exact hans.symm
  refine zam (ι:=Nat×(List Int)×(List Int)×Bool) [4,5,7,58,59,60] (fun z=>[(60,.n z.1)]) (fun z=>[(2,.cells (G z.2.1 z.2.2.1 (.sl 4 (ws.map Way.c))) true),(3,.cells [.b z.2.2.2] true)]) (fun z=>z.1) (s.locks.length) (fun z=>(z.2.1.length=100/\z.2.2.1.length=100)/\(zdB ws C z.1 (s.locks.drop z.1) z.2.1 z.2.2.1 z.2.2.2=ans)) (0,Z,Z,true) ?_;rintro ⟨i,H,A,t⟩ ⟨hk,hx,hgo⟩;(try dsimp only at hk hx hgo |-);rcases Nat.lt_or_ge i s.locks.length with hlt|hge
  ·rw[zaf (by assumption),zdB]at hgo
   have hir:i<p.routes.length:=by omega
   have hw:=hway i hir
   have hpa:=hpath i hir
   have hm:=zab hir
   have hls:=zc3 hok hm
   have hse:=(zb8 hok hm).1
   have hwl2:=zbf hok hm
   have hgn:=zeS hok hm (zfv hb.2.2 (i:=i) (by omega))
   have hap:∀ a∈(nth ws i).asks,0<=a.pnt/\a.pnt<=99:=fun a ha=>by rw[hw]at ha;have:=zbC hok hm ha;omega
   have hse2:∀ x∈(nth ws i).path++(nth ws i).over,0<=x/\x<=99:=fun x hx=>by
    rw[hw,hpa.1,hpa.2]at hx
    obtain ⟨q,hq,rfl⟩:=hse x hx
    have:=zcQ hok hq
    omega
   have hgn2:0<=(nth s.locks i).gone/\(nth s.locks i).gone<=(nth ws i).path.length:=by rw[hw,hpa.1];omega
   have hl1:(nth ws i).path.length<=1000:=by rw[hw];omega
   have hl2:(nth ws i).over.length<=1000:=by rw[hw];omega
   have hl3:(nth ws i).asks.length<=1000:=by rw[hw];omega
   have hget:=hg.get (.sl 4 (ws.map Way.c)) hx.1 hx.2
   have hln:=hg.len (.sl 4 (ws.map Way.c)) hx.1 hx.2
   have hh:=fun C=>held_ac3 hH hM G hg.eq p s ws C (nth s.locks i) (nth ws i) H A t hgn2 hl1 hl2 hse2 hx.1 hx.2
   have hH1:(zbU (nth s.locks i).id (zbq (nth ws i) (nth s.locks i)) H t).1.length=100:=by rw[zf2];exact hx.1
   have hiw:i<ws.length:=by omega
   revert hh hgo hH1
   generalize zbU (nth s.locks i).id (zbq (nth ws i) (nth s.locks i)) H t=HT
   intro hgo hh hH1
   have hget':=hg.get (.sl 4 (ws.map Way.c)) hH1 hx.2
   have hln':=hg.len (.sl 4 (ws.map Way.c)) hH1 hx.2
   have ha:=fun C=>asks_ac3 hH hM G hg.eq p s ws C (nth s.locks i) (nth ws i) HT.1 A HT.2 hl3 hap hH1 hx.2
   have hA1:∀ C,(zeh (nth s.locks i) C (zbJ (nth ws i) (nth s.locks i)) A HT.2).1.length=100:=fun C=>by rw[zgh];exact hx.2
   (have hX:=zA @hbd (zA @hget (zA @hln (zA @hget' (zA @hln' @stGg.eq_1))));(repeat' first|refine zaa [0,1,2,3,4,5,6,7,9,10,11,34,43,45,46,47,48,58,59,60,61] fun K hK=>?_|(refine hK.go ?_;clear hK K)|with_reducible exact wT|refine wA ?_|(refine wB (fun h=>?_) (fun h=>?_)<;>first|exact wN h|subst (h:(_:Bool)=_)|skip)|(refine wQ ?_;clear hQ hR hE hM)|(refine ze5 30 (hh C) (by omega) (by first|omega|exact wF|((refine wD ?_;try with_reducible exact wT);omega)) ?_;try refine wD ?_)|(refine ze5 30 (ha C) (by omega) (by first|omega|exact wF|((refine wD ?_;try with_reducible exact wT);omega)) ?_;try refine wD ?_)|fail);all_goals clear hX)
   exact ⟨(i+1,HT.1,_,_),by dsimp only;omega,⟨by dsimp only;omega,⟨hH1,hA1 _⟩,hgo⟩,by dsimp only;omega,rfl,rfl⟩
  ·rw[List.drop_eq_nil_of_le (by assumption),zdB]at hgo
   have hln:=hg.len (.sl 4 (ws.map Way.c)) hx.1 hx.2
   have hsg:=hg.sg (.sl 4 (ws.map Way.c)) hx.1 hx.2
   have hov:=hg.ov (.sl 4 (ws.map Way.c)) (.sl 4 (ws.map Way.c)) hx.1 hx.2 hx.1 hx.2
   have hba:=hba H A
   have hsn:=hg.sn H A (ws.map Way.c)
   (have hX:=zA @hbd (zA @hln (zA @hsg (zA @hov @hba)));(repeat' first|refine zaa [0,1,2,3,4,5,6,7,9,10,11,34,43,45,46,47,48,58,59,60,61] fun K hK=>?_|(refine hK.go ?_;clear hK K)|with_reducible exact wT|refine wA ?_|(refine wB (fun h=>?_) (fun h=>?_)<;>first|exact wN h|subst (h:(_:Bool)=_)|skip)|(refine wQ ?_;clear hQ hR hE hM)|fail);all_goals clear hX)
   refine hQ _ _ _ (zkB rfl rfl hln hsg rfl rfl) ?_
   simp only[zfD,zc1,zeq,zfF,sn_b,hsn]
   rw[<-hgo]
def zas (p:Pln) (s:State):List Int×List Int×Bool:=zdB (zaP p) (zgk [] s.switches) 0 s.locks zdw zdw true
theorem zio (ws:List WayR) (C:List (Int×Int)):∀ (l:List Lock) (i:Nat) (H A:List Int) (t:Bool),(zdB ws C i l H A t).1.length=H.length/\(zdB ws C i l H A t).2.1.length=A.length
 |[],_,_,_,_=>⟨rfl,rfl⟩
 |l::r,i,H,A,t=>by
  rw[zdB]
  have:=zio ws C r (i+1) (zbU l.id (zbq (nth ws i) l) H t).1 (zeh l C (zbJ (nth ws i) l) A (zbU l.id (zbq (nth ws i) l) H t).2).1 (zeh l C (zbJ (nth ws i) l) A (zbU l.id (zbq (nth ws i) l) H t).2).2
  rw[zf2,zgh]at this
  exact this
def zad (p:Pln) (s:State):Int:=if zbd p=true then (if zaj p s=true/\(zas p s).2.2=true then 0 else 8) else 100
structure GripR where
 hold:List Int
 ask:List Int
 ways:List WayR
 err:Int
def ofR (p:Pln) (s:State):GripR:=if zad p s=0 then ⟨(zas p s).1,(zas p s).2.1,zaP p,0⟩ else ⟨zdw,zdw,[],zad p s⟩
theorem zfl (p:Pln) (s:State):(ofR p s).hold.length=100/\(ofR p s).ask.length=100:=by
 unfold ofR
 split
 ·have:=zio (zaP p) (zgk [] s.switches) s.locks 0 zdw zdw true
  exact ⟨this.1.trans zbM,this.2.trans zbM⟩
 ·exact ⟨zbM,zbM⟩
theorem zif (p:Pln) (s:State):(ofR p s).err=zad p s:=by
 unfold ofR
 split
 ·rename_i h;exact h.symm
 ·rfl
def SmS (s:State):Prop:=s.tracks.length<=1000/\s.switches.length<=1000/\s.locks.length<=1000
theorem zkA {φ:AF} {σ:AS} {t u l:Nat} {g:List AV} {e:AV} {r:Bool} {n:Int} (h1:zbs φ t=.ptr l 201 0) (h2:zaF σ l=some (.cells g r)) (h3:g.length=201) (hs:List.take 201 g=g) (h4:zbs φ u=e) (h5:e=.n n):zed φ σ [.cell t (some 201),.tmp u]=some (.tup [.agg g,.n n]):=by
 have h:zcx g 0 (some 201)=some (.agg g):=by
  rw[al_s,if_pos (by omega),seg,List.drop_zero,hs]
 subst h5
 simp only[zed,ziQ,ares,h1,h4,zdC,h2,h,h3,if_true]
theorem zoO (hH:HasAll P inv) (hI:HasIds P inv) (p:Pln) (hp:Sm p) (s:State) (hs:SmS s):PC P inv 79 [.agg p.c,.agg s.c] (·=.tup [.agg (gc (ofR p s).hold (ofR p s).ask (.sl 4 ((ofR p s).ways.map Way.c))),.n (ofR p s).err]):=by
 have c0:=zjV hH hI p hp
 have hRl:=zfl p s
 have c1:zbd p=true->PC P inv 93 [.agg p.c,.agg s.c] (·=.tup [.agg (gc (if zaj p s=true then (zas p s).1 else zdw) (if zaj p s=true then (zas p s).2.1 else zdw) (.sl 4 ((if zaj p s=true then zaP p else []).map Way.c))),.b (zaj p s&&(zas p s).2.2)]):=by
  intro ho
  cases hb:zaj p s with
  |true=>simpa [zas] using grip_ok hH hI p hp s hs ho hb
  |false =>
   simp only[zbd,Bool.and_eq_true]at ho
   simpa using grip_bad hH hI p hp s hs (zid ho.1) hb
 have hgl:=zio (zaP p) (zgk [] s.switches) s.locks 0 zdw zdw true
 have hl1:(if zaj p s=true then (zas p s).1 else zdw).length=100:=by
  split
  ·exact hgl.1.trans zbM
  ·exact zbM
 have hl2:(if zaj p s=true then (zas p s).2.1 else zdw).length=100:=by
  split
  ·exact hgl.2.trans zbM
  ·exact zbM
 have hR:ofR p s=if zbd p=true then (if (zaj p s&&(zas p s).2.2)=true then ⟨(if zaj p s=true then (zas p s).1 else zdw),(if zaj p s=true then (zas p s).2.1 else zdw),(if zaj p s=true then zaP p else []),0⟩ else ⟨zdw,zdw,[],8⟩) else ⟨zdw,zdw,[],100⟩:=by
  unfold ofR zad
  cases zbd p<;>cases zaj p s<;>cases (zas p s).2.2<;>rfl
 clear hgl
 unfold zhD at c0
 revert hR c1 hl1 hl2 c0 hRl
 generalize ofR p s=R
 generalize (if zaj p s=true then (zas p s).1 else zdw)=H
 generalize (if zaj p s=true then (zas p s).2.1 else zdw)=A
 generalize (if zaj p s=true then zaP p else [])=ws
 generalize (zaj p s&&(zas p s).2.2)=t
 generalize zbd p=o
 obtain ⟨G,Z,hg⟩:=GC.ex
 rw[<-hg.eq,<-hg.z]
 intro c0 hRl c1 hl1 hl2 hR
 have hfold:=hg.fold
 have hlen0:=hg.len (.s0 4) hg.zl hg.zl
 have hlen:=hg.len (.sl 4 (ws.map Way.c)) hl1 hl2
 have hsg0:=hg.sg (.s0 4) hg.zl hg.zl
 have hsg:=hg.sg (.sl 4 (ws.map Way.c)) hl1 hl2
 have hov0:=hg.ov (.s0 4) (.s0 4) hg.zl hg.zl hg.zl hg.zl
 have hov:=hg.ov (.s0 4) (.sl 4 (ws.map Way.c)) hg.zl hg.zl hl1 hl2
 have hbd0:=hg.bd0 Z Z
 have hba0:=hg.ba0 Z Z
 have hbd:=hg.bd H A (ws.map Way.c)
 have hba:=hg.ba H A (ws.map Way.c)
 have hsn0:=hg.sn0 Z Z
 have hsn:=hg.sn H A (ws.map Way.c)
 cases o with
 |false =>
  rw[if_neg (by simp)]at hR c0
  subst hR
  refine PC.fn hH cd79 fun w0 M Q hM hE hQ hR=>?_;dsimp only[cd79,qm,qc,qN,qt]at hQ |-
  (have hX:=zA @hfold (zA @hlen0 (zA @hsg0 (zA @hov0 (zA @hbd0 @hba0))));(repeat' first|refine zaa [0,1,2,3,4,5,6,7,8,12,22] fun K hK=>?_|(refine hK.go ?_;clear hK K)|with_reducible exact wT|refine wA ?_|(refine wB (fun h=>?_) (fun h=>?_)<;>first|exact wN h|subst (h:(_:Bool)=_)|skip)|(refine wQ ?_;clear hQ hR hE hM)|refine wC c0 ?_|fail);all_goals clear hX)
  all_goals first|(exfalso;contradiction)|skip
  all_goals (refine hQ _ _ _ (zkA rfl rfl hlen0 hsg0 rfl rfl) ?_;simp only[zfD,zc1,zeq,zfF,sn_i,hsn0];rfl)
 |true =>
  rw[if_pos rfl]at hR c0
  have c1:=c1 rfl
  cases t with
  |false =>
   rw[if_neg (by simp)]at hR
   subst hR
   refine PC.fn hH cd79 fun w0 M Q hM hE hQ hR=>?_;dsimp only[cd79,qm,qc,qN,qt]at hQ |-
   (have hX:=zA @hfold (zA @hlen0 (zA @hsg0 (zA @hov0 (zA @hbd0 (zA @hba0 (zA @hlen (zA @hov (zA @hbd @hba))))))));(repeat' first|refine zaa [0,1,2,3,4,5,6,7,8,12,22] fun K hK=>?_|(refine hK.go ?_;clear hK K)|with_reducible exact wT|refine wA ?_|(refine wB (fun h=>?_) (fun h=>?_)<;>first|exact wN h|subst (h:(_:Bool)=_)|skip)|(refine wQ ?_;clear hQ hR hE hM)|refine wC c0 ?_|refine wC c1 ?_|fail);all_goals clear hX)
   all_goals first|(exfalso;contradiction)|skip
   all_goals (refine hQ _ _ _ (zkA rfl rfl hlen0 hsg0 rfl rfl) ?_;simp only[zfD,zc1,zeq,zfF,sn_i,hsn0];rfl)
  |true =>
   rw[if_pos rfl]at hR
   subst hR
   refine PC.fn hH cd79 fun w0 M Q hM hE hQ hR=>?_;dsimp only[cd79,qm,qc,qN,qt]at hQ |-
   (have hX:=zA @hfold (zA @hlen0 (zA @hsg0 (zA @hov0 (zA @hbd0 (zA @hba0 (zA @hlen (zA @hov (zA @hbd (zA @hba @hsg)))))))));(repeat' first|refine zaa [0,1,2,3,4,5,6,7,8,12,22] fun K hK=>?_|(refine hK.go ?_;clear hK K)|with_reducible exact wT|refine wA ?_|(refine wB (fun h=>?_) (fun h=>?_)<;>first|exact wN h|subst (h:(_:Bool)=_)|skip)|(refine wQ ?_;clear hQ hR hE hM)|refine wC c0 ?_|refine wC c1 ?_|fail);all_goals clear hX)
   all_goals first|(exfalso;contradiction)|skip
   all_goals (refine hQ _ _ _ (zkA rfl rfl hlen hsg rfl rfl) ?_;simp only[zfD,zc1,zeq,zfF,sn_i,hsn])
theorem zbP (hH:HasAll P inv) (hI:HasIds P inv) (p:Pln) (hp:Sm p) (s:State) (hs:SmS s):PC P inv 69 [.agg p.c,.agg s.c] (·=.n (zad p s)):=by
 have c0:=zoO hH hI p hp s hs
 have hRl:=zfl p s
 have hRe:=zif p s
 rw[<-hRe]
 revert c0 hRl
 generalize ofR p s=R
 obtain ⟨G,Z,hg⟩:=GC.ex
 rw[<-hg.eq]
 intro c0 hRl
 have hfold:=hg.fold
 have hlen0:=hg.len (.s0 4) hg.zl hg.zl
 have hlen:=hg.len (.sl 4 (R.ways.map Way.c)) hRl.1 hRl.2
 have hov:=hg.ov (.s0 4) (.sl 4 (R.ways.map Way.c)) hg.zl hg.zl hRl.1 hRl.2
 have hbd0:=hg.bd0 Z Z
 have hbd:=hg.bd R.hold R.ask (R.ways.map Way.c)
 have hba:=hg.ba R.hold R.ask (R.ways.map Way.c)
 refine PC.fn hH cd69 fun w0 M Q hM hE hQ hR=>?_;dsimp only[cd69,qm,qN,qt]at hQ |-
 (have hX:=zA @hfold (zA @hlen0 (zA @hlen (zA @hov (zA @hbd0 (zA @hbd @hba)))));(repeat' first|refine zaa [0,1,2,3,4,6] fun K hK=>?_|(refine hK.go ?_;clear hK K)|with_reducible exact wT|refine wA ?_|(refine wB (fun h=>?_) (fun h=>?_)<;>first|exact wN h|subst (h:(_:Bool)=_)|skip)|(refine wQ ?_;clear hQ hR hE hM)|refine wC c0 ?_|fail);all_goals clear hX)
theorem zky {α:Type} (q:α->Bool) (l:List α):decide (0<=za3 q 0 l)=l.any q:=by
 have:∀ (l:List α) (k:Int),0<=k->(decide (0<=za3 q k l)=l.any q):=by
  intro l
  induction l with
  |nil=>intro k _;simp[za3]
  |cons x r ih =>
   intro k hk
   rw[za3,List.any_cons]
   cases h:q x with
   |true=>simp[hk]
   |false=>simpa using ih (k+1) (by omega)
 exact this l 0 (Int.le_refl _)
theorem hasSec (hH:HasAll P inv) {jc:Nat} {caps:List AV} {q:Section->Bool} (l:List Section) (hc:∀ x∈l,PC P inv jc ([.agg x.c]++caps) (·=.b (q x))) (hl:l.length<=1000000000):PC P inv 80 [.sl 3 (l.map Section.c),.fn jc caps] (·=.b (l.any q)):=by
 have c1:=zim hH l hc hl
 have e:=zky q l
 refine PC.fn hH cd80 fun w0 M Q hM hE hQ hR=>?_;dsimp only[cd80,qm,qc,qN,qt]at hQ |-
 (have hX:=@e;(repeat' first|refine zaa [0,1,4] fun K hK=>?_|(refine hK.go ?_;clear hK K)|with_reducible exact wT|refine wA ?_|(refine wB (fun h=>?_) (fun h=>?_)<;>first|exact wN h|subst (h:(_:Bool)=_)|skip)|(refine wQ ?_;clear hQ hR hE hM)|refine wC c1 ?_|fail);all_goals clear hX)
theorem hasPnt (hH:HasAll P inv) {jc:Nat} {caps:List AV} {q:Pnt->Bool} (l:List Pnt) (hc:∀ x∈l,PC P inv jc ([.agg x.c]++caps) (·=.b (q x))) (hl:l.length<=1000000000):PC P inv 91 [.sl 2 (l.map Pnt.c),.fn jc caps] (·=.b (l.any q)):=by
 have c1:=zin hH l hc hl
 have e:=zky q l
 refine PC.fn hH cd91 fun w0 M Q hM hE hQ hR=>?_;dsimp only[cd91,qm,qc,qN,qt]at hQ |-
 (have hX:=@e;(repeat' first|refine zaa [0,1,4] fun K hK=>?_|(refine hK.go ?_;clear hK K)|with_reducible exact wT|refine wA ?_|(refine wB (fun h=>?_) (fun h=>?_)<;>first|exact wN h|subst (h:(_:Bool)=_)|skip)|(refine wQ ?_;clear hQ hR hE hM)|refine wC c1 ?_|fail);all_goals clear hX)
theorem isSec81 (hH:HasAll P inv) (n:Int) (x:Section):PC P inv 81 ([.agg x.c]++[.ip 1 [[.n n]] 0 0]) (·=.b (decide (x.id=n))):=by
 refine PC.fn hH cd81 fun w0 M Q hM hE hQ hR=>?_;dsimp only[cd81,qm,ql,qf,qb,qN,qt]at hQ |-
 (repeat' first|refine zaa [0,1,2,3] fun K hK=>?_|(refine hK.go ?_;clear hK K)|with_reducible exact wT|refine wA ?_|(refine wB (fun h=>?_) (fun h=>?_)<;>first|exact wN h|subst (h:(_:Bool)=_)|skip)|(refine wQ ?_;clear hQ hR hE hM)|fail)
theorem isPnt92 (hH:HasAll P inv) (n:Int) (x:Pnt):PC P inv 92 ([.agg x.c]++[.ip 1 [[.n n]] 0 0]) (·=.b (decide (x.id=n))):=by
 refine PC.fn hH cd92 fun w0 M Q hM hE hQ hR=>?_;dsimp only[cd92,qm,ql,qf,qb,qN,qt]at hQ |-
 (repeat' first|refine zaa [0,1,2,3] fun K hK=>?_|(refine hK.go ?_;clear hK K)|with_reducible exact wT|refine wA ?_|(refine wB (fun h=>?_) (fun h=>?_)<;>first|exact wN h|subst (h:(_:Bool)=_)|skip)|(refine wQ ?_;clear hQ hR hE hM)|fail)
def zkw (p:Pln) (n:Int):Bool:=p.sections.any fun x=>decide (x.id=n)
def zc7 (p:Pln) (n:Int):Bool:=p.points.any fun x=>decide (x.id=n)
def zmS (p:Pln) (s:State) (n:Int):Int×Int:=if zad p s=0 then (if zkw p n=true then (nth (zas p s).1 n.toNat,0) else (0,6)) else (0,zad p s)
def zod (p:Pln) (s:State) (n:Int):Int×Int:=if zad p s=0 then (if zc7 p n=true then (nth (zas p s).2.1 n.toNat,0) else (0,6)) else (0,zad p s)
theorem zai {p:Pln} {s:State} (h:zad p s=0):OkP p:=by
 unfold zad at h
 split at h
 ·rename_i ho
  simp only[zbd,Bool.and_eq_true]at ho
  exact zid ho.1
 ·cases h
theorem zmN {p:Pln} (hok:OkP p) {n:Int} (h:zkw p n=true):0<=n/\n<100:=by
 obtain ⟨x,hx,e⟩:=List.any_eq_true.1 h
 have:=zcQ hok hx
 have:x.id=n:=by simpa using e
 omega
theorem zlk {p:Pln} (hok:OkP p) {x:Pnt} (hx:x∈p.points):1<=x.id/\x.id<=99:=by
 have hp:=hok.pts
 simp only[points,Bool.and_eq_true]at hp
 exact ((zdq _ _).1 hp.1).1 x.id (List.mem_map_of_mem hx)
theorem zmO {p:Pln} (hok:OkP p) {n:Int} (h:zc7 p n=true):0<=n/\n<100:=by
 obtain ⟨x,hx,e⟩:=List.any_eq_true.1 h
 have:=zlk hok hx
 have:x.id=n:=by simpa using e
 omega
theorem GC.get1 {G:List Int->List Int->AV->List AV} {Z:List Int} (hg:GC G Z) {H A:List Int} (W:AV) (h:H.length=100) {i:Nat} (hi:i<100):(G H A W)[i]?=some (.n (nth H i)):=by rw[hg.eq];exact zq8 h hi
theorem GC.get2 {G:List Int->List Int->AV->List AV} {Z:List Int} (hg:GC G Z) {H A:List Int} (W:AV) (h:H.length=100) (h':A.length=100) {i:Nat} (hi:i<100):(G H A W)[100+i]?=some (.n (nth A i)):=by rw[hg.eq];exact gc_get2 h h' hi
theorem holder_pc (hH:HasAll P inv) (hI:HasIds P inv) (p:Pln) (hp:Sm p) (s:State) (hs:SmS s) (n:Int):PC P inv 67 [.agg p.c,.agg s.c,.n n] (·=.tup [.n (zmS p s n).1,.n (zmS p s n).2]):=by
 have c0:=zoO hH hI p hp s hs
 have c1:=hasSec hH p.sections (fun x _=>isSec81 hH n x) (Nat.le_trans hp.sec (by omega))
 have hRl:=zfl p s
 have hRe:=zif p s
 have hRh:zad p s=0->(ofR p s).hold=(zas p s).1:=fun h=>by unfold ofR;rw[if_pos h]
 have hr:zad p s=0->zkw p n=true->0<=n/\n<100:=fun h1 h2=>zmN (zai h1) h2
 rw[show (p.sections.any fun x=>decide (x.id=n))=zkw p n from rfl]at c1
 unfold zmS
 revert c0 c1 hRl hRe hRh hr
 generalize ofR p s=R
 generalize zad p s=e
 generalize zkw p n=t
 generalize (zas p s).1=H
 obtain ⟨G,Z,hg⟩:=GC.ex
 rw[<-hg.eq]
 intro c0 c1 hRl hRe hRh hr
 have hfold:=hg.fold
 have hlen0:=hg.len (.s0 4) hg.zl hg.zl
 have hlen:=hg.len (.sl 4 (R.ways.map Way.c)) hRl.1 hRl.2
 have hov:=hg.ov (.s0 4) (.sl 4 (R.ways.map Way.c)) hg.zl hg.zl hRl.1 hRl.2
 have hbd0:=hg.bd0 Z Z
 have hbd:=hg.bd R.hold R.ask (R.ways.map Way.c)
 have hba:=hg.ba R.hold R.ask (R.ways.map Way.c)
 by_cases he:e=0
 ·rw[if_pos he]
  rw[hRe]at c0
  subst he
  cases t with
  |false =>
   rw[if_neg (by simp)]
   refine PC.fn hH cd67 fun w0 M Q hM hE hQ hR=>?_;dsimp only[cd67,qm,ql,qf,qc,qN,qt]at hQ |-
   (have hX:=zA @hfold (zA @hlen0 (zA @hlen (zA @hov (zA @hbd0 (zA @hbd @hba)))));(repeat' first|refine zaa [0,1,2,3,4,5,6,7,8,9,17,23] fun K hK=>?_|(refine hK.go ?_;clear hK K)|with_reducible exact wT|refine wA ?_|(refine wB (fun h=>?_) (fun h=>?_)<;>first|exact wN h|subst (h:(_:Bool)=_)|skip)|(refine wQ ?_;clear hQ hR hE hM)|refine wC c0 ?_|refine wS c1 ?_|fail);all_goals clear hX)
   all_goals first|rfl|(exfalso;contradiction)|skip
  |true =>
   rw[if_pos rfl]
   have hr:=hr rfl rfl
   have hget:=hg.get1 (A:=R.ask) (.sl 4 (R.ways.map Way.c)) hRl.1 (i:=n.toNat) (by omega)
   rw[hRh rfl]at hget hlen hov hbd hba c0
   refine PC.fn hH cd67 fun w0 M Q hM hE hQ hR=>?_;dsimp only[cd67,qm,ql,qf,qc,qN,qt]at hQ |-
   (have hX:=zA @hfold (zA @hlen0 (zA @hlen (zA @hov (zA @hbd0 (zA @hbd (zA @hba @hget))))));(repeat' first|refine zaa [0,1,2,3,4,5,6,7,8,9,17,23] fun K hK=>?_|(refine hK.go ?_;clear hK K)|with_reducible exact wT|refine wA ?_|(refine wB (fun h=>?_) (fun h=>?_)<;>first|exact wN h|subst (h:(_:Bool)=_)|skip)|(refine wQ ?_;clear hQ hR hE hM)|refine wC c0 ?_|refine wS c1 ?_|fail);all_goals clear hX)
   all_goals first|rfl|(exfalso;contradiction)|skip
 ·rw[if_neg he]
  rw[hRe]at c0
  refine PC.fn hH cd67 fun w0 M Q hM hE hQ hR=>?_;dsimp only[cd67,qm,ql,qf,qc,qN,qt]at hQ |-
  (have hX:=zA @hfold (zA @hlen0 (zA @hlen (zA @hov (zA @hbd0 (zA @hbd @hba)))));(repeat' first|refine zaa [0,1,2,3,4,5,6,7,8,9,17,23] fun K hK=>?_|(refine hK.go ?_;clear hK K)|with_reducible exact wT|refine wA ?_|(refine wB (fun h=>?_) (fun h=>?_)<;>first|exact wN h|subst (h:(_:Bool)=_)|skip)|(refine wQ ?_;clear hQ hR hE hM)|refine wC c0 ?_|fail);all_goals clear hX)
  all_goals first|rfl|(exfalso;contradiction)|skip
theorem asked_pc (hH:HasAll P inv) (hI:HasIds P inv) (p:Pln) (hp:Sm p) (s:State) (hs:SmS s) (n:Int):PC P inv 77 [.agg p.c,.agg s.c,.n n] (·=.tup [.n (zod p s n).1,.n (zod p s n).2]):=by
 have c0:=zoO hH hI p hp s hs
 have c1:=hasPnt hH p.points (fun x _=>isPnt92 hH n x) (Nat.le_trans hp.pts (by omega))
 have hRl:=zfl p s
 have hRe:=zif p s
 have hRh:zad p s=0->(ofR p s).ask=(zas p s).2.1:=fun h=>by unfold ofR;rw[if_pos h]
 have hr:zad p s=0->zc7 p n=true->0<=n/\n<100:=fun h1 h2=>zmO (zai h1) h2
 rw[show (p.points.any fun x=>decide (x.id=n))=zc7 p n from rfl]at c1
 unfold zod
 revert c0 c1 hRl hRe hRh hr
 generalize ofR p s=R
 generalize zad p s=e
 generalize zc7 p n=t
 generalize (zas p s).2.1=A
 obtain ⟨G,Z,hg⟩:=GC.ex
 rw[<-hg.eq]
 intro c0 c1 hRl hRe hRh hr
 have hfold:=hg.fold
 have hlen0:=hg.len (.s0 4) hg.zl hg.zl
 have hlen:=hg.len (.sl 4 (R.ways.map Way.c)) hRl.1 hRl.2
 have hov:=hg.ov (.s0 4) (.sl 4 (R.ways.map Way.c)) hg.zl hg.zl hRl.1 hRl.2
 have hbd0:=hg.bd0 Z Z
 have hbd:=hg.bd R.hold R.ask (R.ways.map Way.c)
 have hba:=hg.ba R.hold R.ask (R.ways.map Way.c)
 by_cases he:e=0
 ·rw[if_pos he]
  rw[hRe]at c0
  subst he
  cases t with
  |false =>
   rw[if_neg (by simp)]
   refine PC.fn hH cd77 fun w0 M Q hM hE hQ hR=>?_;dsimp only[cd77,qm,ql,qf,qc,qN,qt]at hQ |-
   (have hX:=zA @hfold (zA @hlen0 (zA @hlen (zA @hov (zA @hbd0 (zA @hbd @hba)))));(repeat' first|refine zaa [0,1,2,3,4,5,6,7,8,9,17,23] fun K hK=>?_|(refine hK.go ?_;clear hK K)|with_reducible exact wT|refine wA ?_|(refine wB (fun h=>?_) (fun h=>?_)<;>first|exact wN h|subst (h:(_:Bool)=_)|skip)|(refine wQ ?_;clear hQ hR hE hM)|refine wC c0 ?_|refine wS c1 ?_|fail);all_goals clear hX)
   all_goals first|rfl|(exfalso;contradiction)|skip
  |true =>
   rw[if_pos rfl]
   have hr:=hr rfl rfl
   have hget:=hg.get2 (.sl 4 (R.ways.map Way.c)) hRl.1 hRl.2 (i:=n.toNat) (by omega)
   rw[hRh rfl]at hget hlen hov hbd hba c0
   refine PC.fn hH cd77 fun w0 M Q hM hE hQ hR=>?_;dsimp only[cd77,qm,ql,qf,qc,qN,qt]at hQ |-
   (have hX:=zA @hfold (zA @hlen0 (zA @hlen (zA @hov (zA @hbd0 (zA @hbd (zA @hba @hget))))));(repeat' first|refine zaa [0,1,2,3,4,5,6,7,8,9,17,23] fun K hK=>?_|(refine hK.go ?_;clear hK K)|with_reducible exact wT|refine wA ?_|(refine wB (fun h=>?_) (fun h=>?_)<;>first|exact wN h|subst (h:(_:Bool)=_)|skip)|(refine wQ ?_;clear hQ hR hE hM)|refine wC c0 ?_|refine wS c1 ?_|fail);all_goals clear hX)
   all_goals first|rfl|(exfalso;contradiction)|skip
 ·rw[if_neg he]
  rw[hRe]at c0
  refine PC.fn hH cd77 fun w0 M Q hM hE hQ hR=>?_;dsimp only[cd77,qm,ql,qf,qc,qN,qt]at hQ |-
  (have hX:=zA @hfold (zA @hlen0 (zA @hlen (zA @hov (zA @hbd0 (zA @hbd @hba)))));(repeat' first|refine zaa [0,1,2,3,4,5,6,7,8,9,17,23] fun K hK=>?_|(refine hK.go ?_;clear hK K)|with_reducible exact wT|refine wA ?_|(refine wB (fun h=>?_) (fun h=>?_)<;>first|exact wN h|subst (h:(_:Bool)=_)|skip)|(refine wQ ?_;clear hQ hR hE hM)|refine wC c0 ?_|fail);all_goals clear hX)
  all_goals first|rfl|(exfalso;contradiction)|skip
theorem zpX (hH:HasAll P inv) (s:State) (h1:s.tracks.length<=1000000) (h2:s.switches.length<=1000000) (h3:s.locks.length<=1000000):PC P inv 14 [.agg s.c] (·=.agg s.c):=by
 refine PC.fn hH cd14 fun w0 M Q hM hE hQ hR=>?_;dsimp only[cd14,ql,qf,qN,qt]at hQ |-
 (repeat' first|refine zaa [0,1,2,11] fun K hK=>?_|(refine hK.go ?_;clear hK K)|with_reducible exact wT|refine wA ?_|(refine wB (fun h=>?_) (fun h=>?_)<;>first|exact wN h|subst (h:(_:Bool)=_)|skip)|(refine wQ ?_;clear hQ hR hE hM)|fail)
 all_goals trace_state
theorem sSame_pc (hH:HasAll P inv) (a b:State) (h1:a.tracks.length<=1000000) (h2:a.switches.length<=1000000) (h3:a.locks.length<=1000000):PC P inv 11 [.agg a.c,.agg b.c] (·=.b (decide (a=b))):=by
 refine PC.fn hH cd11 fun w0 M Q hM hE hQ hR=>?_;dsimp only[cd11,qm,ql,qf,qp,qN,qT,qt]at hQ |-
 (repeat' first|refine zaa [0,1,2,3,4] fun K hK=>?_|(refine hK.go ?_;clear hK K)|with_reducible exact wT|refine wA ?_|(refine wB (fun h=>?_) (fun h=>?_)<;>first|exact wN h|subst (h:(_:Bool)=_)|skip)|(refine wQ ?_;clear hQ hR hE hM)|(refine zay hM (zkG hH _ _ (by omega)) ?_;try refine wD ?_)|(refine zay hM (zi4 hH _ _ (by omega)) ?_;try refine wD ?_)|(refine zay hM (zlM hH _ _ (by omega)) ?_;try refine wD ?_)|fail)
 all_goals (grind[zcZ])
def kept (a b:State):Bool:=zaw zjq a.switches b.switches&&zaw zik a.locks b.locks
theorem zpY (hH:HasAll P inv) (a b:State) (h1:a.tracks.length<=1000000) (h2:a.switches.length<=1000000) (h3:a.locks.length<=1000000):PC P inv 10 [.agg a.c,.agg b.c] (·=.b (decide (a=b))):=by
 refine PC.fn hH cd10 fun w0 M Q hM hE hQ hR=>?_;dsimp only[cd10,qm,ql,qf,qi,qb,qc,qv,qN,qF,qt]at hQ |-
 (repeat' first|refine zaa [0,1,2,3,4,5,6,7,32,37,50,55,68,73,86] fun K hK=>?_|(refine hK.go ?_;clear hK K)|with_reducible exact wT|refine wA ?_|(refine wB (fun h=>?_) (fun h=>?_)<;>first|exact wN h|subst (h:(_:Bool)=_)|skip)|(refine wQ ?_;clear hQ hR hE hM)|fail)
 all_goals (try (have h':¬a=b:=(fun e=>by subst e;simp at *);simp[h'];done))
 have l1:a.tracks.length=b.tracks.length:=by omega
 have l2:a.switches.length=b.switches.length:=by omega
 have l3:a.locks.length=b.locks.length:=by omega
 refine zci (fun k=>[(2,.ptr 0 3 0),(3,.ptr 1 3 0),(5,.n k)]) (fun k=>[(0,.cells a.c true),(1,.cells b.c true)]) (a.tracks.length) (fun k=>((a.tracks.drop k=b.tracks.drop k)↔a.tracks=b.tracks)) ?_;rintro k ⟨hk,hg⟩;rcases Nat.lt_or_ge k a.tracks.length with hlt|hge
 ·rw[zaf hlt,zaf (l:=b.tracks) (i:=k) (by omega),List.cons.injEq,zg7]at hg
  (repeat' first|refine zaa [0,1,2,3,4,5,6,7,32,37,50,55,68,73,86] fun K hK=>?_|(refine hK.go ?_;clear hK K)|with_reducible exact wT|refine wA ?_|(refine wB (fun h=>?_) (fun h=>?_)<;>first|exact wN h|subst (h:(_:Bool)=_)|skip)|(refine wQ ?_;clear hQ hR hE hM)|fail)
  ·have:¬a.tracks=b.tracks:=by rw[<-hg];grind
   simp[zcZ,this]
  ·exact ⟨k+1,by omega,⟨by omega,by rw[<-hg];grind⟩,(by (try dsimp only);(first|omega|(simp;done)|(simp;omega)))⟩
 ·rw[List.drop_eq_nil_of_le hge,List.drop_eq_nil_of_le (by omega)]at hg
  have q0:a.tracks=b.tracks:=hg.1 rfl
  (repeat' first|refine zaa [0,1,2,3,4,5,6,7,32,37,50,55,68,73,86] fun K hK=>?_|(refine hK.go ?_;clear hK K)|with_reducible exact wT|refine wA ?_|(refine wB (fun h=>?_) (fun h=>?_)<;>first|exact wN h|subst (h:(_:Bool)=_)|skip)|(refine wQ ?_;clear hQ hR hE hM)|fail)
  refine zci (fun k=>[(2,.ptr 0 3 0),(3,.ptr 1 3 0),(6,.n k)]) (fun k=>[(0,.cells a.c true),(1,.cells b.c true)]) (a.switches.length) (fun k=>((a.switches.drop k=b.switches.drop k)↔a.switches=b.switches)) ?_;rintro k ⟨hk,hg⟩;rcases Nat.lt_or_ge k a.switches.length with hlt|hge
  ·rw[zaf hlt,zaf (l:=b.switches) (i:=k) (by omega),List.cons.injEq,zgi]at hg
   (repeat' first|refine zaa [0,1,2,3,4,5,6,7,32,37,50,55,68,73,86] fun K hK=>?_|(refine hK.go ?_;clear hK K)|with_reducible exact wT|refine wA ?_|(refine wB (fun h=>?_) (fun h=>?_)<;>first|exact wN h|subst (h:(_:Bool)=_)|skip)|(refine wQ ?_;clear hQ hR hE hM)|fail)
   ·have:¬a.switches=b.switches:=by rw[<-hg];grind
    simp[zcZ,this]
   ·exact ⟨k+1,by omega,⟨by omega,by rw[<-hg];grind⟩,(by (try dsimp only);(first|omega|(simp;done)|(simp;omega)))⟩
  ·rw[List.drop_eq_nil_of_le hge,List.drop_eq_nil_of_le (by omega)]at hg
   have q1:a.switches=b.switches:=hg.1 rfl
   (repeat' first|refine zaa [0,1,2,3,4,5,6,7,32,37,50,55,68,73,86] fun K hK=>?_|(refine hK.go ?_;clear hK K)|with_reducible exact wT|refine wA ?_|(refine wB (fun h=>?_) (fun h=>?_)<;>first|exact wN h|subst (h:(_:Bool)=_)|skip)|(refine wQ ?_;clear hQ hR hE hM)|fail)
   refine zci (fun k=>[(2,.ptr 0 3 0),(3,.ptr 1 3 0),(7,.n k)]) (fun k=>[(0,.cells a.c true),(1,.cells b.c true)]) (a.locks.length) (fun k=>((a.locks.drop k=b.locks.drop k)↔a.locks=b.locks)) ?_;rintro k ⟨hk,hg⟩;rcases Nat.lt_or_ge k a.locks.length with hlt|hge
   ·rw[zaf hlt,zaf (l:=b.locks) (i:=k) (by omega),List.cons.injEq,zfs]at hg
    (repeat' first|refine zaa [0,1,2,3,4,5,6,7,32,37,50,55,68,73,86] fun K hK=>?_|(refine hK.go ?_;clear hK K)|with_reducible exact wT|refine wA ?_|(refine wB (fun h=>?_) (fun h=>?_)<;>first|exact wN h|subst (h:(_:Bool)=_)|skip)|(refine wQ ?_;clear hQ hR hE hM)|fail)
    ·have:¬a.locks=b.locks:=by rw[<-hg];grind
     simp[zcZ,this]
    ·exact ⟨k+1,by omega,⟨by omega,by rw[<-hg];grind⟩,(by (try dsimp only);(first|omega|(simp;done)|(simp;omega)))⟩
   ·rw[List.drop_eq_nil_of_le hge,List.drop_eq_nil_of_le (by omega)]at hg
    have q2:a.locks=b.locks:=hg.1 rfl
    (repeat' first|refine zaa [0,1,2,3,4,5,6,7,32,37,50,55,68,73,86] fun K hK=>?_|(refine hK.go ?_;clear hK K)|with_reducible exact wT|refine wA ?_|(refine wB (fun h=>?_) (fun h=>?_)<;>first|exact wN h|subst (h:(_:Bool)=_)|skip)|(refine wQ ?_;clear hQ hR hE hM)|fail)
    simp[zcZ,q0,q1,q2]
theorem sTwin_po (hH:HasAll P inv) (s:State) (h1:s.tracks.length<=1000000) (h2:s.switches.length<=1000000) (h3:s.locks.length<=1000000):PO P inv 9 [.agg s.c] (.agg [.sm 2 (s.tracks.length*2) 0 s.tracks.length 2,.sm 3 (s.switches.length*3) 0 s.switches.length 3,.sm 4 (s.locks.length*4) 0 s.locks.length 4])
  [(2,.cells (s.tracks.map Track.c).flatten (decide (0<s.tracks.length))),(3,.cells (s.switches.map Switch.c).flatten (decide (0<s.switches.length))),(4,.cells (s.locks.map Lock.c).flatten (decide (0<s.locks.length)))]:=by
 have c1:=zkK hH s.tracks h1
 have c2:=zi6 hH s.switches h2
 have c3:=zlW hH s.locks h3
 refine PO.fn hH cd9 fun w0 M Q hM hE hQ hR=>?_;dsimp only[cd9,ql,qf,qN,qt]at hQ |-
 (repeat' first|refine zaa [0,1,2,11] fun K hK=>?_|(refine hK.go ?_;clear hK K)|with_reducible exact wT|refine wA ?_|(refine wB (fun h=>?_) (fun h=>?_)<;>first|exact wN h|subst (h:(_:Bool)=_)|skip)|(refine wR ?_;clear hQ hR hE hM)|refine wO c1 ?_|refine wO c2 ?_|refine wO c3 ?_|fail)
 left
 constructor
 ·(refine wD ?_;try with_reducible exact wT)
 ·(refine wD ?_;try with_reducible exact wT)
def stV (s:State):AV:=.agg [.sm 2 (s.tracks.length*2) 0 s.tracks.length 2,.sm 3 (s.switches.length*3) 0 s.switches.length 3,.sm 4 (s.locks.length*4) 0 s.locks.length 4]
def stR (s:State):List (Nat×AO):=[(2,.cells (s.tracks.map Track.c).flatten (decide (0<s.tracks.length))),(3,.cells (s.switches.map Switch.c).flatten (decide (0<s.switches.length))),(4,.cells (s.locks.map Lock.c).flatten (decide (0<s.locks.length)))]
def zdD (b:Nat) (s:State):AV:=.agg [.sm b (s.tracks.length*2) 0 s.tracks.length 2,.sm (b+1) (s.switches.length*3) 0 s.switches.length 3,.sm (b+2) (s.locks.length*4) 0 s.locks.length 4]
def zdE (b:Nat) (s:State):List (Nat×AO):=[(b,.cells (s.tracks.map Track.c).flatten (decide (0<s.tracks.length))),(b+1,.cells (s.switches.map Switch.c).flatten (decide (0<s.switches.length))),(b+2,.cells (s.locks.map Lock.c).flatten (decide (0<s.locks.length)))]
theorem zkW (b:Nat) (s:State):zeF 4 (zdE b s) (zdD b s)=.agg s.c:=by
 have h1:(b+1=b)=False:=by simp
 have h2:(b+2=b)=False:=by simp
 have h3:(b+2=b+1)=False:=by simp
 unfold zdE zdD
 simp -dsimp -implicitDefEqProofs (disch:=omega) only[go_sem,reduceIte,↓reduceIte,Nat.reduceEqDiff,Nat.reduceLT,Nat.reduceLeDiff,Nat.reduceAdd,Nat.reduceSub,Nat.reduceMul,Int.reduceToNat,Int.reduceLT,Int.reduceLE,Int.reduceEq,Int.reduceNeg,Int.reduceNe,reduceCtorEq,h1,h2,h3,if_false]
theorem zbi (b:Nat) (s:State) (e:Int):zeF 4 (zdE b s) (.tup [zdD b s,.n e])=.tup [.agg s.c,.n e]:=by
 rw[zfD,zc1,zc1,zeq,zkW,sn_i]
theorem zb6 (hH:HasAll P inv) (s:State) (hs:SmS s):PO P inv 9 [.agg s.c] (stV s) (stR s):=by
 have:=hs.1
 have:=hs.2.1
 have:=hs.2.2
 exact sTwin_po hH s (by omega) (by omega) (by omega)
def State.z:State:=⟨[],[],[]⟩
def atS (p:Pln):State:=⟨p.sections.map fun x=>⟨x.id,2⟩,p.points.map fun x=>⟨x.id,0,0⟩,p.routes.map fun x=>⟨x.id,0,0,0⟩⟩
def atR (p:Pln):State:=if zbd p=true then atS p else State.z
section upd
variable {α:Type} [Inhabited α]
def zdT (f:Nat->α->α) (k:Nat) (l:List α):List α:=(l.mapIdx f).take k++l.drop k
theorem zbX (f:Nat->α->α) (k:Nat) (l:List α):(zdT f k l).length=l.length:=by simp[zdT];omega
theorem zpq (f:Nat->α->α) (l:List α):zdT f 0 l=l:=by simp[zdT]
theorem zfx (f:Nat->α->α) {k:Nat} {l:List α} (h:l.length<=k):zdT f k l=l.mapIdx f:=by
 unfold zdT
 rw[List.take_of_length_le (by simpa using h),List.drop_eq_nil_of_le h,List.append_nil]
theorem zdm (f:Nat->α->α) {k:Nat} {l:List α} (h:k<l.length):nth (zdT f k l) k=nth l k:=by
 rw[zaK (by rw[zbX];exact h),zaK h]
 unfold zdT
 rw[List.getElem_append_right (by simp;omega)]
 simp[Nat.min_eq_left (Nat.le_of_lt h)]
theorem zeC (f:Nat->α->α) {k:Nat} {l:List α} (h:k<l.length):(zdT f k l).set k (f k (nth l k))=zdT f (k+1) l:=by
 unfold zdT
 rw[List.set_append_right _ _ (by simp;omega),List.length_take,List.length_mapIdx,Nat.min_eq_left (Nat.le_of_lt h),Nat.sub_self,zaf h,List.set_cons_zero]
 rw[show (l.mapIdx f).take (k+1)=(l.mapIdx f).take k++[f k (nth l k)] by
  rw[List.take_succ_eq_append_getElem (by simpa using h),List.getElem_mapIdx,zaK h]]
 simp
attribute [go_sem] zpq zbX
end upd
def imgT (_:Nat) (t:Track):Track:=⟨t.id,2⟩
def imgW (_:Nat) (x:Switch):Switch:=⟨x.id,0,x.call⟩
def imgK (p:Pln) (i:Nat) (l:Lock):Lock:=if 0<l.left then ⟨l.id,l.phase,l.gone,(nth p.routes i).timer⟩ else l
def imgS (p:Pln) (s:State):State:=⟨s.tracks.mapIdx imgT,s.switches.mapIdx imgW,s.locks.mapIdx (imgK p)⟩
theorem zak {p:Pln} {s:State} (h:zaj p s=true):s.tracks.length=p.sections.length/\s.switches.length=p.points.length/\s.locks.length=p.routes.length:=by
 simp only[zaj,Bool.and_eq_true]at h
 exact ⟨zce h.1,zce h.2.1,zce h.2.2⟩
theorem zac {p:Pln} {s:State} (h:zad p s=0):zbd p=true/\zaj p s=true/\(zas p s).2.2=true:=by
 unfold zad at h
 split at h
 ·rename_i h1
  split at h
  ·rename_i h2;exact ⟨h1,h2⟩
  ·cases h
 ·cases h
def imageR (p:Pln) (s:State):State:=if zad p s=0 then imgS p s else State.z
abbrev WL:=WayR×Lock
def hdl (z:WL):List Int:=zbq z.1 z.2
def asl (z:WL):List AskR:=(zbJ z.1 z.2).filter (zb4 z.2)
theorem zju (n:Int) (hn:n≠0):∀ (l H:List Int) (t:Bool),H.length=100->(∀ s∈l,0<=s/\s<=99) ->
  ((zbU n l H t).2=true↔t=true/\(∀ s∈l,nth H s.toNat=0)/\l.Nodup) /\
  ((zbU n l H t).2=true->(∀ s∈l,nth (zbU n l H t).1 s.toNat=n)/\∀ k:Nat,(∀ s∈l,s.toNat≠k)->nth (zbU n l H t).1 k=nth H k)
 |[],H,t,_,_=>by simp[zbU]
 |s::r,H,t,hH,hs=>by
  rw[zbU]
  have h0:=hs s (by simp)
  split
  ·rename_i hc
   obtain ⟨rfl,hc⟩:=hc
   have ih:=zju n hn r (H.set s.toNat n) true (by simpa using hH) fun x hx=>hs x (by simp[hx])
   have key:(∀ x∈r,nth (H.set s.toNat n) x.toNat=0)↔(∀ x∈r,nth H x.toNat=0)/\s∉r:=by
    constructor
    ·intro h
     have hne:∀ x∈r,x≠s:=fun x hx e=>by
      have:=h x hx
      rw[e,za7 _ _ _ _ (by omega),if_pos rfl]at this
      exact hn this
     refine ⟨fun x hx=>?_,fun hx=>hne s hx rfl⟩
     have h1:=h x hx
     have h2:=hs x (by simp[hx])
     rw[za7 _ _ _ _ (by omega),if_neg (by have:=hne x hx;omega)]at h1
     exact h1
    ·rintro ⟨h1,h2⟩ x hx
     have h3:=hs x (by simp[hx])
     rw[za7 _ _ _ _ (by omega),if_neg (fun e=>h2 (by rw[show s=x by omega];exact hx))]
     exact h1 x hx
   refine ⟨?_, ?_⟩
   ·rw[ih.1,key]
    simp only[List.mem_cons,forall_eq_or_imp,List.nodup_cons,true_and]
    constructor
    ·rintro ⟨⟨h1,h2⟩,h3⟩;exact ⟨⟨hc,h1⟩,h2,h3⟩
    ·rintro ⟨⟨_,h1⟩,h2,h3⟩;exact ⟨⟨h1,h2⟩,h3⟩
   ·intro ht
    have h2:=ih.2 ht
    have h3:=(ih.1.1 ht).2
    rw[key]at h3
    refine ⟨fun x hx=>?_,fun k hk=>?_⟩
    ·rcases List.mem_cons.1 hx with rfl|hx
     ·rw[h2.2 _ (fun y hy e=>h3.1.2 (by have:=hs y (by simp[hy]);rw[show x=y by omega];exact hy)),za7 _ _ _ _ (by omega),if_pos rfl]
     ·exact h2.1 x hx
    ·rw[h2.2 k fun y hy=>hk y (by simp[hy]),za7 _ _ _ _ (by omega),if_neg (fun e=>hk s (by simp) e.symm)]
  ·rename_i hc
   refine ⟨?_,fun h=>by cases h⟩
   simp only[Bool.false_eq_true,false_iff,not_and]
   intro ht h1
   exact absurd ⟨ht,h1 s (by simp)⟩ hc
theorem zgg (l:Lock) (C:List (Int×Int)):∀ (q:List AskR) (A:List Int) (t:Bool),A.length=100->(∀ a∈q,0<=a.pnt/\a.pnt<=99) ->
  ((zeh l C q A t).2=true↔t=true/\∀ a∈q.filter (zb4 l),zgj C a.pnt=a.lie) /\
  ((zeh l C q A t).2=true->(∀ a∈q.filter (zb4 l),nth (zeh l C q A t).1 a.pnt.toNat=a.lie)/\∀ k:Nat,(∀ a∈q.filter (zb4 l),a.pnt.toNat≠k)->nth (zeh l C q A t).1 k=nth A k)
 |[],A,t,_,_=>by simp[zeh]
 |a::r,A,t,hA,hs=>by
  rw[zeh]
  have h0:=hs a (by simp)
  by_cases ho:zb4 l a=true
  ·rw[if_pos ho,List.filter_cons_of_pos ho]
   split
   ·rename_i hc
    obtain ⟨rfl,hc⟩:=hc
    have ih:=zgg l C r (A.set a.pnt.toNat a.lie) true (by simpa using hA) fun x hx=>hs x (by simp[hx])
    refine ⟨?_, ?_⟩
    ·rw[ih.1]
     simp only[List.mem_cons,forall_eq_or_imp,true_and]
     exact ⟨fun h=>⟨hc,h⟩,fun h=>h.2⟩
    ·intro ht
     have h2:=ih.2 ht
     have h3:=(ih.1.1 ht).2
     refine ⟨fun x hx=>?_,fun k hk=>?_⟩
     ·rcases List.mem_cons.1 hx with rfl|hx
      ·rcases Classical.em (∃ y∈r.filter (zb4 l),y.pnt.toNat=x.pnt.toNat) with ⟨y,hy,e⟩|h4
       ·have h5:=hs y (by simp[(List.mem_filter.1 hy).1])
        have h6:=h2.1 y hy
        rw[e]at h6
        rw[h6,<-h3 y hy,<-hc,show y.pnt=x.pnt by omega]
       ·rw[h2.2 _ (fun y hy e=>h4 ⟨y,hy,e⟩),za7 _ _ _ _ (by omega),if_pos rfl]
      ·exact h2.1 x hx
     ·rw[h2.2 k fun y hy=>hk y (by simp[hy]),za7 _ _ _ _ (by omega),if_neg (fun e=>hk a (by simp) e.symm)]
   ·rename_i hc
    refine ⟨?_,fun h=>by cases h⟩
    simp only[Bool.false_eq_true,false_iff,not_and]
    intro ht h1
    exact absurd ⟨ht,h1 a (by simp)⟩ hc
  ·rw[if_neg ho,List.filter_cons_of_neg ho]
   exact zgg l C r A t hA fun x hx=>hs x (by simp[hx])
def zfp (C:List (Int×Int)):List WL->List Int->List Int->Bool->List Int×List Int×Bool
 |[],H,A,t=>(H,A,t)
 |z::r,H,A,t=>zfp C r (zbU z.2.id (zbq z.1 z.2) H t).1 (zeh z.2 C (zbJ z.1 z.2) A (zbU z.2.id (zbq z.1 z.2) H t).2).1 (zeh z.2 C (zbJ z.1 z.2) A (zbU z.2.id (zbq z.1 z.2) H t).2).2
theorem zq3 (ws:List WayR) (C:List (Int×Int)):∀ (l:List Lock) (i:Nat) (H A:List Int) (t:Bool),i+l.length=ws.length->zdB ws C i l H A t=zfp C ((ws.drop i).zip l) H A t
 |[],i,H,A,t,_=>by rw[zdB,List.zip_nil_right,zfp]
 |x::r,i,H,A,t,h=>by
  simp only[List.length_cons]at h
  rw[zdB,zaf (show i<ws.length by omega),List.zip_cons_cons,zfp,zq3 ws C r (i+1) _ _ _ (by omega)]
structure ZOk (Z:List WL):Prop where
 id:∀ z∈Z,z.2.id≠0
 sec:∀ z∈Z,∀ n∈hdl z,0<=n/\n<=99
 pnt:∀ z∈Z,∀ a∈zbJ z.1 z.2,0<=a.pnt/\a.pnt<=99
theorem zmV (C:List (Int×Int)):∀ (Z:List WL) (H A:List Int),(zfp C Z H A false).2.2=false
 |[],H,A=>rfl
 |z::r,H,A=>by
  rw[zfp]
  have h1:(zbU z.2.id (zbq z.1 z.2) H false).2=false:=by
   cases zbq z.1 z.2 with
   |nil=>rfl
   |cons s q=>rw[zbU,if_neg (by simp)]
  have h2:∀ q:List AskR,(zeh z.2 C q A false).2=false:=by
   intro q
   induction q with
   |nil=>rfl
   |cons a q ih =>
    rw[zeh]
    split
    ·rw[if_neg (by simp)]
    ·exact ih
  rw[h1,h2]
  exact zmV C r _ _
theorem zeU (C:List (Int×Int)):∀ (Z:List WL) (H A:List Int),ZOk Z->H.length=100->A.length=100 ->
  ((zfp C Z H A true).2.2=true↔(∀ z∈Z,(∀ n∈hdl z,nth H n.toNat=0)/\(hdl z).Nodup/\∀ a∈asl z,zgj C a.pnt=a.lie)/\Z.Pairwise fun z z'=>∀ n∈hdl z,n∉hdl z') /\
  ((zfp C Z H A true).2.2=true->(∀ z∈Z,(∀ n∈hdl z,nth (zfp C Z H A true).1 n.toNat=z.2.id)/\∀ a∈asl z,nth (zfp C Z H A true).2.1 a.pnt.toNat=a.lie) /\
   (∀ k:Nat,(∀ z∈Z,∀ n∈hdl z,n.toNat≠k)->nth (zfp C Z H A true).1 k=nth H k)/\(∀ k:Nat,(∀ z∈Z,∀ a∈asl z,a.pnt.toNat≠k)->nth (zfp C Z H A true).2.1 k=nth A k))
 |[],H,A,_,_,_=>by simp[zfp]
 |z::r,H,A,hZ,hH,hA=>by
  have hZr:ZOk r:=⟨fun y hy=>hZ.id y (by simp[hy]),fun y hy=>hZ.sec y (by simp[hy]),fun y hy=>hZ.pnt y (by simp[hy])⟩
  have hs:=zju z.2.id (hZ.id z (by simp)) (zbq z.1 z.2) H true hH (hZ.sec z (by simp))
  have hse:∀ n∈hdl z,0<=n/\n<=99:=hZ.sec z (by simp)
  have hlen:=zf2 z.2.id (zbq z.1 z.2) H true
  rw[zfp]
  rw[show zbq z.1 z.2=hdl z from rfl]at hs hlen |-
  revert hs hlen
  generalize zbU z.2.id (hdl z) H true=HT
  intro hs hlen
  cases ht:HT.2 with
  |false =>
   have hf:(zeh z.2 C (zbJ z.1 z.2) A false).2=false:=by
    have:=(zgg z.2 C (zbJ z.1 z.2) A false hA (hZ.pnt z (by simp))).1
    cases h:(zeh z.2 C (zbJ z.1 z.2) A false).2 with
    |false=>rfl
    |true=>have:=(this.1 h).1;cases this
   rw[hf,zmV]
   refine ⟨?_,fun h=>by cases h⟩
   simp only[Bool.false_eq_true,false_iff,not_and]
   intro h1 _
   have h2:=h1 z (by simp)
   have h3:=hs.1.2 ⟨rfl,h2.1,h2.2.1⟩
   rw[ht]at h3
   cases h3
  |true =>
   have hs1:=(hs.1.1 ht).2
   have hs2:=hs.2 ht
   have ha:=zgg z.2 C (zbJ z.1 z.2) A true hA (hZ.pnt z (by simp))
   have hpn:=hZ.pnt z (by simp)
   have halen:=zgh z.2 C (zbJ z.1 z.2) A true
   rw[show (zbJ z.1 z.2).filter (zb4 z.2)=asl z from rfl]at ha
   revert ha halen
   generalize zeh z.2 C (zbJ z.1 z.2) A true=AT
   intro ha halen
   cases hat:AT.2 with
   |false =>
    rw[zmV]
    refine ⟨?_,fun h=>by cases h⟩
    simp only[Bool.false_eq_true,false_iff,not_and]
    intro h1 _
    have h3:=ha.1.2 ⟨rfl,(h1 z (by simp)).2.2⟩
    rw[hat]at h3
    cases h3
   |true =>
    have ha1:=(ha.1.1 hat).2
    have ha2:=ha.2 hat
    have ih:=zeU C r HT.1 AT.1 hZr (by omega) (by omega)
    have key:∀ y∈r,((∀ n∈hdl y,nth HT.1 n.toNat=0)↔(∀ n∈hdl y,nth H n.toNat=0)/\∀ n∈hdl z,n∉hdl y):=by
     intro y hy
     constructor
     ·intro h
      have hne:∀ n∈hdl z,n∉hdl y:=fun n hn hny=>by
       have:=h n hny
       rw[hs2.1 n hn]at this
       exact hZ.id z (by simp) this
      refine ⟨fun n hn=>?_,hne⟩
      have:=h n hn
      rw[hs2.2 _ (fun m hm e=>hne m hm (by have:=hse m hm;have:=hZ.sec y (by simp[hy]) n hn;rw[show m=n by omega];exact hn))]at this
      exact this
     ·rintro ⟨h1,h2⟩ n hn
      rw[hs2.2 _ (fun m hm e=>h2 m hm (by have:=hse m hm;have:=hZ.sec y (by simp[hy]) n hn;rw[show m=n by omega];exact hn))]
      exact h1 n hn
    refine ⟨?_, ?_⟩
    ·rw[ih.1]
     simp only[List.mem_cons,forall_eq_or_imp,List.pairwise_cons]
     constructor
     ·rintro ⟨h1,h2⟩
      refine ⟨⟨⟨hs1.1,hs1.2,ha1⟩,fun y hy=>⟨((key y hy).1 (h1 y hy).1).1,(h1 y hy).2⟩⟩,fun y hy=>((key y hy).1 (h1 y hy).1).2,h2⟩
     ·rintro ⟨⟨_,h1⟩,h3,h2⟩
      exact ⟨fun y hy=>⟨(key y hy).2 ⟨(h1 y hy).1,h3 y hy⟩,(h1 y hy).2⟩,h2⟩
    ·intro hg
     have h1:=ih.2 hg
     have h2:=ih.1.1 hg
     refine ⟨?_, ?_, ?_⟩
     ·intro y hy
      rcases List.mem_cons.1 hy with rfl|hy
      ·refine ⟨fun n hn=>?_,fun a haa=>?_⟩
       ·rw[h1.2.1 n.toNat fun x hx m hm e=>?_]
        ·exact hs2.1 n hn
        ·have h5:=((key x hx).1 (h2.1 x hx).1).2 n hn
         have:=hse n hn
         have:=hZ.sec x (by simp[hx]) m hm
         exact h5 (by rw[show n=m by omega];exact hm)
       ·have hpa:=hpn a (List.mem_filter.1 haa).1
        rcases Classical.em (∃ x∈r,∃ b∈asl x,b.pnt.toNat=a.pnt.toNat) with ⟨x,hx,b,hb,e⟩|h4
        ·have hpb:=hZ.pnt x (by simp[hx]) b (List.mem_filter.1 hb).1
         rw[<-e,(h1.1 x hx).2 b hb,<-(h2.1 x hx).2.2 b hb,<-ha1 a haa,show b.pnt=a.pnt by omega]
        ·rw[h1.2.2 _ fun x hx b hb e=>h4 ⟨x,hx,b,hb,e⟩]
         exact ha2.1 a haa
      ·exact h1.1 y hy
     ·intro k hk
      rw[h1.2.1 k fun y hy=>hk y (by simp[hy])]
      exact hs2.2 k fun n hn=>hk z (by simp) n hn
     ·intro k hk
      rw[h1.2.2 k fun y hy=>hk y (by simp[hy])]
      exact ha2.2 k fun a haa=>hk z (by simp) a haa
theorem zfY (C:List (Int×Int)) (k v k':Int):zgj (zmA C k v) k'=if k'=k then v else zgj C k':=by
 induction C with
 |nil=>simp[zmA,zgj]
 |cons q r ih =>
  rw[zmA]
  split
  ·rename_i h;subst h;simp only[zgj];split<;>rfl
  ·rename_i h
   simp only[zgj,ih]
   by_cases h1:k'=q.1
   ·rw[if_pos h1,if_pos h1,if_neg (by omega)]
   ·rw[if_neg h1,if_neg h1]
theorem zjo:∀ (l:List Switch) (C:List (Int×Int)) (k:Int),(∀ x∈l,x.id≠k)->zgj (zgk C l) k=zgj C k
 |[],_,_,_=>rfl
 |x::r,C,k,h=>by
  rw[zgk,zjo r _ k fun y hy=>h y (by simp[hy]),zfY,if_neg (fun e=>h x (by simp) e.symm)]
theorem zmE:∀ (l:List Switch) (C:List (Int×Int)),(l.map Switch.id).Nodup->∀ x∈l,zgj (zgk C l) x.id=x.call
 |[],_,_,x,h=>by cases h
 |y::r,C,hn,x,hx=>by
  simp only[List.map_cons,List.nodup_cons]at hn
  rw[zgk]
  rcases List.mem_cons.1 hx with rfl|hx
  ·rw[zjo r _ _ fun z hz e=>hn.1 (by rw[<-e];exact List.mem_map_of_mem hz),zfY,if_pos rfl]
  ·exact zmE r _ hn.2 x hx
def za9 (s:State) (n:Int):Int:=zgj (zgk [] s.switches) n
def zof (p:Pln) (s:State):List WL:=(zaP p).zip s.locks
theorem zja {α β:Type} {q:α->β->Bool}:∀ {a:List α} {b:List β},zaw q a b=true->∀ x∈a,∃ y∈b,q x y=true
 |[],_,_,x,h=>by cases h
 |x::xs,[],h,_,_=>by simp[zaw]at h
 |x::xs,y::ys,h,z,hz=>by
  simp only[zaw,Bool.and_eq_true]at h
  rcases List.mem_cons.1 hz with rfl|hz
  ·exact ⟨y,by simp,h.1⟩
  ·obtain ⟨w,hw,e⟩:=zja h.2 z hz
   exact ⟨w,by simp[hw],e⟩
theorem zeB {α β:Type} {q:α->β->Bool} {f:α->Int} {g:β->Int} (hq:∀ x y,q x y=true->f x=g y):∀ {a:List α} {b:List β},zaw q a b=true->a.map f=b.map g
 |[],[],_=>rfl
 |[],_::_,h=>by simp[zaw]at h
 |_::_,[],h=>by simp[zaw]at h
 |x::xs,y::ys,h=>by
  simp only[zaw,Bool.and_eq_true]at h
  simp only[List.map_cons,zeB hq h.2,hq x y h.1]
theorem zff {p:Pln} {s:State} (h:zaj p s=true):s.tracks.map Track.id=p.sections.map Section.id:=by
 simp only[zaj,Bool.and_eq_true]at h
 exact zeB (fun x y h=>by simp only[ze6,Bool.and_eq_true,decide_eq_true_eq]at h;exact h.1) h.1
theorem zcl {p:Pln} {s:State} (h:zaj p s=true):s.switches.map Switch.id=p.points.map Pnt.id:=by
 simp only[zaj,Bool.and_eq_true]at h
 exact zeB (fun x y h=>by simp only[zfz,Bool.and_eq_true,decide_eq_true_eq]at h;exact h.1) h.2.1
theorem zmK {p:Pln} {s:State} (h:zaj p s=true):s.locks.map Lock.id=p.routes.map Rte.id:=by
 simp only[zaj,Bool.and_eq_true]at h
 exact zeB (fun x y h=>by simp only[zbR,Bool.and_eq_true,decide_eq_true_eq]at h;exact h.1) h.2.2
theorem zbI {p:Pln} (h:OkP p):(p.points.map Pnt.id).Nodup:=by
 have hp:=h.pts
 simp only[points,Bool.and_eq_true]at hp
 exact zj8 hp.1
theorem zhP {p:Pln} (h:OkP p):(p.routes.map Rte.id).Nodup:=zj8 h.rise
theorem zer {p:Pln} (h:OkP p):(p.sections.map Section.id).Nodup:=zeQ (zk7 h.sec)
theorem zla {p:Pln} (h:OkP p) {r:Rte} (hr:r∈p.routes):1<=r.id/\r.id<=99:=((zdq _ _).1 h.rise).1 r.id (List.mem_map_of_mem hr)
theorem zaH {p:Pln} (h:zbd p=true):OkP p/\(∀ r∈p.routes,(zah p r).2.2=0)/\∀ r∈p.routes,zbF p r=true:=by
 simp only[zbd,Bool.and_eq_true]at h
 refine ⟨zid h.1,fun r hr=>?_,fun r hr=>?_⟩
 ·simpa using (List.all_eq_true.1 h.2.1) r hr
 ·exact (List.all_eq_true.1 h.2.2) r hr
theorem ziJ {p:Pln} {s:State} (ho:OkP p) (h:zaj p s=true) {x:Switch} (hx:x∈s.switches):za9 s x.id=x.call :=
 zmE _ _ (by rw[zcl h];exact zbI ho) x hx
theorem zgl {p:Pln} {s:State} (h:zaj p s=true) {z:WL} (hz:z∈zof p s):∃ i,∃ r∈p.routes,i<p.routes.length/\nth p.routes i=r/\nth s.locks i=z.2/\z.2∈s.locks/\z.1=(zah p r).1/\zbR z.2 r=true:=by
 have hl:=zak h
 simp only[zaj,Bool.and_eq_true]at h
 obtain ⟨i,hi,e⟩:=List.mem_iff_getElem.1 hz
 have hi1:i<p.routes.length:=by simp only[zof,List.length_zip,zaP,List.length_map]at hi;omega
 have hi2:i<s.locks.length:=by omega
 have e1:z.1=(zah p (nth p.routes i)).1:=by
  rw[<-e];simp[zof,zaP,zaK hi1]
 have e2:nth s.locks i=z.2:=by
  rw[<-e];simp[zof,zaK hi2]
 refine ⟨i,nth p.routes i,zab hi1,hi1,rfl,e2,by rw[<-e2];exact zab hi2,e1, ?_⟩
 rw[<-e2]
 exact zfv h.2.2 hi2
theorem zof_at {p:Pln} {s:State} (h:zaj p s=true) {i:Nat} (hi:i<p.routes.length):((zah p (nth p.routes i)).1,nth s.locks i)∈zof p s:=by
 have hl:=zak h
 have hi2:i<s.locks.length:=by omega
 rw[List.mem_iff_getElem]
 refine ⟨i,by simp[zof,zaP];omega, ?_⟩
 simp[zof,zaP,zaK hi,zaK hi2]
theorem zkS {p:Pln} {s:State} (ho:zbd p=true) (h:zaj p s=true):ZOk (zof p s):=by
 obtain ⟨hok,hw,_⟩:=zaH ho
 refine ⟨fun z hz=>?_,fun z hz n hn=>?_,fun z hz a ha=>?_⟩
 ·obtain ⟨i,r,hr,_,_,_,_,_,hl⟩:=zgl h hz
  simp only[zbR,Bool.and_eq_true,decide_eq_true_eq]at hl
  have:=zla hok hr
  omega
 ·obtain ⟨i,r,hr,_,_,_,_,e,hl⟩:=zgl h hz
  have hp:=zbv (hw r hr)
  unfold hdl zbq at hn
  split at hn
  ·simp at hn
  ·have h1:n∈r.path++r.over:=by
    rw[e,hp.1,hp.2.1]at hn
    rcases List.mem_append.1 hn with h2|h2
    ·exact List.mem_append.2 (.inl (List.mem_of_mem_drop h2))
    ·exact List.mem_append.2 (.inr h2)
   obtain ⟨q,hq,rfl⟩:=(zb8 hok hr).1 n h1
   have:=zcQ hok hq
   omega
 ·obtain ⟨i,r,hr,_,_,_,_,e,hl⟩:=zgl h hz
  unfold zbJ at ha
  split at ha
  ·simp at ha
  ·rw[e]at ha
   have:=zbC hok hr ha
   omega
theorem zq0 {p:Pln} {s:State} (ho:zbd p=true) (h:zaj p s=true) {z:WL} (hz:z∈zof p s):(hdl z).Nodup:=by
 obtain ⟨hok,hw,_⟩:=zaH ho
 obtain ⟨i,r,hr,_,_,_,_,e,_⟩:=zgl h hz
 have hp:=zbv (hw r hr)
 unfold hdl zbq
 split
 ·simp
 ·rw[e,hp.1,hp.2.1]
  have:=(zb8 hok hr).2
  exact List.Nodup.sublist (List.Sublist.append (List.drop_sublist _ _) (List.Sublist.refl _)) this
theorem zmU {p:Pln} {s:State} (h:zaj p s=true):zas p s=zfp (zgk [] s.switches) (zof p s) zdw zdw true:=by
 unfold zas zof
 rw[zq3 _ _ _ _ _ _ _ (by have:=zak h;simp[zaP];omega),List.drop_zero]
theorem zjM (k:Nat):nth zdw k=0:=by
 rcases Nat.lt_or_ge k 100 with h|h
 ·exact zdz _ _ _ h
 ·unfold zdw nth;rw[getElem!_neg _ _ (by simp;omega)];rfl
def znf (Z:List WL):Prop:=Z.Pairwise fun z z'=>∀ n∈hdl z,n∉hdl z'
def zoi (s:State) (Z:List WL):Prop:=∀ z∈Z,∀ a∈asl z,za9 s a.pnt=a.lie
theorem zeD (p:Pln) (s:State):zad p s=0↔zbd p=true/\zaj p s=true/\znf (zof p s)/\zoi s (zof p s):=by
 constructor
 ·intro h
  obtain ⟨h1,h2,h3⟩:=zac h
  rw[zmU h2]at h3
  have:=((zeU _ _ _ _ (zkS h1 h2) zbM zbM).1).1 h3
  exact ⟨h1,h2,this.2,fun z hz a ha=>(this.1 z hz).2.2 a ha⟩
 ·rintro ⟨h1,h2,h3,h4⟩
  unfold zad
  have h5:(zas p s).2.2=true:=by
   rw[zmU h2]
   exact ((zeU _ _ _ _ (zkS h1 h2) zbM zbM).1).2 ⟨fun z hz=>⟨fun n _=>zjM _,zq0 h1 h2 hz,h4 z hz⟩,h3⟩
  rw[if_pos h1,if_pos ⟨h2,h5⟩]
section
variable {p:Pln} {s:State} (h:zad p s=0)
include h
theorem zf3:(∀ z∈zof p s,(∀ n∈hdl z,nth (zas p s).1 n.toNat=z.2.id)/\∀ a∈asl z,nth (zas p s).2.1 a.pnt.toNat=a.lie) /\
  (∀ k:Nat,(∀ z∈zof p s,∀ n∈hdl z,n.toNat≠k)->nth (zas p s).1 k=0)/\(∀ k:Nat,(∀ z∈zof p s,∀ a∈asl z,a.pnt.toNat≠k)->nth (zas p s).2.1 k=0):=by
 obtain ⟨h1,h2,h3⟩:=zac h
 rw[zmU h2]at h3 |-
 have:=(zeU _ _ _ _ (zkS h1 h2) zbM zbM).2 h3
 refine ⟨this.1,fun k hk=>?_,fun k hk=>?_⟩
 ·rw[this.2.1 k hk];exact zjM k
 ·rw[this.2.2 k hk];exact zjM k
theorem zmT {z:WL} (hz:z∈zof p s) {n:Int} (hn:n∈hdl z):nth (zas p s).1 n.toNat=z.2.id:=((zf3 h).1 z hz).1 n hn
theorem hold_no {n:Int} (h0:0<=n) (hn:∀ z∈zof p s,n∉hdl z):nth (zas p s).1 n.toNat=0:=(zf3 h).2.1 _ fun z hz m hm e=>by
 have:=(zkS (zac h).1 (zac h).2.1).sec z hz m hm
 exact hn z hz (by rw[show n=m by omega];exact hm)
theorem zjt {n:Int} (h0:0<=n):(∃ z∈zof p s,n∈hdl z/\nth (zas p s).1 n.toNat=z.2.id)\/((∀ z∈zof p s,n∉hdl z)/\nth (zas p s).1 n.toNat=0):=by
 rcases Classical.em (∃ z∈zof p s,n∈hdl z) with ⟨z,hz,hn⟩|h1
 ·exact .inl ⟨z,hz,hn,zmT h hz hn⟩
 ·exact .inr ⟨fun z hz hn=>h1 ⟨z,hz,hn⟩,hold_no h h0 fun z hz hn=>h1 ⟨z,hz,hn⟩⟩
theorem zrK {z:WL} (hz:z∈zof p s) {a:AskR} (ha:a∈asl z):nth (zas p s).2.1 a.pnt.toNat=a.lie:=((zf3 h).1 z hz).2 a ha
theorem ask_no {n:Int} (h0:0<=n) (hn:∀ z∈zof p s,∀ a∈asl z,a.pnt≠n):nth (zas p s).2.1 n.toNat=0:=(zf3 h).2.2 _ fun z hz a ha e=>by
 have:=(zkS (zac h).1 (zac h).2.1).pnt z hz a (List.mem_filter.1 ha).1
 exact hn z hz a ha (by omega)
theorem zrJ {n:Int} (h0:0<=n):(∃ z∈zof p s,∃ a∈asl z,a.pnt=n/\nth (zas p s).2.1 n.toNat=a.lie/\za9 s n=a.lie)\/((∀ z∈zof p s,∀ a∈asl z,a.pnt≠n)/\nth (zas p s).2.1 n.toNat=0):=by
 rcases Classical.em (∃ z∈zof p s,∃ a∈asl z,a.pnt=n) with ⟨z,hz,a,ha,e⟩|h1
 ·exact .inl ⟨z,hz,a,ha,e,by rw[<-e];exact zrK h hz ha,by rw[<-e];exact ((zeD p s).1 h).2.2.2 z hz a ha⟩
 ·exact .inr ⟨fun z hz a ha e=>h1 ⟨z,hz,a,ha,e⟩,ask_no h h0 fun z hz a ha e=>h1 ⟨z,hz,a,ha,e⟩⟩
end
def minK (n:Int):Int:=if 1000<n then 1000 else n
def sumS:Int->List Section->Int
 |t,[]=>t
 |t,s::r=>sumS (t+minK s.ends.length) r
def sumR:Int->List Rte->Int
 |t,[]=>t
 |t,r::l=>sumR (t+minK r.path.length+minK r.over.length+minK r.flanks.length) l
def zdO (p:Pln):Bool:=decide (100<(p.sections.length:Int))||(decide (100<(p.points.length:Int))||(decide (100<(p.signals.length:Int))||decide (100<(p.routes.length:Int))))
def zlB (p:Pln):Bool:=zdO p||decide (1000<sumR (sumS 0 p.sections) p.routes)
theorem znL (n:Nat):0<=minK n/\minK n<=1000:=by unfold minK;split<;>omega
theorem zlA (hH:HasAll P inv) (p:Pln):PC P inv 71 [.agg p.c] (·=.b (zlB p)):=by
 unfold zlB
 cases hg0:zdO p with
 |true =>
  rw[Bool.true_or]
  refine PC.fn hH cd71 fun w0 M Q hM hE hQ hR=>?_;dsimp only[cd71,qm,ql,qf,qi,qb,qc,qv,qN,qF,qt]at hQ |-
  (repeat' first|refine zaa [0,1,2,3,4,5,27,32,49] fun K hK=>?_|(refine hK.go ?_;clear hK K)|with_reducible exact wT|refine wA ?_|(refine wB (fun h=>?_) (fun h=>?_)<;>first|exact wN h|subst (h:(_:Bool)=_)|skip)|(refine wQ ?_;clear hQ hR hE hM)|fail)
  all_goals first|rfl|(exfalso;simp[zdO]at hg0;omega)
 |false =>
  rw[Bool.false_or]
  have hb:p.sections.length<=100/\p.points.length<=100/\p.signals.length<=100/\p.routes.length<=100:=by
   simp[zdO]at hg0;omega
  refine PC.fn hH cd71 fun w0 M Q hM hE hQ hR=>?_;dsimp only[cd71,qm,ql,qf,qi,qb,qc,qv,qN,qF,qt]at hQ |-
  (repeat' first|refine zaa [0,1,2,3,4,5,27,32,49] fun K hK=>?_|(refine hK.go ?_;clear hK K)|with_reducible exact wT|refine wA ?_|(refine wB (fun h=>?_) (fun h=>?_)<;>first|exact wN h|subst (h:(_:Bool)=_)|skip)|(refine wQ ?_;clear hQ hR hE hM)|fail)
  all_goals first|(exfalso;omega)|skip
  refine zam (ι:=Nat×Int) [1,2,3,4] (fun z=>[(3,.n z.2),(4,.n z.1)]) (fun _=>[]) (fun z=>z.1) (p.sections.length) (fun z=>(0<=z.2/\z.2<=1000*z.1)/\(sumS z.2 (p.sections.drop z.1)=sumS 0 p.sections)) (0,0) ?_;rintro ⟨k,t⟩ ⟨hk,ht,hg⟩;(try dsimp only at hk ht hg |-);rcases Nat.lt_or_ge k p.sections.length with hlt|hge
  ·rw[zaf hlt]at hg
   rw[sumS]at hg
   have hm:=znL (nth p.sections k).ends.length
   unfold minK at hg hm
   (repeat' first|refine zaa [0,1,2,3,4,5,27,32,49] fun K hK=>?_|(refine hK.go ?_;clear hK K)|with_reducible exact wT|refine wA ?_|(refine wB (fun h=>?_) (fun h=>?_)<;>first|exact wN h|subst (h:(_:Bool)=_)|skip)|(refine wQ ?_;clear hQ hR hE hM)|fail)
   exact nY (k+1,_) ⟨by (try dsimp only);omega,by (try dsimp only);omega,hg⟩
  ·rw[List.drop_eq_nil_of_le hge,sumS]at hg
   (repeat' first|refine zaa [0,1,2,3,4,5,27,32,49] fun K hK=>?_|(refine hK.go ?_;clear hK K)|with_reducible exact wT|refine wA ?_|(refine wB (fun h=>?_) (fun h=>?_)<;>first|exact wN h|subst (h:(_:Bool)=_)|skip)|(refine wQ ?_;clear hQ hR hE hM)|fail)
   refine zam (ι:=Nat×Int) [1,2,3,5] (fun z=>[(3,.n z.2),(5,.n z.1)]) (fun _=>[]) (fun z=>z.1) (p.routes.length) (fun z=>(0<=z.2/\z.2<=100000+3000*z.1)/\(sumR z.2 (p.routes.drop z.1)=sumR t p.routes)) (0,t) ?_;rintro ⟨k2,u⟩ ⟨hk,hu,hg2⟩;(try dsimp only at hk hu hg2 |-);rcases Nat.lt_or_ge k2 p.routes.length with hlt|hge
   ·rw[zaf (by assumption),sumR]at hg2
    have hm1:=znL (nth p.routes k2).path.length
    have hm2:=znL (nth p.routes k2).over.length
    have hm3:=znL (nth p.routes k2).flanks.length
    unfold minK at hg2 hm1 hm2 hm3
    (repeat' first|refine zaa [0,1,2,3,4,5,27,32,49] fun K hK=>?_|(refine hK.go ?_;clear hK K)|with_reducible exact wT|refine wA ?_|(refine wB (fun h=>?_) (fun h=>?_)<;>first|exact wN h|subst (h:(_:Bool)=_)|skip)|(refine wQ ?_;clear hQ hR hE hM)|fail)
    exact nY (k2+1,_) ⟨by (try dsimp only);omega,by (try dsimp only);omega,hg2⟩
   ·rw[List.drop_eq_nil_of_le (by assumption),sumR]at hg2
    (repeat' first|refine zaa [0,1,2,3,4,5,27,32,49] fun K hK=>?_|(refine hK.go ?_;clear hK K)|with_reducible exact wT|refine wA ?_|(refine wB (fun h=>?_) (fun h=>?_)<;>first|exact wN h|subst (h:(_:Bool)=_)|skip)|(refine wQ ?_;clear hQ hR hE hM)|fail)
    rw[hg2,hg]
theorem sm_of {p:Pln} (hp:Pln.ok p) (hg:zlB p=false):Sm p:=by
 have h1:zdO p=false:=by
  unfold zlB at hg
  simp only[Bool.or_eq_false_iff]at hg
  exact hg.1
 have hb:p.sections.length<=100/\p.points.length<=100/\p.signals.length<=100/\p.routes.length<=100:=by
  simp[zdO]at h1;omega
 obtain ⟨_,_,h3,h4,h5,h6⟩:=hp
 refine ⟨by omega,fun s hs=>?_,by omega,by omega,by omega,fun r hr=>?_⟩
 ·have:=(h3.2 s hs).2.2.1
  exact Nat.le_trans this (by decide)
 ·have:=h6.2 r hr
  exact ⟨Nat.le_trans this.2.2.2.1.1 (by decide),Nat.le_trans this.2.2.2.2.1.1 (by decide),Nat.le_trans this.2.2.2.2.2.1.1 (by decide)⟩
theorem smS_of {s:State} (h:zlC s=false):SmS s:=by
 unfold zlC at h;unfold SmS;simp at h;omega
def zdU {α:Type} (f:α->Int) (n:Int) (g:α->α) (l:List α):List α:=l.map fun x=>if f x=n then g x else x
theorem zcL {α:Type} [Inhabited α] (f:α->Int) (n:Int) (g:α->α):∀ {l:List α},(l.map f).Nodup->∀ {k:Nat},k<l.length->f (nth l k)=n->l.set k (g (nth l k))=zdU f n g l
 |[],_,k,h,_=>by simp at h
 |x::r,hn,0,_,e=>by
  simp only[List.map_cons,List.nodup_cons]at hn
  have e:f x=n:=e
  unfold zdU
  rw[List.set_cons_zero,List.map_cons,if_pos e]
  congr 1
  symm
  refine (List.map_congr_left fun y hy=>?_).trans (List.map_id r)
  rw[if_neg (fun h=>hn.1 (by rw[e,<-h];exact List.mem_map_of_mem hy))]
  rfl
 |x::r,hn,k+1,h,e=>by
  simp only[List.map_cons,List.nodup_cons]at hn
  have hk:k<r.length:=by simpa using h
  have e:f (nth r k)=n:=e
  have ih:=zcL f n g hn.2 hk e
  unfold zdU at ih |-
  rw[List.set_cons_succ,List.map_cons,if_neg (fun h=>hn.1 (by rw[h,<-e];exact List.mem_map_of_mem (zab hk)))]
  exact congrArg (x::·) ih
theorem za1 {α:Type} (f:α->Int) (n:Int) (g:α->α) (l:List α):(zdU f n g l).length=l.length:=by simp[zdU]
theorem zat {α:Type} [Inhabited α] (f:α->Int) (n:Int) (l:List α):(za3 (fun x=>decide (f x=n)) 0 l=-1/\∀ x∈l,f x≠n)\/∃ i:Nat,i<l.length/\za3 (fun x=>decide (f x=n)) 0 l=(i:Int)/\f (nth l i)=n:=by
 rcases zb7 (fun x:α=>decide (f x=n)) l 0 with ⟨h1,h2⟩|⟨i,h1,h2,h3⟩
 ·exact .inl ⟨h1,zrd h2⟩
 ·exact .inr ⟨i,h1,by omega,(zf6 (f:=f) h3).2⟩
end Go.Lev
