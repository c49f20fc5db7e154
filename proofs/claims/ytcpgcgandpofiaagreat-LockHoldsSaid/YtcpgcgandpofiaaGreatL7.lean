/-
  A part of the engine that walks the functions' codes, and of the functions' contracts. Conditions: those that each theorem names.
-/
import Derived.Test.YtcpgcgandpofiaaGreatL6
import Derived.IntWalk
set_option linter.unusedSimpArgs false
set_option linter.unusedVariables false
set_option linter.unusedSectionVars false
namespace Go.Lev
open Go.Eng
set_option maxRecDepth 10000
set_option maxHeartbeats 4000000
variable {P:Program} {inv:Nat→Option Nat} {w0:World} {M:Nat→Prop}
def zch (w:WayR) (l:Lock):List AskR:=if l.phase=0 then [] else w.asks
theorem held_ac2 (hH:HasAll P inv) (hM:∀ b,M b→b<w0.heap.size) (p:Pln) (s:State) (ws:List WayR) (C:List (Int×Int)) (l:Lock) (w:WayR) (H A:List Int) (t:Bool) (hg:0≤l.gone∧l.gone≤w.path.length) (h1:w.path.length≤1000) (h2:w.over.length≤1000) (hs:∀ x∈w.path++w.over,0≤x∧x≤99) (hHl:H.length=100) (hAl:A.length=100) :
  AC P inv w0 M 30 118 [.agg w.c,.agg l.c,.fn 119 [.ptr 3 1 0,.ptr 2 201 0,.ptr 7 4 0]] (stG p s ws C l H A t) fun r0 σ'=>r0=.tup []∧σ'=stG p s ws C l (zbw l.id (zbL w l) H t).1 A (zbw l.id (zbL w l) H t).2:=by
 have h:=held_ac hH hM p s ws C l w H A t hg h1 h2 hs hHl hAl
 by_cases hp:l.phase=0
 ·rw[if_pos hp]at h
  rw[show (zbw l.id (zbL w l) H t).2=t by unfold zbL;rw[if_pos hp];rfl]
  exact h
 ·rw[if_neg hp]at h;exact h
theorem asks_ac2 (hH:HasAll P inv) (hM:∀ b,M b→b<w0.heap.size) (p:Pln) (s:State) (ws:List WayR) (C:List (Int×Int)) (l:Lock) (w:WayR) (H A:List Int) (t:Bool) (h1:w.asks.length≤1000) (hs:∀ a∈w.asks,0≤a.pnt∧a.pnt≤99) (hHl:H.length=100) (hAl:A.length=100) :
  AC P inv w0 M 30 120 [.agg w.c,.agg l.c,.fn 121 [.ptr 3 1 0,.ptr 6 1 0,.ptr 2 201 0]] (stG p s ws C l H A t) fun r0 σ'=>r0=.tup []∧σ'=stG p s ws C l H (zep l C (zch w l) A t).1 (zep l C (zch w l) A t).2:=by
 have h:=asks_ac hH hM p s ws C l w H A t h1 hs hHl hAl
 by_cases hp:l.phase=0
 ·rw[if_pos hp]at h
  unfold zch
  rw[if_pos hp]
  exact h
 ·rw[if_neg hp]at h
  unfold zch
  rw[if_neg hp]
  exact h
theorem ze8 (n:Int):∀ (l H:List Int) (t:Bool),(zbw n l H t).1.length=H.length
 |[],H,t=>rfl
 |s::r,H,t=>by
  rw[zbw]
  split
  ·rw[ze8 n r];simp
  ·simp
theorem zfk (l:Lock) (C:List (Int×Int)):∀ (q:List AskR) (A:List Int) (t:Bool),(zep l C q A t).1.length=A.length
 |[],A,t=>rfl
 |a::r,A,t=>by
  rw[zep]
  split
  ·split
   ·rw[zfk l C r];simp
   ·simp
  ·exact zfk l C r A t
def zgj:List (Int×Int)→List Switch→List (Int×Int)
 |C,[]=>C
 |C,x::r=>zgj (zkS C x.id x.call) r
def zdL (ws:List WayR) (C:List (Int×Int)):Nat→List Lock→List Int→List Int→Bool→List Int×List Int×Bool
 |_,[],H,A,t=>(H,A,t)
 |i,l::r,H,A,t=>zdL ws C (i+1) r (zbw l.id (zbL (nth ws i) l) H t).1 (zep l C (zch (nth ws i) l) A (zbw l.id (zbL (nth ws i) l) H t).2).1 (zep l C (zch (nth ws i) l) A (zbw l.id (zbL (nth ws i) l) H t).2).2
def zar (p:Pln) (s:State):Bool:=zaK zim s.tracks p.sections&&(zaK zgp s.switches p.points&&zaK ze3 s.locks p.routes)
def zaT (p:Pln):List WayR:=p.routes.map fun r=>(zak p r).1
def zcW:List Int:=List.replicate 100 0
def gripR (p:Pln) (s:State):(List Int×List Int×Bool)×List WayR:=if zar p s=true then (zdL (zaT p) (zgj [] s.switches) 0 s.locks zcW zcW true,zaT p) else ((zcW,zcW,false),[])
theorem foldG:List.replicate 100 (AV.i .i64 0)++(List.replicate 100 (AV.i .i64 0)++[AV.s0 4])=gc zcW zcW (.s0 4):=rfl
theorem gc_snap0 (H A:List Int) (k:Nat) (σ:AS):zbE k σ (gc H A (.s0 4))=gc H A (.sl 4 []):=by
 unfold gc
 rw[zjk,zjk,ziq,ziq,zbR,zdt,sn_s0]
theorem ovl_gc {H A H' A':List Int} (h:H.length=100) (h':A.length=100) (h2:H'.length=100) (h2':A'.length=100) (W W':AV):ovl (gc H A W) 0 (gc H' A' W')=gc H' A' W':=by
 rw[zlI _ _ _ (by rw[zf1 h h',zf1 h2 h2'];omega),List.take_zero,List.nil_append,List.drop_eq_nil_of_le (by rw[zf1 h h',zf1 h2 h2'];omega),List.append_nil]
theorem zbk:zcW.length=100:=by simp[zcW]
theorem zoA (H A:List Int):zag (gc H A (.s0 4))=0:=by
 unfold gc
 rw[zeb,zeb,zd5,zd5];rfl
theorem gc_bare0 (H A:List Int):zai (gc H A (.s0 4))=true:=by
 have h:∀ xs ys:List AV,zai (xs++ys)=(zai xs&&zai ys):=by
  intro xs ys
  induction xs with
  |nil=>simp[zai]
  |cons x xs ih=>simp[zai,ih,Bool.and_assoc]
 unfold gc
 rw[h,h,ze7,ze7];rfl
def stGg (p:Pln) (s:State) (g:List AV) (C:List (Int×Int)) (l:Lock) (t:Bool):List (Nat×AO):=[(0,.cells p.c true),(1,.cells s.c true),(2,.cells g true),(3,.cells [.b t] true),(4,.cells [.fn 110 []] true),(5,.imap C),(6,.cells [.mp 5] true),(7,.cells l.c true)]
theorem held_ac3 (hH:HasAll P inv) (hM:∀ b,M b→b<w0.heap.size) (G:List Int→List Int→AV→List AV) (hG:G=gc) (p:Pln) (s:State) (ws:List WayR) (C:List (Int×Int)) (l:Lock) (w:WayR) (H A:List Int) (t:Bool) (hg:0≤l.gone∧l.gone≤w.path.length) (h1:w.path.length≤1000) (h2:w.over.length≤1000) (hs:∀ x∈w.path++w.over,0≤x∧x≤99) (hHl:H.length=100) (hAl:A.length=100) :
  AC P inv w0 M 30 118 [.agg w.c,.agg l.c,.fn 119 [.ptr 3 1 0,.ptr 2 201 0,.ptr 7 4 0]] (stGg p s (G H A (.sl 4 (ws.map Way.c))) C l t) fun r0 σ'=>r0=.tup []∧σ'=stGg p s (G (zbw l.id (zbL w l) H t).1 A (.sl 4 (ws.map Way.c))) C l (zbw l.id (zbL w l) H t).2:=by
 subst hG
 exact held_ac2 hH hM p s ws C l w H A t hg h1 h2 hs hHl hAl
theorem asks_ac3 (hH:HasAll P inv) (hM:∀ b,M b→b<w0.heap.size) (G:List Int→List Int→AV→List AV) (hG:G=gc) (p:Pln) (s:State) (ws:List WayR) (C:List (Int×Int)) (l:Lock) (w:WayR) (H A:List Int) (t:Bool) (h1:w.asks.length≤1000) (hs:∀ a∈w.asks,0≤a.pnt∧a.pnt≤99) (hHl:H.length=100) (hAl:A.length=100) :
  AC P inv w0 M 30 120 [.agg w.c,.agg l.c,.fn 121 [.ptr 3 1 0,.ptr 6 1 0,.ptr 2 201 0]] (stGg p s (G H A (.sl 4 (ws.map Way.c))) C l t) fun r0 σ'=>r0=.tup []∧σ'=stGg p s (G H (zep l C (zch w l) A t).1 (.sl 4 (ws.map Way.c))) C l (zep l C (zch w l) A t).2:=by
 subst hG
 exact asks_ac2 hH hM p s ws C l w H A t h1 hs hHl hAl
structure GC (G:List Int→List Int→AV→List AV) (Z:List Int):Prop where
 eq:G=gc
 z:Z=zcW
 fold:List.replicate 100 (AV.i .i64 0)++(List.replicate 100 (AV.i .i64 0)++[AV.s0 4])=G Z Z (.s0 4)
 zl:Z.length=100
 len:∀ {H A:List Int} (W:AV),H.length=100→A.length=100→(G H A W).length=201
 sg:∀ {H A:List Int} (W:AV),H.length=100→A.length=100→List.take 201 (G H A W)=G H A W
 ov:∀ {H A H' A':List Int} (W W':AV),H.length=100→A.length=100→H'.length=100→A'.length=100→ovl (G H A W) 0 (G H' A' W')=G H' A' W'
 bd0:∀ H A:List Int,zag (G H A (.s0 4))=0
 ba0:∀ H A:List Int,zai (G H A (.s0 4))=true
 bd:∀ (H A:List Int) (l:List (List AV)),zag (G H A (.sl 4 l))=0
 ba:∀ (H A:List Int) (l:List (List AV)),zai (G H A (.sl 4 l))=true
 sn0:∀ (H A:List Int) (k:Nat) (σ:AS),zbE k σ (G H A (.s0 4))=G H A (.sl 4 [])
 sn:∀ (H A:List Int) (l:List (List AV)) (k:Nat) (σ:AS),zbE k σ (G H A (.sl 4 l))=G H A (.sl 4 l)
 get:∀ {H A:List Int} (W:AV),H.length=100→A.length=100→(G H A W)[200]?=some W
 set:∀ {H A:List Int} (W W':AV),H.length=100→A.length=100→(G H A W).set 200 W'=G H A W'
theorem GC.mk':GC gc zcW:=⟨rfl,rfl,foldG,zbk,fun W h1 h2=>zf1 h1 h2,fun W h1 h2=>List.take_of_length_le (by rw[zf1 h1 h2];exact Nat.le_refl _),fun W W' h1 h2 h3 h4=>ovl_gc h1 h2 h3 h4 W W',zoA,gc_bare0,fun H A l=>zfb rfl,fun H A l=>zoB rfl,fun H A k σ=>gc_snap0 H A k σ,fun H A l k σ=>gc_snap rfl k σ,fun W h1 h2=>gc_get3 h1 h2,fun W W' h1 h2=>gc_set3 h1 h2 W'⟩
theorem zkp:∃ G Z,GC G Z:=⟨_,_,GC.mk'⟩
theorem ziT {φ:AF} {σ:AS} {t u l l':Nat} {g:List AV} {b r r':Bool} (h1:zbh φ t=.ptr l 201 0) (h2:zaF σ l=some (.cells g r)) (h3:g.length=201) (hs:List.take 201 g=g) (h4:zbh φ u=.ptr l' 1 0) (h5:zaF σ l'=some (.cells [.b b] r')):zeg φ σ [.cell t (some 201),.cell u none]=some (.tup [.agg g,.b b]):=by
 have h:zcJ g 0 (some 201)=some (.agg g):=by
  rw[al_s,if_pos (by omega),seg,List.drop_zero,hs]
 simp only[zeg,zhB,ares,h1,h4,zcK,h2,h5,h,h3,al_n,List.getElem?_cons_zero,List.length_cons,List.length_nil,if_true,Nat.zero_add]
theorem grip_bad (hH:HasAll P inv) (hI:HasIds P inv) (p:Pln) (hp:Sm p) (s:State) (hs:s.tracks.length≤1000∧s.switches.length≤1000∧s.locks.length≤1000) (hok:OkP p) (hb:zar p s=false):PC P inv 93 [.agg p.c,.agg s.c] (·=.tup [.agg (gc zcW zcW (.sl 4 [])),.b false]):=by
 obtain ⟨G,Z,hg⟩:=zkp
 rw[←hg.eq,←hg.z]
 have c1:=eqfTrk hH (caps:=[]) s.tracks p.sections (fun x _ y _=>zlp hH x y) rfl (by omega)
 have c2:=eqfSwt hH (caps:=[.ip 1 [[.fn 110 []]] 0 0]) s.switches p.points (fun x _ y _=>zls hH x y) rfl (by omega)
 have c3:=eqfLck hH (caps:=[]) s.locks p.routes (fun x _ y hy=>zlM hH x y (by have:=zeA hok hy;omega)) rfl (by omega)
 unfold zar at hb
 revert c1 c2 c3 hb
 generalize zaK zim s.tracks p.sections=a1
 generalize zaK zgp s.switches p.points=a2
 generalize zaK ze3 s.locks p.routes=a3
 intro hb c1 c2 c3
 have hfold:=hg.fold
 have hlen:=hg.len (.s0 4) hg.zl hg.zl
 have hsg:=hg.sg (.s0 4) hg.zl hg.zl
 have hov:=hg.ov (.s0 4) (.s0 4) hg.zl hg.zl hg.zl hg.zl
 have hbd:=hg.bd0 Z Z
 have hba:=hg.ba0 Z Z
 have hsn:=hg.sn0 Z Z
 clear hg
 cases a1
 ·refine zae (F:=cd93) (hH.has _ _ rfl) (Nat.le_of_ble_eq_true rfl) fun w0 M Q hM hQ hR=>?_;have hE:=hH.callable;dsimp only[cd93,qm,ql,qf,qi,qb,qc,qp,qv,qN,qT,qF,qt]at hQ ⊢
  repeat' (first|refine zaa [0,1,2,3,4,5,6,7,9,10,11,34,43,45,46,47,48,58,59,60,61] fun K hK=>?_|refine AWp.block ?_|(refine hK.go ?_;clear hK K)|refine Cont.go (by assumption) ?_|(refine cnd2 rfl (fun h=>?_) (fun h=>?_)<;>(try first|exact h.elim|obtain rfl:(_:Bool)=true:=h|obtain rfl:(_:Bool)=false:=h)<;>first|(exfalso;omega)|skip)|((first|refine AWp.reg hE hM ?_|refine AWp.regd hE hM ?_|refine AWp.ret ?_|refine AWp.skip ?_|refine AWp.exit ?_|(refine pk2 (fun h=>?_) (fun h=>?_)<;>(try first|exact h.elim|obtain rfl:(_:Bool)=true:=h|obtain rfl:(_:Bool)=false:=h))|refine zab (fun h=>?_) ?_|refine zac hM (c1) ?_|(refine hQ _ _ _ rfl ?_;clear hQ hR hE hM)|(refine hR _ _ (hQ _ _ _ rfl ?_);clear hQ hR hE hM)|(refine zaf ?_ ?_;focus first|omega|(refine zad ?_;(refine no_implicit_lambda% (st ?_);try with_reducible exact True.intro);done)))<;>try simp -dsimp -implicitDefEqProofs (disch:=omega) only[go_sem,reduceIte,↓reduceIte,Nat.reduceEqDiff,Nat.reduceLT,Nat.reduceLeDiff,Nat.reduceAdd,Nat.reduceSub,Nat.reduceMul,Int.reduceToNat,Int.reduceLT,Int.reduceLE,Int.reduceEq,Int.reduceNeg,Int.reduceNe,reduceCtorEq,hfold,hlen,hsg,hov,hbd,hba,hsn]))
  all_goals (refine hQ _ _ _ (ziT rfl rfl hlen hsg rfl rfl) ?_;simp only[zei,zbR,zdt,zeK,sn_b,hsn])
 ·cases a2
  ·refine zae (F:=cd93) (hH.has _ _ rfl) (Nat.le_of_ble_eq_true rfl) fun w0 M Q hM hQ hR=>?_;have hE:=hH.callable;dsimp only[cd93,qm,ql,qf,qi,qb,qc,qp,qv,qN,qT,qF,qt]at hQ ⊢
   repeat' (first|refine zaa [0,1,2,3,4,5,6,7,9,10,11,34,43,45,46,47,48,58,59,60,61] fun K hK=>?_|refine AWp.block ?_|(refine hK.go ?_;clear hK K)|refine Cont.go (by assumption) ?_|(refine cnd2 rfl (fun h=>?_) (fun h=>?_)<;>(try first|exact h.elim|obtain rfl:(_:Bool)=true:=h|obtain rfl:(_:Bool)=false:=h)<;>first|(exfalso;omega)|skip)|((first|refine AWp.reg hE hM ?_|refine AWp.regd hE hM ?_|refine AWp.ret ?_|refine AWp.skip ?_|refine AWp.exit ?_|(refine pk2 (fun h=>?_) (fun h=>?_)<;>(try first|exact h.elim|obtain rfl:(_:Bool)=true:=h|obtain rfl:(_:Bool)=false:=h))|refine zab (fun h=>?_) ?_|refine zac hM (c1) ?_|(refine zau hM 4 ( c2) ?_ rfl ?_;(focus (simp -dsimp -implicitDefEqProofs (disch:=omega) only[go_sem,reduceIte,↓reduceIte,Nat.reduceEqDiff,Nat.reduceLT,Nat.reduceLeDiff,Nat.reduceAdd,Nat.reduceSub,Nat.reduceMul,Int.reduceToNat,Int.reduceLT,Int.reduceLE,Int.reduceEq,Int.reduceNeg,Int.reduceNe,reduceCtorEq,hfold,hlen,hsg,hov,hbd,hba,hsn]<;>fail)))|(refine hQ _ _ _ rfl ?_;clear hQ hR hE hM)|(refine hR _ _ (hQ _ _ _ rfl ?_);clear hQ hR hE hM)|(refine zaf ?_ ?_;focus first|omega|(refine zad ?_;(refine no_implicit_lambda% (st ?_);try with_reducible exact True.intro);done)))<;>try simp -dsimp -implicitDefEqProofs (disch:=omega) only[go_sem,reduceIte,↓reduceIte,Nat.reduceEqDiff,Nat.reduceLT,Nat.reduceLeDiff,Nat.reduceAdd,Nat.reduceSub,Nat.reduceMul,Int.reduceToNat,Int.reduceLT,Int.reduceLE,Int.reduceEq,Int.reduceNeg,Int.reduceNe,reduceCtorEq,hfold,hlen,hsg,hov,hbd,hba,hsn]))
   all_goals (refine hQ _ _ _ (ziT rfl rfl hlen hsg rfl rfl) ?_;simp only[zei,zbR,zdt,zeK,sn_b,hsn])
  ·cases a3
   ·refine zae (F:=cd93) (hH.has _ _ rfl) (Nat.le_of_ble_eq_true rfl) fun w0 M Q hM hQ hR=>?_;have hE:=hH.callable;dsimp only[cd93,qm,ql,qf,qi,qb,qc,qp,qv,qN,qT,qF,qt]at hQ ⊢
    repeat' (first|refine zaa [0,1,2,3,4,5,6,7,9,10,11,34,43,45,46,47,48,58,59,60,61] fun K hK=>?_|refine AWp.block ?_|(refine hK.go ?_;clear hK K)|refine Cont.go (by assumption) ?_|(refine cnd2 rfl (fun h=>?_) (fun h=>?_)<;>(try first|exact h.elim|obtain rfl:(_:Bool)=true:=h|obtain rfl:(_:Bool)=false:=h)<;>first|(exfalso;omega)|skip)|((first|refine AWp.reg hE hM ?_|refine AWp.regd hE hM ?_|refine AWp.ret ?_|refine AWp.skip ?_|refine AWp.exit ?_|(refine pk2 (fun h=>?_) (fun h=>?_)<;>(try first|exact h.elim|obtain rfl:(_:Bool)=true:=h|obtain rfl:(_:Bool)=false:=h))|refine zab (fun h=>?_) ?_|refine zac hM (c1) ?_|(refine zau hM 4 ( c2) ?_ rfl ?_;(focus (simp -dsimp -implicitDefEqProofs (disch:=omega) only[go_sem,reduceIte,↓reduceIte,Nat.reduceEqDiff,Nat.reduceLT,Nat.reduceLeDiff,Nat.reduceAdd,Nat.reduceSub,Nat.reduceMul,Int.reduceToNat,Int.reduceLT,Int.reduceLE,Int.reduceEq,Int.reduceNeg,Int.reduceNe,reduceCtorEq,hfold,hlen,hsg,hov,hbd,hba,hsn]<;>fail)))|refine zac hM (c3) ?_|(refine hQ _ _ _ rfl ?_;clear hQ hR hE hM)|(refine hR _ _ (hQ _ _ _ rfl ?_);clear hQ hR hE hM)|(refine zaf ?_ ?_;focus first|omega|(refine zad ?_;(refine no_implicit_lambda% (st ?_);try with_reducible exact True.intro);done)))<;>try simp -dsimp -implicitDefEqProofs (disch:=omega) only[go_sem,reduceIte,↓reduceIte,Nat.reduceEqDiff,Nat.reduceLT,Nat.reduceLeDiff,Nat.reduceAdd,Nat.reduceSub,Nat.reduceMul,Int.reduceToNat,Int.reduceLT,Int.reduceLE,Int.reduceEq,Int.reduceNeg,Int.reduceNe,reduceCtorEq,hfold,hlen,hsg,hov,hbd,hba,hsn]))
    all_goals (refine hQ _ _ _ (ziT rfl rfl hlen hsg rfl rfl) ?_;simp only[zei,zbR,zdt,zeK,sn_b,hsn])
   ·cases hb
theorem zmA {p:Pln} (hok:OkP p) {l:Lock} {r:Rte} (hr:r∈p.routes) (h:ze3 l r=true):0≤l.gone∧l.gone≤(r.path.length:Int)-1:=by
 have hl:=zeA hok hr
 simp only[ze3,zew,Bool.and_eq_true]at h
 obtain ⟨_,h⟩:=h
 repeat' split at h
 all_goals (simp at h;try omega)
theorem zeE {α β:Type} [Inhabited α] [Inhabited β] {q:α→β→Bool}:∀ {a:List α} {b:List β},zaK q a b=true→∀ {i:Nat},i<a.length→q (nth a i) (nth b i)=true
 |[],_,_,i,hi=>by simp at hi
 |x::xs,[],h,_,_=>by simp[zaK]at h
 |x::xs,y::ys,h,0,_=>by simp only[zaK,Bool.and_eq_true]at h;simpa [nth] using h.1
 |x::xs,y::ys,h,i+1,hi=>by
  simp only[zaK,Bool.and_eq_true]at h
  have:=zeE (q:=q) h.2 (i:=i) (by simpa using hi)
  simpa [nth] using this
theorem grip_ok (hH:HasAll P inv) (hI:HasIds P inv) (p:Pln) (hp:Sm p) (s:State) (hs:s.tracks.length≤1000∧s.switches.length≤1000∧s.locks.length≤1000) (ho:zbm p=true) (hb:zar p s=true):PC P inv 93 [.agg p.c,.agg s.c] (·=.tup [.agg (gc (zdL (zaT p) (zgj [] s.switches) 0 s.locks zcW zcW true).1 (zdL (zaT p) (zgj [] s.switches) 0 s.locks zcW zcW true).2.1 (.sl 4 ((zaT p).map Way.c))),.b (zdL (zaT p) (zgj [] s.switches) 0 s.locks zcW zcW true).2.2]):=by
 have hlr:=hp.rte
 simp only[zbm,Bool.and_eq_true]at ho
 have hok:=zg0 ho.1
 have c0:=all_pc hH hI p hp
 rw[zkj,ho.1,if_pos rfl,ho.2.1,if_pos rfl]at c0
 dsimp only at c0
 rw[show (p.routes.map fun r=>(zak p r).1)=zaT p from rfl]at c0
 simp only[zar,Bool.and_eq_true]at hb
 have c1:=eqfTrk hH (caps:=[]) s.tracks p.sections (fun x _ y _=>zlp hH x y) rfl (by omega)
 have c2:=eqfSwt hH (caps:=[.ip 1 [[.fn 110 []]] 0 0]) s.switches p.points (fun x _ y _=>zls hH x y) rfl (by omega)
 have c3:=eqfLck hH (caps:=[]) s.locks p.routes (fun x _ y hy=>zlM hH x y (by have:=zeA hok hy;omega)) rfl (by omega)
 rw[hb.1]at c1
 rw[hb.2.1]at c2
 rw[hb.2.2]at c3
 have hll:s.locks.length=p.routes.length:=zbM hb.2.2
 have hwl:(zaT p).length=p.routes.length:=by simp[zaT]
 have hway:∀ i,i<p.routes.length→nth (zaT p) i=(zak p (nth p.routes i)).1:=fun i hi=>nthm (fun r=>(zak p r).1) hi
 have hpath:∀ i,i<p.routes.length→(zak p (nth p.routes i)).1.path=(nth p.routes i).path∧(zak p (nth p.routes i)).1.over=(nth p.routes i).over:=fun i hi=>by
  have h1:=(List.all_eq_true.1 ho.2.1) _ (zal hi)
  have h2:=zcC (p:=p) (r:=nth p.routes i) (by simpa using h1)
  exact ⟨h2.1,h2.2.1⟩
 obtain ⟨ans,hans⟩:∃ ans,ans=zdL (zaT p) (zgj [] s.switches) 0 s.locks zcW zcW true:=⟨_,rfl⟩
 rw[←hans]
 obtain ⟨ws,hws⟩:∃ ws,ws=zaT p:=⟨_,rfl⟩
 rw[←hws]at c0 hwl hway hans ⊢
 obtain ⟨G,Z,hg⟩:=zkp
 rw[←hg.z]at hans
 rw[←hg.eq]
 have hfold:=hg.fold
 have hlen:=hg.len (.s0 4) hg.zl hg.zl
 have hlen2:=hg.len (.sl 4 (ws.map Way.c)) hg.zl hg.zl
 have hset:=hg.set (.s0 4) (.sl 4 (ws.map Way.c)) hg.zl hg.zl
 have hbd0:=hg.bd0 Z Z
 have hbd:=fun H A=>hg.bd H A (ws.map Way.c)
 have hba:=fun H A=>hg.ba H A (ws.map Way.c)
 refine zae (F:=cd93) (hH.has _ _ rfl) (Nat.le_of_ble_eq_true rfl) fun w0 M Q hM hQ hR=>?_;have hE:=hH.callable;dsimp only[cd93,qm,ql,qf,qi,qb,qc,qp,qv,qN,qT,qF,qt]at hQ ⊢
 repeat' (first|refine zaa [0,1,2,3,4,5,6,7,9,10,11,34,43,45,46,47,48,58,59,60,61] fun K hK=>?_|refine AWp.block ?_|(refine hK.go ?_;clear hK K)|refine Cont.go (by assumption) ?_|(refine cnd2 rfl (fun h=>?_) (fun h=>?_)<;>(try first|exact h.elim|obtain rfl:(_:Bool)=true:=h|obtain rfl:(_:Bool)=false:=h)<;>first|(exfalso;omega)|skip)|((first|refine AWp.reg hE hM ?_|refine AWp.regd hE hM ?_|refine AWp.ret ?_|refine AWp.skip ?_|refine AWp.exit ?_|(refine pk2 (fun h=>?_) (fun h=>?_)<;>(try first|exact h.elim|obtain rfl:(_:Bool)=true:=h|obtain rfl:(_:Bool)=false:=h))|refine zab (fun h=>?_) ?_|refine zac hM (c1) ?_|(refine zau hM 4 ( c2) ?_ rfl ?_;(focus (simp -dsimp -implicitDefEqProofs (disch:=omega) only[go_sem,reduceIte,↓reduceIte,Nat.reduceEqDiff,Nat.reduceLT,Nat.reduceLeDiff,Nat.reduceAdd,Nat.reduceSub,Nat.reduceMul,Int.reduceToNat,Int.reduceLT,Int.reduceLE,Int.reduceEq,Int.reduceNeg,Int.reduceNe,reduceCtorEq,hfold,hlen,hbd0,hbd,hba,hset,hlen2]<;>fail)))|refine zac hM (c3) ?_|refine zac hM (c0) ?_|(refine hQ _ _ _ rfl ?_;clear hQ hR hE hM)|(refine hR _ _ (hQ _ _ _ rfl ?_);clear hQ hR hE hM)|(refine zaf ?_ ?_;focus first|omega|(refine zad ?_;(refine no_implicit_lambda% (st ?_);try with_reducible exact True.intro);done)))<;>try simp -dsimp -implicitDefEqProofs (disch:=omega) only[go_sem,reduceIte,↓reduceIte,Nat.reduceEqDiff,Nat.reduceLT,Nat.reduceLeDiff,Nat.reduceAdd,Nat.reduceSub,Nat.reduceMul,Int.reduceToNat,Int.reduceLT,Int.reduceLE,Int.reduceEq,Int.reduceNeg,Int.reduceNe,reduceCtorEq,hfold,hlen,hbd0,hbd,hba,hset,hlen2]))
 refine zah (ι:=Nat×(List (Int×Int))) [3,4,5,7,45,46,47] (fun zz=>[(47,.n zz.1)]) (fun zz=>[(5,.imap zz.2)]) (fun zz=>zz.1≤s.switches.length∧(zgj zz.2 (s.switches.drop zz.1)=zgj [] s.switches)) (fun zz=>s.switches.length-zz.1) (0,([]:List (Int×Int))) ⟨Nat.zero_le _,(by first|rfl|assumption|omega|(simp;done)|(simp;omega)|grind)⟩ (by (try dsimp only);(refine no_implicit_lambda% (st ?_);try with_reducible exact True.intro)<;>first|omega|(simp;done)) (by (try dsimp only);(refine no_implicit_lambda% (st ?_);try with_reducible exact True.intro)<;>first|omega|(simp;done)) ?_;rintro ⟨k,C⟩ ⟨hk,hm⟩;(try dsimp only at hk hm ⊢);rcases Nat.lt_or_ge k s.switches.length with hlt|hge
 ·rw[zap hlt,zgj]at hm
  repeat' (first|refine zaa [0,1,2,3,4,5,6,7,9,10,11,34,43,45,46,47,48,58,59,60,61] fun K hK=>?_|refine AWp.block ?_|(refine hK.go ?_;clear hK K)|refine Cont.go (by assumption) ?_|(refine cnd2 rfl (fun h=>?_) (fun h=>?_)<;>(try first|exact h.elim|obtain rfl:(_:Bool)=true:=h|obtain rfl:(_:Bool)=false:=h)<;>first|(exfalso;omega)|skip)|((first|refine AWp.reg hE hM ?_|refine AWp.regd hE hM ?_|refine AWp.ret ?_|refine AWp.skip ?_|refine AWp.exit ?_|(refine pk2 (fun h=>?_) (fun h=>?_)<;>(try first|exact h.elim|obtain rfl:(_:Bool)=true:=h|obtain rfl:(_:Bool)=false:=h))|refine zab (fun h=>?_) ?_|(refine hQ _ _ _ rfl ?_;clear hQ hR hE hM)|(refine hR _ _ (hQ _ _ _ rfl ?_);clear hQ hR hE hM)|(refine zaf ?_ ?_;focus first|omega|(refine zad ?_;(refine no_implicit_lambda% (st ?_);try with_reducible exact True.intro);done)))<;>try simp -dsimp -implicitDefEqProofs (disch:=omega) only[go_sem,reduceIte,↓reduceIte,Nat.reduceEqDiff,Nat.reduceLT,Nat.reduceLeDiff,Nat.reduceAdd,Nat.reduceSub,Nat.reduceMul,Int.reduceToNat,Int.reduceLT,Int.reduceLE,Int.reduceEq,Int.reduceNeg,Int.reduceNe,reduceCtorEq,hbd]))
  refine ⟨(k+1,zkS C (nth s.switches k).id (nth s.switches k).call),by (try dsimp only);omega,⟨by (try dsimp only);omega,hm⟩, ?_⟩;(try dsimp only);(first|omega|(simp;done)|(simp;omega)|((refine no_implicit_lambda% (st ?_);try with_reducible exact True.intro);done)|(simp[List.map_set, *];done)|(simp[List.map_set, *];rfl)|((refine no_implicit_lambda% (st ?_);try with_reducible exact True.intro);simp[List.map_set, *];done)|((try (refine no_implicit_lambda% (st ?_);try with_reducible exact True.intro));(repeat' refine And.intro ?_ ?_)<;>first|omega|rfl|(simp;done)|(simp;omega)|(simp;rfl)|(simp[List.map_set, *];done)|(simp[List.map_set, *];rfl)))
 ·rw[List.drop_eq_nil_of_le hge,zgj]at hm
  rw[←hm]at hans
  clear hm
  repeat' (first|refine zaa [0,1,2,3,4,5,6,7,9,10,11,34,43,45,46,47,48,58,59,60,61] fun K hK=>?_|refine AWp.block ?_|(refine hK.go ?_;clear hK K)|refine Cont.go (by assumption) ?_|(refine cnd2 rfl (fun h=>?_) (fun h=>?_)<;>(try first|exact h.elim|obtain rfl:(_:Bool)=true:=h|obtain rfl:(_:Bool)=false:=h)<;>first|(exfalso;omega)|skip)|((first|refine AWp.reg hE hM ?_|refine AWp.regd hE hM ?_|refine AWp.ret ?_|refine AWp.skip ?_|refine AWp.exit ?_|(refine pk2 (fun h=>?_) (fun h=>?_)<;>(try first|exact h.elim|obtain rfl:(_:Bool)=true:=h|obtain rfl:(_:Bool)=false:=h))|refine zab (fun h=>?_) ?_|(refine hQ _ _ _ rfl ?_;clear hQ hR hE hM)|(refine hR _ _ (hQ _ _ _ rfl ?_);clear hQ hR hE hM)|(refine zaf ?_ ?_;focus first|omega|(refine zad ?_;(refine no_implicit_lambda% (st ?_);try with_reducible exact True.intro);done)))<;>try simp -dsimp -implicitDefEqProofs (disch:=omega) only[go_sem,reduceIte,↓reduceIte,Nat.reduceEqDiff,Nat.reduceLT,Nat.reduceLeDiff,Nat.reduceAdd,Nat.reduceSub,Nat.reduceMul,Int.reduceToNat,Int.reduceLT,Int.reduceLE,Int.reduceEq,Int.reduceNeg,Int.reduceNe,reduceCtorEq,hbd]))
  have hzl:Z.length=100∧Z.length=100:=⟨hg.zl,hg.zl⟩
  have hans0:zdL ws C 0 (s.locks.drop 0) Z Z true=ans:=by rw[List.drop_zero];exact hans.symm
  refine zah (ι:=Nat×(List Int)×(List Int)×Bool) [4,5,7,58,59,60] (fun zz=>[(60,.n zz.1)]) (fun zz=>[(2,.cells (G zz.2.1 zz.2.2.1 (.sl 4 (ws.map Way.c))) true),(3,.cells [.b zz.2.2.2] true)]) (fun zz=>zz.1≤s.locks.length∧(zz.2.1.length=100∧zz.2.2.1.length=100)∧(zdL ws C zz.1 (s.locks.drop zz.1) zz.2.1 zz.2.2.1 zz.2.2.2=ans)) (fun zz=>s.locks.length-zz.1) (0,Z,Z,true) ⟨Nat.zero_le _,(by first|rfl|assumption|omega|(simp;done)|(simp;omega)|grind),(by first|rfl|assumption|omega|(simp;done)|(simp;omega)|grind)⟩ (by (try dsimp only);(refine no_implicit_lambda% (st ?_);try with_reducible exact True.intro)<;>first|omega|(simp;done)) (by (try dsimp only);(refine no_implicit_lambda% (st ?_);try with_reducible exact True.intro)<;>first|omega|(simp;done)) ?_;rintro ⟨i,H,A,t⟩ ⟨hk,hx,hgo⟩;(try dsimp only at hk hx hgo ⊢);rcases Nat.lt_or_ge i s.locks.length with hlt|hge
  ·rw[zap (by assumption),zdL]at hgo
   have hir:i<p.routes.length:=by omega
   have hw:=hway i hir
   have hpa:=hpath i hir
   have hm:=zal hir
   have hls:=zeA hok hm
   have hse:=(zdZ hok hm).1
   have hwl2:=zcY hok hm
   have hgn:=zmA hok hm (zeE hb.2.2 (i:=i) (by omega))
   have hap:∀ a∈(nth ws i).asks,0≤a.pnt∧a.pnt≤99:=fun a ha=>by rw[hw]at ha;have:=zbK hok hm ha;omega
   have hse2:∀ x∈(nth ws i).path++(nth ws i).over,0≤x∧x≤99:=fun x hx=>by
    rw[hw,hpa.1,hpa.2]at hx
    obtain ⟨q,hq,rfl⟩:=hse x hx
    have:=zdF hok hq
    omega
   have hgn2:0≤(nth s.locks i).gone∧(nth s.locks i).gone≤(nth ws i).path.length:=by rw[hw,hpa.1];omega
   have hl1:(nth ws i).path.length≤1000:=by rw[hw];omega
   have hl2:(nth ws i).over.length≤1000:=by rw[hw];omega
   have hl3:(nth ws i).asks.length≤1000:=by rw[hw];omega
   have hget:=hg.get (.sl 4 (ws.map Way.c)) hx.1 hx.2
   have hln:=hg.len (.sl 4 (ws.map Way.c)) hx.1 hx.2
   have hh:=fun C=>held_ac3 hH hM G hg.eq p s ws C (nth s.locks i) (nth ws i) H A t hgn2 hl1 hl2 hse2 hx.1 hx.2
   have hH1:(zbw (nth s.locks i).id (zbL (nth ws i) (nth s.locks i)) H t).1.length=100:=by rw[ze8];exact hx.1
   have hiw:i<ws.length:=by omega
   revert hh hgo hH1
   generalize zbw (nth s.locks i).id (zbL (nth ws i) (nth s.locks i)) H t=HT
   intro hgo hh hH1
   have hget':=hg.get (.sl 4 (ws.map Way.c)) hH1 hx.2
   have hln':=hg.len (.sl 4 (ws.map Way.c)) hH1 hx.2
   have ha:=fun C=>asks_ac3 hH hM G hg.eq p s ws C (nth s.locks i) (nth ws i) HT.1 A HT.2 hl3 hap hH1 hx.2
   have hA1:∀ C,(zep (nth s.locks i) C (zch (nth ws i) (nth s.locks i)) A HT.2).1.length=100:=fun C=>by rw[zfk];exact hx.2
   repeat' (first|refine zaa [0,1,2,3,4,5,6,7,9,10,11,34,43,45,46,47,48,58,59,60,61] fun K hK=>?_|refine AWp.block ?_|(refine hK.go ?_;clear hK K)|refine Cont.go (by assumption) ?_|(refine cnd2 rfl (fun h=>?_) (fun h=>?_)<;>(try first|exact h.elim|obtain rfl:(_:Bool)=true:=h|obtain rfl:(_:Bool)=false:=h)<;>first|(exfalso;omega)|skip)|((first|refine AWp.reg hE hM ?_|refine AWp.regd hE hM ?_|refine AWp.ret ?_|refine AWp.skip ?_|refine AWp.exit ?_|(refine pk2 (fun h=>?_) (fun h=>?_)<;>(try first|exact h.elim|obtain rfl:(_:Bool)=true:=h|obtain rfl:(_:Bool)=false:=h))|refine zab (fun h=>?_) ?_|(refine zef 30 (hh C) (by omega) (by first|omega|(simp -dsimp -implicitDefEqProofs (disch:=omega) only[go_sem,reduceIte,↓reduceIte,Nat.reduceEqDiff,Nat.reduceLT,Nat.reduceLeDiff,Nat.reduceAdd,Nat.reduceSub,Nat.reduceMul,Int.reduceToNat,Int.reduceLT,Int.reduceLE,Int.reduceEq,Int.reduceNeg,Int.reduceNe,reduceCtorEq,hbd,hget,hln,hget',hln',stGg];done)|(simp -dsimp -implicitDefEqProofs (disch:=omega) only[go_sem,reduceIte,↓reduceIte,Nat.reduceEqDiff,Nat.reduceLT,Nat.reduceLeDiff,Nat.reduceAdd,Nat.reduceSub,Nat.reduceMul,Int.reduceToNat,Int.reduceLT,Int.reduceLE,Int.reduceEq,Int.reduceNeg,Int.reduceNe,reduceCtorEq,hbd,hget,hln,hget',hln',stGg];omega)) ?_)|(refine zef 30 (ha C) (by omega) (by first|omega|(simp -dsimp -implicitDefEqProofs (disch:=omega) only[go_sem,reduceIte,↓reduceIte,Nat.reduceEqDiff,Nat.reduceLT,Nat.reduceLeDiff,Nat.reduceAdd,Nat.reduceSub,Nat.reduceMul,Int.reduceToNat,Int.reduceLT,Int.reduceLE,Int.reduceEq,Int.reduceNeg,Int.reduceNe,reduceCtorEq,hbd,hget,hln,hget',hln',stGg];done)|(simp -dsimp -implicitDefEqProofs (disch:=omega) only[go_sem,reduceIte,↓reduceIte,Nat.reduceEqDiff,Nat.reduceLT,Nat.reduceLeDiff,Nat.reduceAdd,Nat.reduceSub,Nat.reduceMul,Int.reduceToNat,Int.reduceLT,Int.reduceLE,Int.reduceEq,Int.reduceNeg,Int.reduceNe,reduceCtorEq,hbd,hget,hln,hget',hln',stGg];omega)) ?_)|(refine hQ _ _ _ rfl ?_;clear hQ hR hE hM)|(refine hR _ _ (hQ _ _ _ rfl ?_);clear hQ hR hE hM)|(refine zaf ?_ ?_;focus first|omega|(refine zad ?_;(refine no_implicit_lambda% (st ?_);try with_reducible exact True.intro);done)))<;>try simp -dsimp -implicitDefEqProofs (disch:=omega) only[go_sem,reduceIte,↓reduceIte,Nat.reduceEqDiff,Nat.reduceLT,Nat.reduceLeDiff,Nat.reduceAdd,Nat.reduceSub,Nat.reduceMul,Int.reduceToNat,Int.reduceLT,Int.reduceLE,Int.reduceEq,Int.reduceNeg,Int.reduceNe,reduceCtorEq,hbd,hget,hln,hget',hln',stGg]))
   exact ⟨(i+1,HT.1,_,_),by dsimp only;omega,⟨by dsimp only;omega,⟨hH1,hA1 _⟩,hgo⟩,by dsimp only;omega,rfl,rfl⟩
  ·rw[List.drop_eq_nil_of_le (by assumption),zdL]at hgo
   have hln:=hg.len (.sl 4 (ws.map Way.c)) hx.1 hx.2
   have hsg:=hg.sg (.sl 4 (ws.map Way.c)) hx.1 hx.2
   have hov:=hg.ov (.sl 4 (ws.map Way.c)) (.sl 4 (ws.map Way.c)) hx.1 hx.2 hx.1 hx.2
   have hba:=hba H A
   have hsn:=hg.sn H A (ws.map Way.c)
   repeat' (first|refine zaa [0,1,2,3,4,5,6,7,9,10,11,34,43,45,46,47,48,58,59,60,61] fun K hK=>?_|refine AWp.block ?_|(refine hK.go ?_;clear hK K)|refine Cont.go (by assumption) ?_|(refine cnd2 rfl (fun h=>?_) (fun h=>?_)<;>(try first|exact h.elim|obtain rfl:(_:Bool)=true:=h|obtain rfl:(_:Bool)=false:=h)<;>first|(exfalso;omega)|skip)|((first|refine AWp.reg hE hM ?_|refine AWp.regd hE hM ?_|refine AWp.ret ?_|refine AWp.skip ?_|refine AWp.exit ?_|(refine pk2 (fun h=>?_) (fun h=>?_)<;>(try first|exact h.elim|obtain rfl:(_:Bool)=true:=h|obtain rfl:(_:Bool)=false:=h))|refine zab (fun h=>?_) ?_|(refine hQ _ _ _ rfl ?_;clear hQ hR hE hM)|(refine hR _ _ (hQ _ _ _ rfl ?_);clear hQ hR hE hM)|(refine zaf ?_ ?_;focus first|omega|(refine zad ?_;(refine no_implicit_lambda% (st ?_);try with_reducible exact True.intro);done)))<;>try simp -dsimp -implicitDefEqProofs (disch:=omega) only[go_sem,reduceIte,↓reduceIte,Nat.reduceEqDiff,Nat.reduceLT,Nat.reduceLeDiff,Nat.reduceAdd,Nat.reduceSub,Nat.reduceMul,Int.reduceToNat,Int.reduceLT,Int.reduceLE,Int.reduceEq,Int.reduceNeg,Int.reduceNe,reduceCtorEq,hbd,hln,hsg,hov,hba]))
   refine hQ _ _ _ (ziT rfl rfl hln hsg rfl rfl) ?_
   simp only[zei,zbR,zdt,zeK,sn_b,hsn]
   rw[←hgo]
end Go.Lev
namespace Go.Lev
open Go.Eng
set_option maxRecDepth 10000
set_option maxHeartbeats 4000000
variable {P:Program} {inv:Nat→Option Nat} {w0:World} {M:Nat→Prop}
def zaw (p:Pln) (s:State):List Int×List Int×Bool:=zdL (zaT p) (zgj [] s.switches) 0 s.locks zcW zcW true
theorem zhe (ws:List WayR) (C:List (Int×Int)):∀ (l:List Lock) (i:Nat) (H A:List Int) (t:Bool),(zdL ws C i l H A t).1.length=H.length∧(zdL ws C i l H A t).2.1.length=A.length
 |[],_,_,_,_=>⟨rfl,rfl⟩
 |l::r,i,H,A,t=>by
  rw[zdL]
  have:=zhe ws C r (i+1) (zbw l.id (zbL (nth ws i) l) H t).1 (zep l C (zch (nth ws i) l) A (zbw l.id (zbL (nth ws i) l) H t).2).1 (zep l C (zch (nth ws i) l) A (zbw l.id (zbL (nth ws i) l) H t).2).2
  rw[ze8,zfk]at this
  exact this
def zan (p:Pln) (s:State):Int:=if zbm p=true then (if zar p s=true∧(zaw p s).2.2=true then 0 else 8) else 100
structure GripR where
 hold:List Int
 ask:List Int
 ways:List WayR
 err:Int
def ofR (p:Pln) (s:State):GripR:=if zan p s=0 then ⟨(zaw p s).1,(zaw p s).2.1,zaT p,0⟩ else ⟨zcW,zcW,[],zan p s⟩
theorem zg3 (p:Pln) (s:State):(ofR p s).hold.length=100∧(ofR p s).ask.length=100:=by
 unfold ofR
 split
 ·have:=zhe (zaT p) (zgj [] s.switches) s.locks 0 zcW zcW true
  exact ⟨this.1.trans zbk,this.2.trans zbk⟩
 ·exact ⟨zbk,zbk⟩
theorem ziE (p:Pln) (s:State):(ofR p s).err=zan p s:=by
 unfold ofR
 split
 ·rename_i h;exact h.symm
 ·rfl
def SmS (s:State):Prop:=s.tracks.length≤1000∧s.switches.length≤1000∧s.locks.length≤1000
theorem ziS {φ:AF} {σ:AS} {t u l:Nat} {g:List AV} {e:AV} {r:Bool} {n:Int} (h1:zbh φ t=.ptr l 201 0) (h2:zaF σ l=some (.cells g r)) (h3:g.length=201) (hs:List.take 201 g=g) (h4:zbh φ u=e) (h5:e=.n n):zeg φ σ [.cell t (some 201),.tmp u]=some (.tup [.agg g,.n n]):=by
 have h:zcJ g 0 (some 201)=some (.agg g):=by
  rw[al_s,if_pos (by omega),seg,List.drop_zero,hs]
 subst h5
 simp only[zeg,zhB,ares,h1,h4,zcK,h2,h,h3,if_true]
theorem of_pc (hH:HasAll P inv) (hI:HasIds P inv) (p:Pln) (hp:Sm p) (s:State) (hs:SmS s):PC P inv 79 [.agg p.c,.agg s.c] (·=.tup [.agg (gc (ofR p s).hold (ofR p s).ask (.sl 4 ((ofR p s).ways.map Way.c))),.n (ofR p s).err]):=by
 have c0:=zdg hH hI p hp
 have hRl:=zg3 p s
 have c1:zbm p=true→PC P inv 93 [.agg p.c,.agg s.c] (·=.tup [.agg (gc (if zar p s=true then (zaw p s).1 else zcW) (if zar p s=true then (zaw p s).2.1 else zcW) (.sl 4 ((if zar p s=true then zaT p else []).map Way.c))),.b (zar p s&&(zaw p s).2.2)]):=by
  intro ho
  cases hb:zar p s with
  |true=>simpa [zaw] using grip_ok hH hI p hp s hs ho hb
  |false =>
   simp only[zbm,Bool.and_eq_true]at ho
   simpa using grip_bad hH hI p hp s hs (zg0 ho.1) hb
 have hgl:=zhe (zaT p) (zgj [] s.switches) s.locks 0 zcW zcW true
 have hl1:(if zar p s=true then (zaw p s).1 else zcW).length=100:=by
  split
  ·exact hgl.1.trans zbk
  ·exact zbk
 have hl2:(if zar p s=true then (zaw p s).2.1 else zcW).length=100:=by
  split
  ·exact hgl.2.trans zbk
  ·exact zbk
 have hR:ofR p s=if zbm p=true then (if (zar p s&&(zaw p s).2.2)=true then ⟨(if zar p s=true then (zaw p s).1 else zcW),(if zar p s=true then (zaw p s).2.1 else zcW),(if zar p s=true then zaT p else []),0⟩ else ⟨zcW,zcW,[],8⟩) else ⟨zcW,zcW,[],100⟩:=by
  unfold ofR zan
  cases zbm p<;>cases zar p s<;>cases (zaw p s).2.2<;>rfl
 clear hgl
 unfold zbt at c0
 revert hR c1 hl1 hl2 c0 hRl
 generalize ofR p s=R
 generalize (if zar p s=true then (zaw p s).1 else zcW)=H
 generalize (if zar p s=true then (zaw p s).2.1 else zcW)=A
 generalize (if zar p s=true then zaT p else [])=ws
 generalize (zar p s&&(zaw p s).2.2)=t
 generalize zbm p=o
 obtain ⟨G,Z,hg⟩:=zkp
 rw[←hg.eq,←hg.z]
 intro c0 hRl c1 hl1 hl2 hR
 have hfold:=hg.fold
 have hlen0:=hg.len (.s0 4) hg.zl hg.zl
 have hlen:=hg.len (.sl 4 (ws.map Way.c)) hl1 hl2
 have hsg0:=hg.sg (.s0 4) hg.zl hg.zl
 have hsg:=hg.sg (.sl 4 (ws.map Way.c)) hl1 hl2
 have hov0:=hg.ov (.s0 4) (.s0 4) hg.zl hg.zl hg.zl hg.zl
 have hov:=hg.ov (.s0 4) (.sl 4 (ws.map Way.c)) hg.zl hg.zl hl1 hl2
 have hbd0:=hg.bd0 Z Z
 have hba0:=hg.ba0 Z Z
 have hbd:=hg.bd H A (ws.map Way.c)
 have hba:=hg.ba H A (ws.map Way.c)
 have hsn0:=hg.sn0 Z Z
 have hsn:=hg.sn H A (ws.map Way.c)
 cases o with
 |false =>
  rw[if_neg (by simp)]at hR c0
  subst hR
  refine zae (F:=cd79) (hH.has _ _ rfl) (Nat.le_of_ble_eq_true rfl) fun w0 M Q hM hQ hR=>?_;have hE:=hH.callable;dsimp only[cd79,qm,ql,qf,qi,qb,qc,qp,qv,qN,qT,qF,qt]at hQ ⊢
  repeat' (first|refine zaa [0,1,2,3,4,5,6,7,8,12,22] fun K hK=>?_|refine AWp.block ?_|(refine hK.go ?_;clear hK K)|refine Cont.go (by assumption) ?_|(refine cnd2 rfl (fun h=>?_) (fun h=>?_)<;>(try first|exact h.elim|obtain rfl:(_:Bool)=true:=h|obtain rfl:(_:Bool)=false:=h)<;>first|(exfalso;omega)|skip)|((first|refine AWp.reg hE hM ?_|refine AWp.regd hE hM ?_|refine AWp.ret ?_|refine AWp.skip ?_|refine AWp.exit ?_|(refine pk2 (fun h=>?_) (fun h=>?_)<;>(try first|exact h.elim|obtain rfl:(_:Bool)=true:=h|obtain rfl:(_:Bool)=false:=h))|refine zab (fun h=>?_) ?_|refine zac hM (c0) ?_|(refine hQ _ _ _ rfl ?_;clear hQ hR hE hM)|(refine hR _ _ (hQ _ _ _ rfl ?_);clear hQ hR hE hM)|(refine zaf ?_ ?_;focus first|omega|(refine zad ?_;(refine no_implicit_lambda% (st ?_);try with_reducible exact True.intro);done)))<;>try simp -dsimp -implicitDefEqProofs (disch:=omega) only[go_sem,reduceIte,↓reduceIte,Nat.reduceEqDiff,Nat.reduceLT,Nat.reduceLeDiff,Nat.reduceAdd,Nat.reduceSub,Nat.reduceMul,Int.reduceToNat,Int.reduceLT,Int.reduceLE,Int.reduceEq,Int.reduceNeg,Int.reduceNe,reduceCtorEq,hfold,hlen0,hsg0,hov0,hbd0,hba0]))
  all_goals first|(exfalso;contradiction)|skip
  all_goals (refine hQ _ _ _ (ziS rfl rfl hlen0 hsg0 rfl rfl) ?_;simp only[zei,zbR,zdt,zeK,sn_i,hsn0];rfl)
 |true =>
  rw[if_pos rfl]at hR c0
  have c1:=c1 rfl
  cases t with
  |false =>
   rw[if_neg (by simp)]at hR
   subst hR
   refine zae (F:=cd79) (hH.has _ _ rfl) (Nat.le_of_ble_eq_true rfl) fun w0 M Q hM hQ hR=>?_;have hE:=hH.callable;dsimp only[cd79,qm,ql,qf,qi,qb,qc,qp,qv,qN,qT,qF,qt]at hQ ⊢
   repeat' (first|refine zaa [0,1,2,3,4,5,6,7,8,12,22] fun K hK=>?_|refine AWp.block ?_|(refine hK.go ?_;clear hK K)|refine Cont.go (by assumption) ?_|(refine cnd2 rfl (fun h=>?_) (fun h=>?_)<;>(try first|exact h.elim|obtain rfl:(_:Bool)=true:=h|obtain rfl:(_:Bool)=false:=h)<;>first|(exfalso;omega)|skip)|((first|refine AWp.reg hE hM ?_|refine AWp.regd hE hM ?_|refine AWp.ret ?_|refine AWp.skip ?_|refine AWp.exit ?_|(refine pk2 (fun h=>?_) (fun h=>?_)<;>(try first|exact h.elim|obtain rfl:(_:Bool)=true:=h|obtain rfl:(_:Bool)=false:=h))|refine zab (fun h=>?_) ?_|refine zac hM (c0) ?_|refine zac hM (c1) ?_|(refine hQ _ _ _ rfl ?_;clear hQ hR hE hM)|(refine hR _ _ (hQ _ _ _ rfl ?_);clear hQ hR hE hM)|(refine zaf ?_ ?_;focus first|omega|(refine zad ?_;(refine no_implicit_lambda% (st ?_);try with_reducible exact True.intro);done)))<;>try simp -dsimp -implicitDefEqProofs (disch:=omega) only[go_sem,reduceIte,↓reduceIte,Nat.reduceEqDiff,Nat.reduceLT,Nat.reduceLeDiff,Nat.reduceAdd,Nat.reduceSub,Nat.reduceMul,Int.reduceToNat,Int.reduceLT,Int.reduceLE,Int.reduceEq,Int.reduceNeg,Int.reduceNe,reduceCtorEq,hfold,hlen0,hsg0,hov0,hbd0,hba0,hlen,hov,hbd,hba]))
   all_goals first|(exfalso;contradiction)|skip
   all_goals (refine hQ _ _ _ (ziS rfl rfl hlen0 hsg0 rfl rfl) ?_;simp only[zei,zbR,zdt,zeK,sn_i,hsn0];rfl)
  |true =>
   rw[if_pos rfl]at hR
   subst hR
   refine zae (F:=cd79) (hH.has _ _ rfl) (Nat.le_of_ble_eq_true rfl) fun w0 M Q hM hQ hR=>?_;have hE:=hH.callable;dsimp only[cd79,qm,ql,qf,qi,qb,qc,qp,qv,qN,qT,qF,qt]at hQ ⊢
   repeat' (first|refine zaa [0,1,2,3,4,5,6,7,8,12,22] fun K hK=>?_|refine AWp.block ?_|(refine hK.go ?_;clear hK K)|refine Cont.go (by assumption) ?_|(refine cnd2 rfl (fun h=>?_) (fun h=>?_)<;>(try first|exact h.elim|obtain rfl:(_:Bool)=true:=h|obtain rfl:(_:Bool)=false:=h)<;>first|(exfalso;omega)|skip)|((first|refine AWp.reg hE hM ?_|refine AWp.regd hE hM ?_|refine AWp.ret ?_|refine AWp.skip ?_|refine AWp.exit ?_|(refine pk2 (fun h=>?_) (fun h=>?_)<;>(try first|exact h.elim|obtain rfl:(_:Bool)=true:=h|obtain rfl:(_:Bool)=false:=h))|refine zab (fun h=>?_) ?_|refine zac hM (c0) ?_|refine zac hM (c1) ?_|(refine hQ _ _ _ rfl ?_;clear hQ hR hE hM)|(refine hR _ _ (hQ _ _ _ rfl ?_);clear hQ hR hE hM)|(refine zaf ?_ ?_;focus first|omega|(refine zad ?_;(refine no_implicit_lambda% (st ?_);try with_reducible exact True.intro);done)))<;>try simp -dsimp -implicitDefEqProofs (disch:=omega) only[go_sem,reduceIte,↓reduceIte,Nat.reduceEqDiff,Nat.reduceLT,Nat.reduceLeDiff,Nat.reduceAdd,Nat.reduceSub,Nat.reduceMul,Int.reduceToNat,Int.reduceLT,Int.reduceLE,Int.reduceEq,Int.reduceNeg,Int.reduceNe,reduceCtorEq,hfold,hlen0,hsg0,hov0,hbd0,hba0,hlen,hov,hbd,hba,hsg]))
   all_goals first|(exfalso;contradiction)|skip
   all_goals (refine hQ _ _ _ (ziS rfl rfl hlen hsg rfl rfl) ?_;simp only[zei,zbR,zdt,zeK,sn_i,hsn])
end Go.Lev
namespace Go.Lev
open Go.Eng
set_option maxRecDepth 10000
set_option maxHeartbeats 4000000
variable {P:Program} {inv:Nat→Option Nat} {w0:World} {M:Nat→Prop}
theorem zb5 (hH:HasAll P inv) (hI:HasIds P inv) (p:Pln) (hp:Sm p) (s:State) (hs:SmS s):PC P inv 69 [.agg p.c,.agg s.c] (·=.n (zan p s)):=by
 have c0:=of_pc hH hI p hp s hs
 have hRl:=zg3 p s
 have hRe:=ziE p s
 rw[←hRe]
 revert c0 hRl
 generalize ofR p s=R
 obtain ⟨G,Z,hg⟩:=zkp
 rw[←hg.eq]
 intro c0 hRl
 have hfold:=hg.fold
 have hlen0:=hg.len (.s0 4) hg.zl hg.zl
 have hlen:=hg.len (.sl 4 (R.ways.map Way.c)) hRl.1 hRl.2
 have hov:=hg.ov (.s0 4) (.sl 4 (R.ways.map Way.c)) hg.zl hg.zl hRl.1 hRl.2
 have hbd0:=hg.bd0 Z Z
 have hbd:=hg.bd R.hold R.ask (R.ways.map Way.c)
 have hba:=hg.ba R.hold R.ask (R.ways.map Way.c)
 refine zae (F:=cd69) (hH.has _ _ rfl) (Nat.le_of_ble_eq_true rfl) fun w0 M Q hM hQ hR=>?_;have hE:=hH.callable;dsimp only[cd69,qm,ql,qf,qi,qb,qc,qp,qv,qN,qT,qF,qt]at hQ ⊢
 repeat' (first|refine zaa [0,1,2,3,4,6] fun K hK=>?_|refine AWp.block ?_|(refine hK.go ?_;clear hK K)|refine Cont.go (by assumption) ?_|(refine cnd2 rfl (fun h=>?_) (fun h=>?_)<;>(try first|exact h.elim|obtain rfl:(_:Bool)=true:=h|obtain rfl:(_:Bool)=false:=h)<;>first|(exfalso;omega)|skip)|((first|refine AWp.reg hE hM ?_|refine AWp.regd hE hM ?_|refine AWp.ret ?_|refine AWp.skip ?_|refine AWp.exit ?_|(refine pk2 (fun h=>?_) (fun h=>?_)<;>(try first|exact h.elim|obtain rfl:(_:Bool)=true:=h|obtain rfl:(_:Bool)=false:=h))|refine zab (fun h=>?_) ?_|refine zac hM (c0) ?_|(refine hQ _ _ _ rfl ?_;clear hQ hR hE hM)|(refine hR _ _ (hQ _ _ _ rfl ?_);clear hQ hR hE hM)|(refine zaf ?_ ?_;focus first|omega|(refine zad ?_;(refine no_implicit_lambda% (st ?_);try with_reducible exact True.intro);done)))<;>try simp -dsimp -implicitDefEqProofs (disch:=omega) only[go_sem,reduceIte,↓reduceIte,Nat.reduceEqDiff,Nat.reduceLT,Nat.reduceLeDiff,Nat.reduceAdd,Nat.reduceSub,Nat.reduceMul,Int.reduceToNat,Int.reduceLT,Int.reduceLE,Int.reduceEq,Int.reduceNeg,Int.reduceNe,reduceCtorEq,hfold,hlen0,hlen,hov,hbd0,hbd,hba]))
theorem zkZ {α:Type} (q:α→Bool) (l:List α):decide (0≤zcc q 0 l)=l.any q:=by
 have:∀ (l:List α) (k:Int),0≤k→(decide (0≤zcc q k l)=l.any q):=by
  intro l
  induction l with
  |nil=>intro k _;simp[zcc]
  |cons x r ih =>
   intro k hk
   rw[zcc,List.any_cons]
   cases h:q x with
   |true=>simp[hk]
   |false=>simpa using ih (k+1) (by omega)
 exact this l 0 (Int.le_refl _)
theorem hasSec (hH:HasAll P inv) {jc:Nat} {caps:List AV} {q:Section→Bool} (l:List Section) (hc:∀ x∈l,PC P inv jc ([.agg x.c]++caps) (·=.b (q x))) (hl:l.length≤1000000000):PC P inv 80 [.sl 3 (l.map Section.c),.fn jc caps] (·=.b (l.any q)):=by
 have c1:=zhb hH l hc hl
 have e:=zkZ q l
 refine zae (F:=cd80) (hH.has _ _ rfl) (Nat.le_of_ble_eq_true rfl) fun w0 M Q hM hQ hR=>?_;have hE:=hH.callable;dsimp only[cd80,qm,ql,qf,qi,qb,qc,qp,qv,qN,qT,qF,qt]at hQ ⊢
 repeat' (first|refine zaa [0,1,4] fun K hK=>?_|refine AWp.block ?_|(refine hK.go ?_;clear hK K)|refine Cont.go (by assumption) ?_|(refine cnd2 rfl (fun h=>?_) (fun h=>?_)<;>(try first|exact h.elim|obtain rfl:(_:Bool)=true:=h|obtain rfl:(_:Bool)=false:=h)<;>first|(exfalso;omega)|skip)|((first|refine AWp.reg hE hM ?_|refine AWp.regd hE hM ?_|refine AWp.ret ?_|refine AWp.skip ?_|refine AWp.exit ?_|(refine pk2 (fun h=>?_) (fun h=>?_)<;>(try first|exact h.elim|obtain rfl:(_:Bool)=true:=h|obtain rfl:(_:Bool)=false:=h))|refine zab (fun h=>?_) ?_|refine zac hM (c1) ?_|(refine hQ _ _ _ rfl ?_;clear hQ hR hE hM)|(refine hR _ _ (hQ _ _ _ rfl ?_);clear hQ hR hE hM)|(refine zaf ?_ ?_;focus first|omega|(refine zad ?_;(refine no_implicit_lambda% (st ?_);try with_reducible exact True.intro);done)))<;>try simp -dsimp -implicitDefEqProofs (disch:=omega) only[go_sem,reduceIte,↓reduceIte,Nat.reduceEqDiff,Nat.reduceLT,Nat.reduceLeDiff,Nat.reduceAdd,Nat.reduceSub,Nat.reduceMul,Int.reduceToNat,Int.reduceLT,Int.reduceLE,Int.reduceEq,Int.reduceNeg,Int.reduceNe,reduceCtorEq,e]))
theorem hasPnt (hH:HasAll P inv) {jc:Nat} {caps:List AV} {q:Pnt→Bool} (l:List Pnt) (hc:∀ x∈l,PC P inv jc ([.agg x.c]++caps) (·=.b (q x))) (hl:l.length≤1000000000):PC P inv 91 [.sl 2 (l.map Pnt.c),.fn jc caps] (·=.b (l.any q)):=by
 have c1:=zhc hH l hc hl
 have e:=zkZ q l
 refine zae (F:=cd91) (hH.has _ _ rfl) (Nat.le_of_ble_eq_true rfl) fun w0 M Q hM hQ hR=>?_;have hE:=hH.callable;dsimp only[cd91,qm,ql,qf,qi,qb,qc,qp,qv,qN,qT,qF,qt]at hQ ⊢
 repeat' (first|refine zaa [0,1,4] fun K hK=>?_|refine AWp.block ?_|(refine hK.go ?_;clear hK K)|refine Cont.go (by assumption) ?_|(refine cnd2 rfl (fun h=>?_) (fun h=>?_)<;>(try first|exact h.elim|obtain rfl:(_:Bool)=true:=h|obtain rfl:(_:Bool)=false:=h)<;>first|(exfalso;omega)|skip)|((first|refine AWp.reg hE hM ?_|refine AWp.regd hE hM ?_|refine AWp.ret ?_|refine AWp.skip ?_|refine AWp.exit ?_|(refine pk2 (fun h=>?_) (fun h=>?_)<;>(try first|exact h.elim|obtain rfl:(_:Bool)=true:=h|obtain rfl:(_:Bool)=false:=h))|refine zab (fun h=>?_) ?_|refine zac hM (c1) ?_|(refine hQ _ _ _ rfl ?_;clear hQ hR hE hM)|(refine hR _ _ (hQ _ _ _ rfl ?_);clear hQ hR hE hM)|(refine zaf ?_ ?_;focus first|omega|(refine zad ?_;(refine no_implicit_lambda% (st ?_);try with_reducible exact True.intro);done)))<;>try simp -dsimp -implicitDefEqProofs (disch:=omega) only[go_sem,reduceIte,↓reduceIte,Nat.reduceEqDiff,Nat.reduceLT,Nat.reduceLeDiff,Nat.reduceAdd,Nat.reduceSub,Nat.reduceMul,Int.reduceToNat,Int.reduceLT,Int.reduceLE,Int.reduceEq,Int.reduceNeg,Int.reduceNe,reduceCtorEq,e]))
theorem isSec81 (hH:HasAll P inv) (n:Int) (x:Section):PC P inv 81 ([.agg x.c]++[.ip 1 [[.n n]] 0 0]) (·=.b (decide (x.id=n))):=by
 refine zae (F:=cd81) (hH.has _ _ rfl) (Nat.le_of_ble_eq_true rfl) fun w0 M Q hM hQ hR=>?_;have hE:=hH.callable;dsimp only[cd81,qm,ql,qf,qi,qb,qc,qp,qv,qN,qT,qF,qt]at hQ ⊢
 repeat' (first|refine zaa [0,1,2,3] fun K hK=>?_|refine AWp.block ?_|(refine hK.go ?_;clear hK K)|refine Cont.go (by assumption) ?_|(refine cnd2 rfl (fun h=>?_) (fun h=>?_)<;>(try first|exact h.elim|obtain rfl:(_:Bool)=true:=h|obtain rfl:(_:Bool)=false:=h)<;>first|(exfalso;omega)|skip)|((first|refine AWp.reg hE hM ?_|refine AWp.regd hE hM ?_|refine AWp.ret ?_|refine AWp.skip ?_|refine AWp.exit ?_|(refine pk2 (fun h=>?_) (fun h=>?_)<;>(try first|exact h.elim|obtain rfl:(_:Bool)=true:=h|obtain rfl:(_:Bool)=false:=h))|refine zab (fun h=>?_) ?_|(refine hQ _ _ _ rfl ?_;clear hQ hR hE hM)|(refine hR _ _ (hQ _ _ _ rfl ?_);clear hQ hR hE hM)|(refine zaf ?_ ?_;focus first|omega|(refine zad ?_;(refine no_implicit_lambda% (st ?_);try with_reducible exact True.intro);done)))<;>try (refine no_implicit_lambda% (st ?_);try with_reducible exact True.intro)))
theorem isPnt92 (hH:HasAll P inv) (n:Int) (x:Pnt):PC P inv 92 ([.agg x.c]++[.ip 1 [[.n n]] 0 0]) (·=.b (decide (x.id=n))):=by
 refine zae (F:=cd92) (hH.has _ _ rfl) (Nat.le_of_ble_eq_true rfl) fun w0 M Q hM hQ hR=>?_;have hE:=hH.callable;dsimp only[cd92,qm,ql,qf,qi,qb,qc,qp,qv,qN,qT,qF,qt]at hQ ⊢
 repeat' (first|refine zaa [0,1,2,3] fun K hK=>?_|refine AWp.block ?_|(refine hK.go ?_;clear hK K)|refine Cont.go (by assumption) ?_|(refine cnd2 rfl (fun h=>?_) (fun h=>?_)<;>(try first|exact h.elim|obtain rfl:(_:Bool)=true:=h|obtain rfl:(_:Bool)=false:=h)<;>first|(exfalso;omega)|skip)|((first|refine AWp.reg hE hM ?_|refine AWp.regd hE hM ?_|refine AWp.ret ?_|refine AWp.skip ?_|refine AWp.exit ?_|(refine pk2 (fun h=>?_) (fun h=>?_)<;>(try first|exact h.elim|obtain rfl:(_:Bool)=true:=h|obtain rfl:(_:Bool)=false:=h))|refine zab (fun h=>?_) ?_|(refine hQ _ _ _ rfl ?_;clear hQ hR hE hM)|(refine hR _ _ (hQ _ _ _ rfl ?_);clear hQ hR hE hM)|(refine zaf ?_ ?_;focus first|omega|(refine zad ?_;(refine no_implicit_lambda% (st ?_);try with_reducible exact True.intro);done)))<;>try (refine no_implicit_lambda% (st ?_);try with_reducible exact True.intro)))
def zjN (p:Pln) (n:Int):Bool:=p.sections.any fun x=>decide (x.id=n)
def zcx (p:Pln) (n:Int):Bool:=p.points.any fun x=>decide (x.id=n)
def zhd (p:Pln) (s:State) (n:Int):Int×Int:=if zan p s=0 then (if zjN p n=true then (nth (zaw p s).1 n.toNat,0) else (0,6)) else (0,zan p s)
def zcI (p:Pln) (s:State) (n:Int):Int×Int:=if zan p s=0 then (if zcx p n=true then (nth (zaw p s).2.1 n.toNat,0) else (0,6)) else (0,zan p s)
theorem zaA {p:Pln} {s:State} (h:zan p s=0):OkP p:=by
 unfold zan at h
 split at h
 ·rename_i ho
  simp only[zbm,Bool.and_eq_true]at ho
  exact zg0 ho.1
 ·cases h
theorem zkW {p:Pln} (hok:OkP p) {n:Int} (h:zjN p n=true):0≤n∧n<100:=by
 obtain ⟨x,hx,e⟩:=List.any_eq_true.1 h
 have:=zdF hok hx
 have:x.id=n:=by simpa using e
 omega
theorem znN {p:Pln} (hok:OkP p) {x:Pnt} (hx:x∈p.points):1≤x.id∧x.id≤99:=by
 have hp:=hok.pts
 simp only[points,Bool.and_eq_true]at hp
 exact ((zeT _ _).1 hp.1).1 x.id (List.mem_map_of_mem hx)
theorem zg8 {p:Pln} (hok:OkP p) {n:Int} (h:zcx p n=true):0≤n∧n<100:=by
 obtain ⟨x,hx,e⟩:=List.any_eq_true.1 h
 have:=znN hok hx
 have:x.id=n:=by simpa using e
 omega
theorem GC.get1 {G:List Int→List Int→AV→List AV} {Z:List Int} (hg:GC G Z) {H A:List Int} (W:AV) (h:H.length=100) {i:Nat} (hi:i<100):(G H A W)[i]?=some (.n (nth H i)):=by rw[hg.eq];exact zoz h hi
theorem GC.get2 {G:List Int→List Int→AV→List AV} {Z:List Int} (hg:GC G Z) {H A:List Int} (W:AV) (h:H.length=100) (h':A.length=100) {i:Nat} (hi:i<100):(G H A W)[100+i]?=some (.n (nth A i)):=by rw[hg.eq];exact gc_get2 h h' hi
theorem zjP (hH:HasAll P inv) (hI:HasIds P inv) (p:Pln) (hp:Sm p) (s:State) (hs:SmS s) (n:Int):PC P inv 67 [.agg p.c,.agg s.c,.n n] (·=.tup [.n (zhd p s n).1,.n (zhd p s n).2]):=by
 have c0:=of_pc hH hI p hp s hs
 have c1:=hasSec hH p.sections (fun x _=>isSec81 hH n x) (Nat.le_trans hp.sec (by omega))
 have hRl:=zg3 p s
 have hRe:=ziE p s
 have hRh:zan p s=0→(ofR p s).hold=(zaw p s).1:=fun h=>by unfold ofR;rw[if_pos h]
 have hr:zan p s=0→zjN p n=true→0≤n∧n<100:=fun h1 h2=>zkW (zaA h1) h2
 rw[show (p.sections.any fun x=>decide (x.id=n))=zjN p n from rfl]at c1
 unfold zhd
 revert c0 c1 hRl hRe hRh hr
 generalize ofR p s=R
 generalize zan p s=e
 generalize zjN p n=t
 generalize (zaw p s).1=H
 obtain ⟨G,Z,hg⟩:=zkp
 rw[←hg.eq]
 intro c0 c1 hRl hRe hRh hr
 have hfold:=hg.fold
 have hlen0:=hg.len (.s0 4) hg.zl hg.zl
 have hlen:=hg.len (.sl 4 (R.ways.map Way.c)) hRl.1 hRl.2
 have hov:=hg.ov (.s0 4) (.sl 4 (R.ways.map Way.c)) hg.zl hg.zl hRl.1 hRl.2
 have hbd0:=hg.bd0 Z Z
 have hbd:=hg.bd R.hold R.ask (R.ways.map Way.c)
 have hba:=hg.ba R.hold R.ask (R.ways.map Way.c)
 by_cases he:e=0
 ·rw[if_pos he]
  rw[hRe]at c0
  subst he
  cases t with
  |false =>
   rw[if_neg (by simp)]
   refine zae (F:=cd67) (hH.has _ _ rfl) (Nat.le_of_ble_eq_true rfl) fun w0 M Q hM hQ hR=>?_;have hE:=hH.callable;dsimp only[cd67,qm,ql,qf,qi,qb,qc,qp,qv,qN,qT,qF,qt]at hQ ⊢
   repeat' (first|refine zaa [0,1,2,3,4,5,6,7,8,9,17,23] fun K hK=>?_|refine AWp.block ?_|(refine hK.go ?_;clear hK K)|refine Cont.go (by assumption) ?_|(refine cnd2 rfl (fun h=>?_) (fun h=>?_)<;>(try first|exact h.elim|obtain rfl:(_:Bool)=true:=h|obtain rfl:(_:Bool)=false:=h)<;>first|(exfalso;omega)|skip)|((first|refine AWp.reg hE hM ?_|refine AWp.regd hE hM ?_|refine AWp.ret ?_|refine AWp.skip ?_|refine AWp.exit ?_|(refine pk2 (fun h=>?_) (fun h=>?_)<;>(try first|exact h.elim|obtain rfl:(_:Bool)=true:=h|obtain rfl:(_:Bool)=false:=h))|refine zab (fun h=>?_) ?_|refine zac hM (c0) ?_|(refine zau hM 4 ( c1) ?_ rfl ?_;(focus (simp -dsimp -implicitDefEqProofs (disch:=omega) only[go_sem,reduceIte,↓reduceIte,Nat.reduceEqDiff,Nat.reduceLT,Nat.reduceLeDiff,Nat.reduceAdd,Nat.reduceSub,Nat.reduceMul,Int.reduceToNat,Int.reduceLT,Int.reduceLE,Int.reduceEq,Int.reduceNeg,Int.reduceNe,reduceCtorEq,hfold,hlen0,hlen,hov,hbd0,hbd,hba]<;>fail)))|(refine hQ _ _ _ rfl ?_;clear hQ hR hE hM)|(refine hR _ _ (hQ _ _ _ rfl ?_);clear hQ hR hE hM)|(refine zaf ?_ ?_;focus first|omega|(refine zad ?_;(refine no_implicit_lambda% (st ?_);try with_reducible exact True.intro);done)))<;>try simp -dsimp -implicitDefEqProofs (disch:=omega) only[go_sem,reduceIte,↓reduceIte,Nat.reduceEqDiff,Nat.reduceLT,Nat.reduceLeDiff,Nat.reduceAdd,Nat.reduceSub,Nat.reduceMul,Int.reduceToNat,Int.reduceLT,Int.reduceLE,Int.reduceEq,Int.reduceNeg,Int.reduceNe,reduceCtorEq,hfold,hlen0,hlen,hov,hbd0,hbd,hba]))
   all_goals first|rfl|(exfalso;contradiction)|skip
  |true =>
   rw[if_pos rfl]
   have hr:=hr rfl rfl
   have hget:=hg.get1 (A:=R.ask) (.sl 4 (R.ways.map Way.c)) hRl.1 (i:=n.toNat) (by omega)
   rw[hRh rfl]at hget hlen hov hbd hba c0
   refine zae (F:=cd67) (hH.has _ _ rfl) (Nat.le_of_ble_eq_true rfl) fun w0 M Q hM hQ hR=>?_;have hE:=hH.callable;dsimp only[cd67,qm,ql,qf,qi,qb,qc,qp,qv,qN,qT,qF,qt]at hQ ⊢
   repeat' (first|refine zaa [0,1,2,3,4,5,6,7,8,9,17,23] fun K hK=>?_|refine AWp.block ?_|(refine hK.go ?_;clear hK K)|refine Cont.go (by assumption) ?_|(refine cnd2 rfl (fun h=>?_) (fun h=>?_)<;>(try first|exact h.elim|obtain rfl:(_:Bool)=true:=h|obtain rfl:(_:Bool)=false:=h)<;>first|(exfalso;omega)|skip)|((first|refine AWp.reg hE hM ?_|refine AWp.regd hE hM ?_|refine AWp.ret ?_|refine AWp.skip ?_|refine AWp.exit ?_|(refine pk2 (fun h=>?_) (fun h=>?_)<;>(try first|exact h.elim|obtain rfl:(_:Bool)=true:=h|obtain rfl:(_:Bool)=false:=h))|refine zab (fun h=>?_) ?_|refine zac hM (c0) ?_|(refine zau hM 4 ( c1) ?_ rfl ?_;(focus (simp -dsimp -implicitDefEqProofs (disch:=omega) only[go_sem,reduceIte,↓reduceIte,Nat.reduceEqDiff,Nat.reduceLT,Nat.reduceLeDiff,Nat.reduceAdd,Nat.reduceSub,Nat.reduceMul,Int.reduceToNat,Int.reduceLT,Int.reduceLE,Int.reduceEq,Int.reduceNeg,Int.reduceNe,reduceCtorEq,hfold,hlen0,hlen,hov,hbd0,hbd,hba,hget]<;>fail)))|(refine hQ _ _ _ rfl ?_;clear hQ hR hE hM)|(refine hR _ _ (hQ _ _ _ rfl ?_);clear hQ hR hE hM)|(refine zaf ?_ ?_;focus first|omega|(refine zad ?_;(refine no_implicit_lambda% (st ?_);try with_reducible exact True.intro);done)))<;>try simp -dsimp -implicitDefEqProofs (disch:=omega) only[go_sem,reduceIte,↓reduceIte,Nat.reduceEqDiff,Nat.reduceLT,Nat.reduceLeDiff,Nat.reduceAdd,Nat.reduceSub,Nat.reduceMul,Int.reduceToNat,Int.reduceLT,Int.reduceLE,Int.reduceEq,Int.reduceNeg,Int.reduceNe,reduceCtorEq,hfold,hlen0,hlen,hov,hbd0,hbd,hba,hget]))
   all_goals first|rfl|(exfalso;contradiction)|skip
 ·rw[if_neg he]
  rw[hRe]at c0
  refine zae (F:=cd67) (hH.has _ _ rfl) (Nat.le_of_ble_eq_true rfl) fun w0 M Q hM hQ hR=>?_;have hE:=hH.callable;dsimp only[cd67,qm,ql,qf,qi,qb,qc,qp,qv,qN,qT,qF,qt]at hQ ⊢
  repeat' (first|refine zaa [0,1,2,3,4,5,6,7,8,9,17,23] fun K hK=>?_|refine AWp.block ?_|(refine hK.go ?_;clear hK K)|refine Cont.go (by assumption) ?_|(refine cnd2 rfl (fun h=>?_) (fun h=>?_)<;>(try first|exact h.elim|obtain rfl:(_:Bool)=true:=h|obtain rfl:(_:Bool)=false:=h)<;>first|(exfalso;omega)|skip)|((first|refine AWp.reg hE hM ?_|refine AWp.regd hE hM ?_|refine AWp.ret ?_|refine AWp.skip ?_|refine AWp.exit ?_|(refine pk2 (fun h=>?_) (fun h=>?_)<;>(try first|exact h.elim|obtain rfl:(_:Bool)=true:=h|obtain rfl:(_:Bool)=false:=h))|refine zab (fun h=>?_) ?_|refine zac hM (c0) ?_|(refine hQ _ _ _ rfl ?_;clear hQ hR hE hM)|(refine hR _ _ (hQ _ _ _ rfl ?_);clear hQ hR hE hM)|(refine zaf ?_ ?_;focus first|omega|(refine zad ?_;(refine no_implicit_lambda% (st ?_);try with_reducible exact True.intro);done)))<;>try simp -dsimp -implicitDefEqProofs (disch:=omega) only[go_sem,reduceIte,↓reduceIte,Nat.reduceEqDiff,Nat.reduceLT,Nat.reduceLeDiff,Nat.reduceAdd,Nat.reduceSub,Nat.reduceMul,Int.reduceToNat,Int.reduceLT,Int.reduceLE,Int.reduceEq,Int.reduceNeg,Int.reduceNe,reduceCtorEq,hfold,hlen0,hlen,hov,hbd0,hbd,hba]))
  all_goals first|rfl|(exfalso;contradiction)|skip
theorem zee (hH:HasAll P inv) (hI:HasIds P inv) (p:Pln) (hp:Sm p) (s:State) (hs:SmS s) (n:Int):PC P inv 77 [.agg p.c,.agg s.c,.n n] (·=.tup [.n (zcI p s n).1,.n (zcI p s n).2]):=by
 have c0:=of_pc hH hI p hp s hs
 have c1:=hasPnt hH p.points (fun x _=>isPnt92 hH n x) (Nat.le_trans hp.pts (by omega))
 have hRl:=zg3 p s
 have hRe:=ziE p s
 have hRh:zan p s=0→(ofR p s).ask=(zaw p s).2.1:=fun h=>by unfold ofR;rw[if_pos h]
 have hr:zan p s=0→zcx p n=true→0≤n∧n<100:=fun h1 h2=>zg8 (zaA h1) h2
 rw[show (p.points.any fun x=>decide (x.id=n))=zcx p n from rfl]at c1
 unfold zcI
 revert c0 c1 hRl hRe hRh hr
 generalize ofR p s=R
 generalize zan p s=e
 generalize zcx p n=t
 generalize (zaw p s).2.1=A
 obtain ⟨G,Z,hg⟩:=zkp
 rw[←hg.eq]
 intro c0 c1 hRl hRe hRh hr
 have hfold:=hg.fold
 have hlen0:=hg.len (.s0 4) hg.zl hg.zl
 have hlen:=hg.len (.sl 4 (R.ways.map Way.c)) hRl.1 hRl.2
 have hov:=hg.ov (.s0 4) (.sl 4 (R.ways.map Way.c)) hg.zl hg.zl hRl.1 hRl.2
 have hbd0:=hg.bd0 Z Z
 have hbd:=hg.bd R.hold R.ask (R.ways.map Way.c)
 have hba:=hg.ba R.hold R.ask (R.ways.map Way.c)
 by_cases he:e=0
 ·rw[if_pos he]
  rw[hRe]at c0
  subst he
  cases t with
  |false =>
   rw[if_neg (by simp)]
   refine zae (F:=cd77) (hH.has _ _ rfl) (Nat.le_of_ble_eq_true rfl) fun w0 M Q hM hQ hR=>?_;have hE:=hH.callable;dsimp only[cd77,qm,ql,qf,qi,qb,qc,qp,qv,qN,qT,qF,qt]at hQ ⊢
   repeat' (first|refine zaa [0,1,2,3,4,5,6,7,8,9,17,23] fun K hK=>?_|refine AWp.block ?_|(refine hK.go ?_;clear hK K)|refine Cont.go (by assumption) ?_|(refine cnd2 rfl (fun h=>?_) (fun h=>?_)<;>(try first|exact h.elim|obtain rfl:(_:Bool)=true:=h|obtain rfl:(_:Bool)=false:=h)<;>first|(exfalso;omega)|skip)|((first|refine AWp.reg hE hM ?_|refine AWp.regd hE hM ?_|refine AWp.ret ?_|refine AWp.skip ?_|refine AWp.exit ?_|(refine pk2 (fun h=>?_) (fun h=>?_)<;>(try first|exact h.elim|obtain rfl:(_:Bool)=true:=h|obtain rfl:(_:Bool)=false:=h))|refine zab (fun h=>?_) ?_|refine zac hM (c0) ?_|(refine zau hM 4 ( c1) ?_ rfl ?_;(focus (simp -dsimp -implicitDefEqProofs (disch:=omega) only[go_sem,reduceIte,↓reduceIte,Nat.reduceEqDiff,Nat.reduceLT,Nat.reduceLeDiff,Nat.reduceAdd,Nat.reduceSub,Nat.reduceMul,Int.reduceToNat,Int.reduceLT,Int.reduceLE,Int.reduceEq,Int.reduceNeg,Int.reduceNe,reduceCtorEq,hfold,hlen0,hlen,hov,hbd0,hbd,hba]<;>fail)))|(refine hQ _ _ _ rfl ?_;clear hQ hR hE hM)|(refine hR _ _ (hQ _ _ _ rfl ?_);clear hQ hR hE hM)|(refine zaf ?_ ?_;focus first|omega|(refine zad ?_;(refine no_implicit_lambda% (st ?_);try with_reducible exact True.intro);done)))<;>try simp -dsimp -implicitDefEqProofs (disch:=omega) only[go_sem,reduceIte,↓reduceIte,Nat.reduceEqDiff,Nat.reduceLT,Nat.reduceLeDiff,Nat.reduceAdd,Nat.reduceSub,Nat.reduceMul,Int.reduceToNat,Int.reduceLT,Int.reduceLE,Int.reduceEq,Int.reduceNeg,Int.reduceNe,reduceCtorEq,hfold,hlen0,hlen,hov,hbd0,hbd,hba]))
   all_goals first|rfl|(exfalso;contradiction)|skip
  |true =>
   rw[if_pos rfl]
   have hr:=hr rfl rfl
   have hget:=hg.get2 (.sl 4 (R.ways.map Way.c)) hRl.1 hRl.2 (i:=n.toNat) (by omega)
   rw[hRh rfl]at hget hlen hov hbd hba c0
   refine zae (F:=cd77) (hH.has _ _ rfl) (Nat.le_of_ble_eq_true rfl) fun w0 M Q hM hQ hR=>?_;have hE:=hH.callable;dsimp only[cd77,qm,ql,qf,qi,qb,qc,qp,qv,qN,qT,qF,qt]at hQ ⊢
   repeat' (first|refine zaa [0,1,2,3,4,5,6,7,8,9,17,23] fun K hK=>?_|refine AWp.block ?_|(refine hK.go ?_;clear hK K)|refine Cont.go (by assumption) ?_|(refine cnd2 rfl (fun h=>?_) (fun h=>?_)<;>(try first|exact h.elim|obtain rfl:(_:Bool)=true:=h|obtain rfl:(_:Bool)=false:=h)<;>first|(exfalso;omega)|skip)|((first|refine AWp.reg hE hM ?_|refine AWp.regd hE hM ?_|refine AWp.ret ?_|refine AWp.skip ?_|refine AWp.exit ?_|(refine pk2 (fun h=>?_) (fun h=>?_)<;>(try first|exact h.elim|obtain rfl:(_:Bool)=true:=h|obtain rfl:(_:Bool)=false:=h))|refine zab (fun h=>?_) ?_|refine zac hM (c0) ?_|(refine zau hM 4 ( c1) ?_ rfl ?_;(focus (simp -dsimp -implicitDefEqProofs (disch:=omega) only[go_sem,reduceIte,↓reduceIte,Nat.reduceEqDiff,Nat.reduceLT,Nat.reduceLeDiff,Nat.reduceAdd,Nat.reduceSub,Nat.reduceMul,Int.reduceToNat,Int.reduceLT,Int.reduceLE,Int.reduceEq,Int.reduceNeg,Int.reduceNe,reduceCtorEq,hfold,hlen0,hlen,hov,hbd0,hbd,hba,hget]<;>fail)))|(refine hQ _ _ _ rfl ?_;clear hQ hR hE hM)|(refine hR _ _ (hQ _ _ _ rfl ?_);clear hQ hR hE hM)|(refine zaf ?_ ?_;focus first|omega|(refine zad ?_;(refine no_implicit_lambda% (st ?_);try with_reducible exact True.intro);done)))<;>try simp -dsimp -implicitDefEqProofs (disch:=omega) only[go_sem,reduceIte,↓reduceIte,Nat.reduceEqDiff,Nat.reduceLT,Nat.reduceLeDiff,Nat.reduceAdd,Nat.reduceSub,Nat.reduceMul,Int.reduceToNat,Int.reduceLT,Int.reduceLE,Int.reduceEq,Int.reduceNeg,Int.reduceNe,reduceCtorEq,hfold,hlen0,hlen,hov,hbd0,hbd,hba,hget]))
   all_goals first|rfl|(exfalso;contradiction)|skip
 ·rw[if_neg he]
  rw[hRe]at c0
  refine zae (F:=cd77) (hH.has _ _ rfl) (Nat.le_of_ble_eq_true rfl) fun w0 M Q hM hQ hR=>?_;have hE:=hH.callable;dsimp only[cd77,qm,ql,qf,qi,qb,qc,qp,qv,qN,qT,qF,qt]at hQ ⊢
  repeat' (first|refine zaa [0,1,2,3,4,5,6,7,8,9,17,23] fun K hK=>?_|refine AWp.block ?_|(refine hK.go ?_;clear hK K)|refine Cont.go (by assumption) ?_|(refine cnd2 rfl (fun h=>?_) (fun h=>?_)<;>(try first|exact h.elim|obtain rfl:(_:Bool)=true:=h|obtain rfl:(_:Bool)=false:=h)<;>first|(exfalso;omega)|skip)|((first|refine AWp.reg hE hM ?_|refine AWp.regd hE hM ?_|refine AWp.ret ?_|refine AWp.skip ?_|refine AWp.exit ?_|(refine pk2 (fun h=>?_) (fun h=>?_)<;>(try first|exact h.elim|obtain rfl:(_:Bool)=true:=h|obtain rfl:(_:Bool)=false:=h))|refine zab (fun h=>?_) ?_|refine zac hM (c0) ?_|(refine hQ _ _ _ rfl ?_;clear hQ hR hE hM)|(refine hR _ _ (hQ _ _ _ rfl ?_);clear hQ hR hE hM)|(refine zaf ?_ ?_;focus first|omega|(refine zad ?_;(refine no_implicit_lambda% (st ?_);try with_reducible exact True.intro);done)))<;>try simp -dsimp -implicitDefEqProofs (disch:=omega) only[go_sem,reduceIte,↓reduceIte,Nat.reduceEqDiff,Nat.reduceLT,Nat.reduceLeDiff,Nat.reduceAdd,Nat.reduceSub,Nat.reduceMul,Int.reduceToNat,Int.reduceLT,Int.reduceLE,Int.reduceEq,Int.reduceNeg,Int.reduceNe,reduceCtorEq,hfold,hlen0,hlen,hov,hbd0,hbd,hba]))
  all_goals first|rfl|(exfalso;contradiction)|skip
end Go.Lev
namespace Go.Lev
open Go.Eng
set_option maxRecDepth 10000
set_option maxHeartbeats 4000000
variable {P:Program} {inv:Nat→Option Nat}
def kept (a b:State):Bool:=zaK keptSw a.switches b.switches&&zaK keptLk a.locks b.locks
end Go.Lev
namespace Go.Lev
open Go.Eng
set_option maxRecDepth 10000
set_option maxHeartbeats 4000000
variable {P:Program} {inv:Nat→Option Nat}
theorem sTwin_po (hH:HasAll P inv) (s:State) (h1:s.tracks.length≤1000000) (h2:s.switches.length≤1000000) (h3:s.locks.length≤1000000):PO P inv 9 [.agg s.c] (.agg [.sm 2 (s.tracks.length*2) 0 s.tracks.length 2,.sm 3 (s.switches.length*3) 0 s.switches.length 3,.sm 4 (s.locks.length*4) 0 s.locks.length 4])
  [(2,.cells (s.tracks.map Track.c).flatten (decide (0<s.tracks.length))),(3,.cells (s.switches.map Switch.c).flatten (decide (0<s.switches.length))),(4,.cells (s.locks.map Lock.c).flatten (decide (0<s.locks.length)))]:=by
 have c1:=zi0 hH s.tracks h1
 have c2:=zhO hH s.switches h2
 have c3:=zka hH s.locks h3
 refine zbA (F:=cd9) (hH.has _ _ rfl) (Nat.le_of_ble_eq_true rfl) fun w0 M Q hM hQ hR=>?_;have hE:=hH.callable;dsimp only[cd9,qm,ql,qf,qi,qb,qc,qp,qv,qN,qT,qF,qt]at hQ ⊢
 repeat' (first|refine zaa [0,1,2,11] fun K hK=>?_|refine AWp.block ?_|(refine hK.go ?_;clear hK K)|refine Cont.go (by assumption) ?_|(refine cnd2 rfl (fun h=>?_) (fun h=>?_)<;>(try first|exact h.elim|obtain rfl:(_:Bool)=true:=h|obtain rfl:(_:Bool)=false:=h)<;>first|(exfalso;omega)|skip)|((first|refine AWp.reg hE hM ?_|refine AWp.regd hE hM ?_|refine AWp.ret ?_|refine AWp.skip ?_|refine AWp.exit ?_|(refine pk2 (fun h=>?_) (fun h=>?_)<;>(try first|exact h.elim|obtain rfl:(_:Bool)=true:=h|obtain rfl:(_:Bool)=false:=h))|refine zab (fun h=>?_) ?_|refine PO.callK hM ( c1) ?_|refine PO.callK hM ( c2) ?_|refine PO.callK hM ( c3) ?_|(refine zaf ?_ ?_;focus first|omega|(refine zad ?_;(refine no_implicit_lambda% (st ?_);try with_reducible exact True.intro);done)))<;>try (refine no_implicit_lambda% (st ?_);try with_reducible exact True.intro))|(refine hQ _ _ _ rfl ?_;clear hQ hR hE hM)|(refine hR _ _ (hQ _ _ _ rfl ?_);clear hQ hR hE hM))
 left
 constructor
 ·(refine no_implicit_lambda% (st ?_);try with_reducible exact True.intro)
 ·(refine no_implicit_lambda% (st ?_);try with_reducible exact True.intro)
end Go.Lev
namespace Go.Lev
open Go.Eng
set_option maxRecDepth 10000
set_option maxHeartbeats 4000000
variable {P:Program} {inv:Nat→Option Nat} {w0:World} {M:Nat→Prop}
def stV (s:State):AV:=.agg [.sm 2 (s.tracks.length*2) 0 s.tracks.length 2,.sm 3 (s.switches.length*3) 0 s.switches.length 3,.sm 4 (s.locks.length*4) 0 s.locks.length 4]
def stR (s:State):List (Nat×AO):=[(2,.cells (s.tracks.map Track.c).flatten (decide (0<s.tracks.length))),(3,.cells (s.switches.map Switch.c).flatten (decide (0<s.switches.length))),(4,.cells (s.locks.map Lock.c).flatten (decide (0<s.locks.length)))]
def zmd (b:Nat) (s:State):AV:=.agg [.sm b (s.tracks.length*2) 0 s.tracks.length 2,.sm (b+1) (s.switches.length*3) 0 s.switches.length 3,.sm (b+2) (s.locks.length*4) 0 s.locks.length 4]
def zkq (b:Nat) (s:State):List (Nat×AO):=[(b,.cells (s.tracks.map Track.c).flatten (decide (0<s.tracks.length))),(b+1,.cells (s.switches.map Switch.c).flatten (decide (0<s.switches.length))),(b+2,.cells (s.locks.map Lock.c).flatten (decide (0<s.locks.length)))]
theorem zjg (b:Nat) (s:State):zdD 4 (zkq b s) (zmd b s)=.agg s.c:=by
 have h1:(b+1=b)=False:=by simp
 have h2:(b+2=b)=False:=by simp
 have h3:(b+2=b+1)=False:=by simp
 unfold zkq zmd
 simp -dsimp -implicitDefEqProofs (disch:=omega) only[go_sem,reduceIte,↓reduceIte,Nat.reduceEqDiff,Nat.reduceLT,Nat.reduceLeDiff,Nat.reduceAdd,Nat.reduceSub,Nat.reduceMul,Int.reduceToNat,Int.reduceLT,Int.reduceLE,Int.reduceEq,Int.reduceNeg,Int.reduceNe,reduceCtorEq,h1,h2,h3,if_false]
theorem zfr (b:Nat) (s:State) (e:Int):zdD 4 (zkq b s) (.tup [zmd b s,.n e])=.tup [.agg s.c,.n e]:=by
 rw[zei,zbR,zbR,zdt,zjg,sn_i]
theorem zeP (hH:HasAll P inv) (s:State) (hs:SmS s):PO P inv 9 [.agg s.c] (stV s) (stR s):=by
 have:=hs.1
 have:=hs.2.1
 have:=hs.2.2
 exact sTwin_po hH s (by omega) (by omega) (by omega)
def State.z:State:=⟨[],[],[]⟩
def atS (p:Pln):State:=⟨p.sections.map fun x=>⟨x.id,2⟩,p.points.map fun x=>⟨x.id,0,0⟩,p.routes.map fun x=>⟨x.id,0,0,0⟩⟩
def atR (p:Pln):State:=if zbm p=true then atS p else State.z
theorem sAt_po (hH:HasAll P inv) (hI:HasIds P inv) (p:Pln) (hp:Sm p) (ho:zbm p=true):PO P inv 65 [.agg p.c] (.tup [stV (atS p),.n 0]) (stR (atS p)):=by
 have c0:=zdg hH hI p hp
 rw[show zbt p=0 by unfold zbt;rw[if_pos ho]]at c0
 have h1:=hp.sec
 have h2:=hp.pts
 have h3:=hp.rte
 refine zbA (F:=cd65) (hH.has _ _ rfl) (Nat.le_of_ble_eq_true rfl) fun w0 M Q hM hQ hR=>?_;have hE:=hH.callable;dsimp only[cd65,qm,ql,qf,qi,qb,qc,qp,qv,qN,qT,qF,qt]at hQ ⊢
 repeat' (first|refine zaa [0,1,2,3,5,7,9,13,15,16,17,18,31,32,33,34,47,48,49,50] fun K hK=>?_|refine AWp.block ?_|(refine hK.go ?_;clear hK K)|refine Cont.go (by assumption) ?_|(refine cnd2 rfl (fun h=>?_) (fun h=>?_)<;>(try first|exact h.elim|obtain rfl:(_:Bool)=true:=h|obtain rfl:(_:Bool)=false:=h)<;>first|(exfalso;omega)|skip)|((first|refine AWp.reg hE hM ?_|refine AWp.regd hE hM ?_|refine AWp.ret ?_|refine AWp.skip ?_|refine AWp.exit ?_|(refine pk2 (fun h=>?_) (fun h=>?_)<;>(try first|exact h.elim|obtain rfl:(_:Bool)=true:=h|obtain rfl:(_:Bool)=false:=h))|refine zab (fun h=>?_) ?_|refine zac hM (c0) ?_|(refine zaf ?_ ?_;focus first|omega|(refine zad ?_;(refine no_implicit_lambda% (st ?_);try with_reducible exact True.intro);done)))<;>try (refine no_implicit_lambda% (st ?_);try with_reducible exact True.intro))|(refine hQ _ _ _ rfl ?_;clear hQ hR hE hM)|(refine hR _ _ (hQ _ _ _ rfl ?_);clear hQ hR hE hM))
 all_goals first|(exfalso;contradiction)|skip
 refine zdd 1 0 2 2 rfl rfl (Nat.zero_le _) (by (refine no_implicit_lambda% (st ?_);try with_reducible exact True.intro)) (by (refine no_implicit_lambda% (st ?_);try with_reducible exact True.intro)) ?_
 refine zdd 1 1 3 3 rfl rfl (Nat.zero_le _) (by (refine no_implicit_lambda% (st ?_);try with_reducible exact True.intro)) (by (refine no_implicit_lambda% (st ?_);try with_reducible exact True.intro)) ?_
 refine zdd 1 2 4 4 rfl rfl (Nat.zero_le _) (by (refine no_implicit_lambda% (st ?_);try with_reducible exact True.intro)) (by (refine no_implicit_lambda% (st ?_);try with_reducible exact True.intro)) ?_
 (refine no_implicit_lambda% (st ?_);try with_reducible exact True.intro)
 refine zah (ι:=Nat×(List Track)) [1,2,3,15,16,17] (fun zz=>[(17,.n zz.1)]) (fun zz=>[(1,.cells [.sm 2 (zz.2.length*2) 0 zz.2.length 2,.sm 3 0 0 0 3,.sm 4 0 0 0 4] true),(2,.cells (zz.2.map Track.c).flatten (decide (0<zz.2.length)))]) (fun zz=>zz.1≤p.sections.length∧(zz.2.length=zz.1)∧(zz.2++(p.sections.drop zz.1).map (fun x=>(⟨x.id,2⟩:Track))=(atS p).tracks)) (fun zz=>p.sections.length-zz.1) (0,([]:List Track)) ⟨Nat.zero_le _,(by first|rfl|assumption|omega|(simp;done)|(simp;omega)|grind),(by first|rfl|assumption|omega|(simp;done)|(simp;omega)|grind)⟩ (by (try dsimp only);(refine no_implicit_lambda% (st ?_);try with_reducible exact True.intro)<;>first|omega|(simp;done)) (by (try dsimp only);(refine no_implicit_lambda% (st ?_);try with_reducible exact True.intro)<;>first|omega|(simp;done)) ?_;rintro ⟨k,ts⟩ ⟨hk,hl,hg⟩;(try dsimp only at hk hl hg ⊢);rcases Nat.lt_or_ge k p.sections.length with hlt|hge
 ·rw[zap hlt,List.map_cons]at hg
  repeat' (first|refine zaa [0,1,2,3,5,7,9,13,15,16,17,18,31,32,33,34,47,48,49,50] fun K hK=>?_|refine AWp.block ?_|(refine hK.go ?_;clear hK K)|refine Cont.go (by assumption) ?_|(refine cnd2 rfl (fun h=>?_) (fun h=>?_)<;>(try first|exact h.elim|obtain rfl:(_:Bool)=true:=h|obtain rfl:(_:Bool)=false:=h)<;>first|(exfalso;omega)|skip)|((first|refine AWp.reg hE hM ?_|refine AWp.regd hE hM ?_|refine AWp.ret ?_|refine AWp.skip ?_|refine AWp.exit ?_|(refine pk2 (fun h=>?_) (fun h=>?_)<;>(try first|exact h.elim|obtain rfl:(_:Bool)=true:=h|obtain rfl:(_:Bool)=false:=h))|refine zab (fun h=>?_) ?_|(refine zaf ?_ ?_;focus first|omega|(refine zad ?_;(refine no_implicit_lambda% (st ?_);try with_reducible exact True.intro);done)))<;>try (refine no_implicit_lambda% (st ?_);try with_reducible exact True.intro))|(refine hQ _ _ _ rfl ?_;clear hQ hR hE hM)|(refine hR _ _ (hQ _ _ _ rfl ?_);clear hQ hR hE hM))
  refine ⟨(k+1,ts++[⟨(nth p.sections k).id,2⟩]),by (try dsimp only);omega,⟨by (try dsimp only);omega,by (try dsimp only);simp[hl],by (try dsimp only);rw[←hg];simp⟩, ?_⟩;(try dsimp only);(first|omega|(simp;done)|(simp;omega)|((refine no_implicit_lambda% (st ?_);try with_reducible exact True.intro);done)|(simp[List.map_set, *];done)|(simp[List.map_set, *];rfl)|((refine no_implicit_lambda% (st ?_);try with_reducible exact True.intro);simp[List.map_set, *];done)|((try (refine no_implicit_lambda% (st ?_);try with_reducible exact True.intro));(repeat' refine And.intro ?_ ?_)<;>first|omega|rfl|(simp;done)|(simp;omega)|(simp;rfl)|(simp[List.map_set, *];done)|(simp[List.map_set, *];rfl)))
 ·rw[List.drop_eq_nil_of_le hge,List.map_nil,List.append_nil]at hg
  repeat' (first|refine zaa [0,1,2,3,5,7,9,13,15,16,17,18,31,32,33,34,47,48,49,50] fun K hK=>?_|refine AWp.block ?_|(refine hK.go ?_;clear hK K)|refine Cont.go (by assumption) ?_|(refine cnd2 rfl (fun h=>?_) (fun h=>?_)<;>(try first|exact h.elim|obtain rfl:(_:Bool)=true:=h|obtain rfl:(_:Bool)=false:=h)<;>first|(exfalso;omega)|skip)|((first|refine AWp.reg hE hM ?_|refine AWp.regd hE hM ?_|refine AWp.ret ?_|refine AWp.skip ?_|refine AWp.exit ?_|(refine pk2 (fun h=>?_) (fun h=>?_)<;>(try first|exact h.elim|obtain rfl:(_:Bool)=true:=h|obtain rfl:(_:Bool)=false:=h))|refine zab (fun h=>?_) ?_|(refine zaf ?_ ?_;focus first|omega|(refine zad ?_;(refine no_implicit_lambda% (st ?_);try with_reducible exact True.intro);done)))<;>try (refine no_implicit_lambda% (st ?_);try with_reducible exact True.intro))|(refine hQ _ _ _ rfl ?_;clear hQ hR hE hM)|(refine hR _ _ (hQ _ _ _ rfl ?_);clear hQ hR hE hM))
  refine zah (ι:=Nat×(List Switch)) [1,2,3,31,32,33] (fun zz=>[(33,.n zz.1)]) (fun zz=>[(1,.cells [.sm 2 (ts.length*2) 0 ts.length 2,.sm 3 (zz.2.length*3) 0 zz.2.length 3,.sm 4 0 0 0 4] true),(3,.cells (zz.2.map Switch.c).flatten (decide (0<zz.2.length)))]) (fun zz=>zz.1≤p.points.length∧(zz.2.length=zz.1)∧(zz.2++(p.points.drop zz.1).map (fun x=>(⟨x.id,0,0⟩:Switch))=(atS p).switches)) (fun zz=>p.points.length-zz.1) (0,([]:List Switch)) ⟨Nat.zero_le _,(by first|rfl|assumption|omega|(simp;done)|(simp;omega)|grind),(by first|rfl|assumption|omega|(simp;done)|(simp;omega)|grind)⟩ (by (try dsimp only);(refine no_implicit_lambda% (st ?_);try with_reducible exact True.intro)<;>first|omega|(simp;done)) (by (try dsimp only);(refine no_implicit_lambda% (st ?_);try with_reducible exact True.intro)<;>first|omega|(simp;done)) ?_;rintro ⟨k2,ss⟩ ⟨hk,hl2,hg2⟩;(try dsimp only at hk hl2 hg2 ⊢);rcases Nat.lt_or_ge k2 p.points.length with hlt|hge
  ·rw[zap (by assumption),List.map_cons]at hg2
   repeat' (first|refine zaa [0,1,2,3,5,7,9,13,15,16,17,18,31,32,33,34,47,48,49,50] fun K hK=>?_|refine AWp.block ?_|(refine hK.go ?_;clear hK K)|refine Cont.go (by assumption) ?_|(refine cnd2 rfl (fun h=>?_) (fun h=>?_)<;>(try first|exact h.elim|obtain rfl:(_:Bool)=true:=h|obtain rfl:(_:Bool)=false:=h)<;>first|(exfalso;omega)|skip)|((first|refine AWp.reg hE hM ?_|refine AWp.regd hE hM ?_|refine AWp.ret ?_|refine AWp.skip ?_|refine AWp.exit ?_|(refine pk2 (fun h=>?_) (fun h=>?_)<;>(try first|exact h.elim|obtain rfl:(_:Bool)=true:=h|obtain rfl:(_:Bool)=false:=h))|refine zab (fun h=>?_) ?_|(refine zaf ?_ ?_;focus first|omega|(refine zad ?_;(refine no_implicit_lambda% (st ?_);try with_reducible exact True.intro);done)))<;>try (refine no_implicit_lambda% (st ?_);try with_reducible exact True.intro))|(refine hQ _ _ _ rfl ?_;clear hQ hR hE hM)|(refine hR _ _ (hQ _ _ _ rfl ?_);clear hQ hR hE hM))
   refine ⟨(k2+1,ss++[⟨(nth p.points k2).id,0,0⟩]),by (try dsimp only);omega,⟨by (try dsimp only);omega,by (try dsimp only);simp[hl2],by (try dsimp only);rw[←hg2];simp⟩, ?_⟩;(try dsimp only);(first|omega|(simp;done)|(simp;omega)|((refine no_implicit_lambda% (st ?_);try with_reducible exact True.intro);done)|(simp[List.map_set, *];done)|(simp[List.map_set, *];rfl)|((refine no_implicit_lambda% (st ?_);try with_reducible exact True.intro);simp[List.map_set, *];done)|((try (refine no_implicit_lambda% (st ?_);try with_reducible exact True.intro));(repeat' refine And.intro ?_ ?_)<;>first|omega|rfl|(simp;done)|(simp;omega)|(simp;rfl)|(simp[List.map_set, *];done)|(simp[List.map_set, *];rfl)))
  ·rw[List.drop_eq_nil_of_le (by assumption),List.map_nil,List.append_nil]at hg2
   repeat' (first|refine zaa [0,1,2,3,5,7,9,13,15,16,17,18,31,32,33,34,47,48,49,50] fun K hK=>?_|refine AWp.block ?_|(refine hK.go ?_;clear hK K)|refine Cont.go (by assumption) ?_|(refine cnd2 rfl (fun h=>?_) (fun h=>?_)<;>(try first|exact h.elim|obtain rfl:(_:Bool)=true:=h|obtain rfl:(_:Bool)=false:=h)<;>first|(exfalso;omega)|skip)|((first|refine AWp.reg hE hM ?_|refine AWp.regd hE hM ?_|refine AWp.ret ?_|refine AWp.skip ?_|refine AWp.exit ?_|(refine pk2 (fun h=>?_) (fun h=>?_)<;>(try first|exact h.elim|obtain rfl:(_:Bool)=true:=h|obtain rfl:(_:Bool)=false:=h))|refine zab (fun h=>?_) ?_|(refine zaf ?_ ?_;focus first|omega|(refine zad ?_;(refine no_implicit_lambda% (st ?_);try with_reducible exact True.intro);done)))<;>try (refine no_implicit_lambda% (st ?_);try with_reducible exact True.intro))|(refine hQ _ _ _ rfl ?_;clear hQ hR hE hM)|(refine hR _ _ (hQ _ _ _ rfl ?_);clear hQ hR hE hM))
   refine zah (ι:=Nat×(List Lock)) [2,3,47,48,49] (fun zz=>[(49,.n zz.1)]) (fun zz=>[(1,.cells [.sm 2 (ts.length*2) 0 ts.length 2,.sm 3 (ss.length*3) 0 ss.length 3,.sm 4 (zz.2.length*4) 0 zz.2.length 4] true),(4,.cells (zz.2.map Lock.c).flatten (decide (0<zz.2.length)))]) (fun zz=>zz.1≤p.routes.length∧(zz.2.length=zz.1)∧(zz.2++(p.routes.drop zz.1).map (fun x=>(⟨x.id,0,0,0⟩:Lock))=(atS p).locks)) (fun zz=>p.routes.length-zz.1) (0,([]:List Lock)) ⟨Nat.zero_le _,(by first|rfl|assumption|omega|(simp;done)|(simp;omega)|grind),(by first|rfl|assumption|omega|(simp;done)|(simp;omega)|grind)⟩ (by (try dsimp only);(refine no_implicit_lambda% (st ?_);try with_reducible exact True.intro)<;>first|omega|(simp;done)) (by (try dsimp only);(refine no_implicit_lambda% (st ?_);try with_reducible exact True.intro)<;>first|omega|(simp;done)) ?_;rintro ⟨k3,ls⟩ ⟨hk,hl3,hg3⟩;(try dsimp only at hk hl3 hg3 ⊢);rcases Nat.lt_or_ge k3 p.routes.length with hlt|hge
   ·rw[zap (by assumption),List.map_cons]at hg3
    repeat' (first|refine zaa [0,1,2,3,5,7,9,13,15,16,17,18,31,32,33,34,47,48,49,50] fun K hK=>?_|refine AWp.block ?_|(refine hK.go ?_;clear hK K)|refine Cont.go (by assumption) ?_|(refine cnd2 rfl (fun h=>?_) (fun h=>?_)<;>(try first|exact h.elim|obtain rfl:(_:Bool)=true:=h|obtain rfl:(_:Bool)=false:=h)<;>first|(exfalso;omega)|skip)|((first|refine AWp.reg hE hM ?_|refine AWp.regd hE hM ?_|refine AWp.ret ?_|refine AWp.skip ?_|refine AWp.exit ?_|(refine pk2 (fun h=>?_) (fun h=>?_)<;>(try first|exact h.elim|obtain rfl:(_:Bool)=true:=h|obtain rfl:(_:Bool)=false:=h))|refine zab (fun h=>?_) ?_|(refine zaf ?_ ?_;focus first|omega|(refine zad ?_;(refine no_implicit_lambda% (st ?_);try with_reducible exact True.intro);done)))<;>try (refine no_implicit_lambda% (st ?_);try with_reducible exact True.intro))|(refine hQ _ _ _ rfl ?_;clear hQ hR hE hM)|(refine hR _ _ (hQ _ _ _ rfl ?_);clear hQ hR hE hM))
    refine ⟨(k3+1,ls++[⟨(nth p.routes k3).id,0,0,0⟩]),by (try dsimp only);omega,⟨by (try dsimp only);omega,by (try dsimp only);simp[hl3],by (try dsimp only);rw[←hg3];simp⟩, ?_⟩;(try dsimp only);(first|omega|(simp;done)|(simp;omega)|((refine no_implicit_lambda% (st ?_);try with_reducible exact True.intro);done)|(simp[List.map_set, *];done)|(simp[List.map_set, *];rfl)|((refine no_implicit_lambda% (st ?_);try with_reducible exact True.intro);simp[List.map_set, *];done)|((try (refine no_implicit_lambda% (st ?_);try with_reducible exact True.intro));(repeat' refine And.intro ?_ ?_)<;>first|omega|rfl|(simp;done)|(simp;omega)|(simp;rfl)|(simp[List.map_set, *];done)|(simp[List.map_set, *];rfl)))
   ·rw[List.drop_eq_nil_of_le (by assumption),List.map_nil,List.append_nil]at hg3
    repeat' (first|refine zaa [0,1,2,3,5,7,9,13,15,16,17,18,31,32,33,34,47,48,49,50] fun K hK=>?_|refine AWp.block ?_|(refine hK.go ?_;clear hK K)|refine Cont.go (by assumption) ?_|(refine cnd2 rfl (fun h=>?_) (fun h=>?_)<;>(try first|exact h.elim|obtain rfl:(_:Bool)=true:=h|obtain rfl:(_:Bool)=false:=h)<;>first|(exfalso;omega)|skip)|((first|refine AWp.reg hE hM ?_|refine AWp.regd hE hM ?_|refine AWp.ret ?_|refine AWp.skip ?_|refine AWp.exit ?_|(refine pk2 (fun h=>?_) (fun h=>?_)<;>(try first|exact h.elim|obtain rfl:(_:Bool)=true:=h|obtain rfl:(_:Bool)=false:=h))|refine zab (fun h=>?_) ?_|(refine zaf ?_ ?_;focus first|omega|(refine zad ?_;(refine no_implicit_lambda% (st ?_);try with_reducible exact True.intro);done)))<;>try (refine no_implicit_lambda% (st ?_);try with_reducible exact True.intro))|(refine hQ _ _ _ rfl ?_;clear hQ hR hE hM)|(refine hR _ _ (hQ _ _ _ rfl ?_);clear hQ hR hE hM))
    left
    unfold stV stR
    rw[←hg,←hg2,←hg3]
    constructor
    ·(refine no_implicit_lambda% (st ?_);try with_reducible exact True.intro)
    ·(refine no_implicit_lambda% (st ?_);try with_reducible exact True.intro)
end Go.Lev
namespace Go.Lev
open Go.Eng
set_option maxRecDepth 10000
set_option maxHeartbeats 4000000
variable {P:Program} {inv:Nat→Option Nat} {w0:World} {M:Nat→Prop}
section upd
variable {α:Type} [Inhabited α]
def zij (f:Nat→α→α) (k:Nat) (l:List α):List α:=(l.mapIdx f).take k++l.drop k
theorem zdV (f:Nat→α→α) (k:Nat) (l:List α):(zij f k l).length=l.length:=by simp[zij];omega
theorem zm9 (f:Nat→α→α) (l:List α):zij f 0 l=l:=by simp[zij]
attribute [go_sem] zm9 zdV
end upd
def imgT (_:Nat) (t:Track):Track:=⟨t.id,2⟩
def imgW (_:Nat) (x:Switch):Switch:=⟨x.id,0,x.call⟩
def imgK (p:Pln) (i:Nat) (l:Lock):Lock:=if 0<l.left then ⟨l.id,l.phase,l.gone,(nth p.routes i).timer⟩ else l
def imgS (p:Pln) (s:State):State:=⟨s.tracks.mapIdx imgT,s.switches.mapIdx imgW,s.locks.mapIdx (imgK p)⟩
theorem zaB {p:Pln} {s:State} (h:zar p s=true):s.tracks.length=p.sections.length∧s.switches.length=p.points.length∧s.locks.length=p.routes.length:=by
 simp only[zar,Bool.and_eq_true]at h
 exact ⟨zbM h.1,zbM h.2.1,zbM h.2.2⟩
theorem zaj {p:Pln} {s:State} (h:zan p s=0):zbm p=true∧zar p s=true∧(zaw p s).2.2=true:=by
 unfold zan at h
 split at h
 ·rename_i h1
  split at h
  ·rename_i h2;exact ⟨h1,h2⟩
  ·cases h
 ·cases h
def imageR (p:Pln) (s:State):State:=if zan p s=0 then imgS p s else State.z
end Go.Lev
namespace Go.Lev
open Go.Eng
abbrev WL:=WayR×Lock
def hdl (z:WL):List Int:=zbL z.1 z.2
def asl (z:WL):List AskR:=(zch z.1 z.2).filter (zdS z.2)
theorem zh4 (n:Int) (hn:n≠0):∀ (l H:List Int) (t:Bool),H.length=100→(∀ s∈l,0≤s∧s≤99) →
  ((zbw n l H t).2=true↔t=true∧(∀ s∈l,nth H s.toNat=0)∧l.Nodup) ∧
  ((zbw n l H t).2=true→(∀ s∈l,nth (zbw n l H t).1 s.toNat=n)∧∀ k:Nat,(∀ s∈l,s.toNat≠k)→nth (zbw n l H t).1 k=nth H k)
 |[],H,t,_,_=>by simp[zbw]
 |s::r,H,t,hH,hs=>by
  rw[zbw]
  have h0:=hs s (by simp)
  split
  ·rename_i hc
   obtain ⟨rfl,hc⟩:=hc
   have ih:=zh4 n hn r (H.set s.toNat n) true (by simpa using hH) fun x hx=>hs x (by simp[hx])
   have key:(∀ x∈r,nth (H.set s.toNat n) x.toNat=0)↔(∀ x∈r,nth H x.toNat=0)∧s∉r:=by
    constructor
    ·intro h
     have hne:∀ x∈r,x≠s:=fun x hx e=>by
      have:=h x hx
      rw[e,zbD _ _ _ _ (by omega),if_pos rfl]at this
      exact hn this
     refine ⟨fun x hx=>?_,fun hx=>hne s hx rfl⟩
     have h1:=h x hx
     have h2:=hs x (by simp[hx])
     rw[zbD _ _ _ _ (by omega),if_neg (by have:=hne x hx;omega)]at h1
     exact h1
    ·rintro ⟨h1,h2⟩ x hx
     have h3:=hs x (by simp[hx])
     rw[zbD _ _ _ _ (by omega),if_neg (fun e=>h2 (by rw[show s=x by omega];exact hx))]
     exact h1 x hx
   refine ⟨?_, ?_⟩
   ·rw[ih.1,key]
    simp only[List.mem_cons,forall_eq_or_imp,List.nodup_cons,true_and]
    constructor
    ·rintro ⟨⟨h1,h2⟩,h3⟩;exact ⟨⟨hc,h1⟩,h2,h3⟩
    ·rintro ⟨⟨_,h1⟩,h2,h3⟩;exact ⟨⟨h1,h2⟩,h3⟩
   ·intro ht
    have h2:=ih.2 ht
    have h3:=(ih.1.1 ht).2
    rw[key]at h3
    refine ⟨fun x hx=>?_,fun k hk=>?_⟩
    ·rcases List.mem_cons.1 hx with rfl|hx
     ·rw[h2.2 _ (fun y hy e=>h3.1.2 (by have:=hs y (by simp[hy]);rw[show x=y by omega];exact hy)),zbD _ _ _ _ (by omega),if_pos rfl]
     ·exact h2.1 x hx
    ·rw[h2.2 k fun y hy=>hk y (by simp[hy]),zbD _ _ _ _ (by omega),if_neg (fun e=>hk s (by simp) e.symm)]
  ·rename_i hc
   refine ⟨?_,fun h=>by cases h⟩
   simp only[Bool.false_eq_true,false_iff,not_and]
   intro ht h1
   exact absurd ⟨ht,h1 s (by simp)⟩ hc
theorem zfj (l:Lock) (C:List (Int×Int)):∀ (q:List AskR) (A:List Int) (t:Bool),A.length=100→(∀ a∈q,0≤a.pnt∧a.pnt≤99) →
  ((zep l C q A t).2=true↔t=true∧∀ a∈q.filter (zdS l),zfm C a.pnt=a.lie) ∧
  ((zep l C q A t).2=true→(∀ a∈q.filter (zdS l),nth (zep l C q A t).1 a.pnt.toNat=a.lie)∧∀ k:Nat,(∀ a∈q.filter (zdS l),a.pnt.toNat≠k)→nth (zep l C q A t).1 k=nth A k)
 |[],A,t,_,_=>by simp[zep]
 |a::r,A,t,hA,hs=>by
  rw[zep]
  have h0:=hs a (by simp)
  by_cases ho:zdS l a=true
  ·rw[if_pos ho,List.filter_cons_of_pos ho]
   split
   ·rename_i hc
    obtain ⟨rfl,hc⟩:=hc
    have ih:=zfj l C r (A.set a.pnt.toNat a.lie) true (by simpa using hA) fun x hx=>hs x (by simp[hx])
    refine ⟨?_, ?_⟩
    ·rw[ih.1]
     simp only[List.mem_cons,forall_eq_or_imp,true_and]
     exact ⟨fun h=>⟨hc,h⟩,fun h=>h.2⟩
    ·intro ht
     have h2:=ih.2 ht
     have h3:=(ih.1.1 ht).2
     refine ⟨fun x hx=>?_,fun k hk=>?_⟩
     ·rcases List.mem_cons.1 hx with rfl|hx
      ·rcases Classical.em (∃ y∈r.filter (zdS l),y.pnt.toNat=x.pnt.toNat) with ⟨y,hy,e⟩|h4
       ·have h5:=hs y (by simp[(List.mem_filter.1 hy).1])
        have h6:=h2.1 y hy
        rw[e]at h6
        rw[h6,←h3 y hy,←hc,show y.pnt=x.pnt by omega]
       ·rw[h2.2 _ (fun y hy e=>h4 ⟨y,hy,e⟩),zbD _ _ _ _ (by omega),if_pos rfl]
      ·exact h2.1 x hx
     ·rw[h2.2 k fun y hy=>hk y (by simp[hy]),zbD _ _ _ _ (by omega),if_neg (fun e=>hk a (by simp) e.symm)]
   ·rename_i hc
    refine ⟨?_,fun h=>by cases h⟩
    simp only[Bool.false_eq_true,false_iff,not_and]
    intro ht h1
    exact absurd ⟨ht,h1 a (by simp)⟩ hc
  ·rw[if_neg ho,List.filter_cons_of_neg ho]
   exact zfj l C r A t hA fun x hx=>hs x (by simp[hx])
def zeB (C:List (Int×Int)):List WL→List Int→List Int→Bool→List Int×List Int×Bool
 |[],H,A,t=>(H,A,t)
 |z::r,H,A,t=>zeB C r (zbw z.2.id (zbL z.1 z.2) H t).1 (zep z.2 C (zch z.1 z.2) A (zbw z.2.id (zbL z.1 z.2) H t).2).1 (zep z.2 C (zch z.1 z.2) A (zbw z.2.id (zbL z.1 z.2) H t).2).2
theorem zou (ws:List WayR) (C:List (Int×Int)):∀ (l:List Lock) (i:Nat) (H A:List Int) (t:Bool),i+l.length=ws.length→zdL ws C i l H A t=zeB C ((ws.drop i).zip l) H A t
 |[],i,H,A,t,_=>by rw[zdL,List.zip_nil_right,zeB]
 |x::r,i,H,A,t,h=>by
  simp only[List.length_cons]at h
  rw[zdL,zap (show i<ws.length by omega),List.zip_cons_cons,zeB,zou ws C r (i+1) _ _ _ (by omega)]
structure ZOk (Z:List WL):Prop where
 id:∀ z∈Z,z.2.id≠0
 sec:∀ z∈Z,∀ n∈hdl z,0≤n∧n≤99
 pnt:∀ z∈Z,∀ a∈zch z.1 z.2,0≤a.pnt∧a.pnt≤99
theorem zk2 (C:List (Int×Int)):∀ (Z:List WL) (H A:List Int),(zeB C Z H A false).2.2=false
 |[],H,A=>rfl
 |z::r,H,A=>by
  rw[zeB]
  have h1:(zbw z.2.id (zbL z.1 z.2) H false).2=false:=by
   cases zbL z.1 z.2 with
   |nil=>rfl
   |cons s q=>rw[zbw,if_neg (by simp)]
  have h2:∀ q:List AskR,(zep z.2 C q A false).2=false:=by
   intro q
   induction q with
   |nil=>rfl
   |cons a q ih =>
    rw[zep]
    split
    ·rw[if_neg (by simp)]
    ·exact ih
  rw[h1,h2]
  exact zk2 C r _ _
theorem zd6 (C:List (Int×Int)):∀ (Z:List WL) (H A:List Int),ZOk Z→H.length=100→A.length=100 →
  ((zeB C Z H A true).2.2=true↔(∀ z∈Z,(∀ n∈hdl z,nth H n.toNat=0)∧(hdl z).Nodup∧∀ a∈asl z,zfm C a.pnt=a.lie)∧Z.Pairwise fun z z'=>∀ n∈hdl z,n∉hdl z') ∧
  ((zeB C Z H A true).2.2=true→(∀ z∈Z,(∀ n∈hdl z,nth (zeB C Z H A true).1 n.toNat=z.2.id)∧∀ a∈asl z,nth (zeB C Z H A true).2.1 a.pnt.toNat=a.lie) ∧
   (∀ k:Nat,(∀ z∈Z,∀ n∈hdl z,n.toNat≠k)→nth (zeB C Z H A true).1 k=nth H k)∧(∀ k:Nat,(∀ z∈Z,∀ a∈asl z,a.pnt.toNat≠k)→nth (zeB C Z H A true).2.1 k=nth A k))
 |[],H,A,_,_,_=>by simp[zeB]
 |z::r,H,A,hZ,hH,hA=>by
  have hZr:ZOk r:=⟨fun y hy=>hZ.id y (by simp[hy]),fun y hy=>hZ.sec y (by simp[hy]),fun y hy=>hZ.pnt y (by simp[hy])⟩
  have hs:=zh4 z.2.id (hZ.id z (by simp)) (zbL z.1 z.2) H true hH (hZ.sec z (by simp))
  have hse:∀ n∈hdl z,0≤n∧n≤99:=hZ.sec z (by simp)
  have hlen:=ze8 z.2.id (zbL z.1 z.2) H true
  rw[zeB]
  rw[show zbL z.1 z.2=hdl z from rfl]at hs hlen ⊢
  revert hs hlen
  generalize zbw z.2.id (hdl z) H true=HT
  intro hs hlen
  cases ht:HT.2 with
  |false =>
   have hf:(zep z.2 C (zch z.1 z.2) A false).2=false:=by
    have:=(zfj z.2 C (zch z.1 z.2) A false hA (hZ.pnt z (by simp))).1
    cases h:(zep z.2 C (zch z.1 z.2) A false).2 with
    |false=>rfl
    |true=>have:=(this.1 h).1;cases this
   rw[hf,zk2]
   refine ⟨?_,fun h=>by cases h⟩
   simp only[Bool.false_eq_true,false_iff,not_and]
   intro h1 _
   have h2:=h1 z (by simp)
   have h3:=hs.1.2 ⟨rfl,h2.1,h2.2.1⟩
   rw[ht]at h3
   cases h3
  |true =>
   have hs1:=(hs.1.1 ht).2
   have hs2:=hs.2 ht
   have ha:=zfj z.2 C (zch z.1 z.2) A true hA (hZ.pnt z (by simp))
   have hpn:=hZ.pnt z (by simp)
   have halen:=zfk z.2 C (zch z.1 z.2) A true
   rw[show (zch z.1 z.2).filter (zdS z.2)=asl z from rfl]at ha
   revert ha halen
   generalize zep z.2 C (zch z.1 z.2) A true=AT
   intro ha halen
   cases hat:AT.2 with
   |false =>
    rw[zk2]
    refine ⟨?_,fun h=>by cases h⟩
    simp only[Bool.false_eq_true,false_iff,not_and]
    intro h1 _
    have h3:=ha.1.2 ⟨rfl,(h1 z (by simp)).2.2⟩
    rw[hat]at h3
    cases h3
   |true =>
    have ha1:=(ha.1.1 hat).2
    have ha2:=ha.2 hat
    have ih:=zd6 C r HT.1 AT.1 hZr (by omega) (by omega)
    have key:∀ y∈r,((∀ n∈hdl y,nth HT.1 n.toNat=0)↔(∀ n∈hdl y,nth H n.toNat=0)∧∀ n∈hdl z,n∉hdl y):=by
     intro y hy
     constructor
     ·intro h
      have hne:∀ n∈hdl z,n∉hdl y:=fun n hn hny=>by
       have:=h n hny
       rw[hs2.1 n hn]at this
       exact hZ.id z (by simp) this
      refine ⟨fun n hn=>?_,hne⟩
      have:=h n hn
      rw[hs2.2 _ (fun m hm e=>hne m hm (by have:=hse m hm;have:=hZ.sec y (by simp[hy]) n hn;rw[show m=n by omega];exact hn))]at this
      exact this
     ·rintro ⟨h1,h2⟩ n hn
      rw[hs2.2 _ (fun m hm e=>h2 m hm (by have:=hse m hm;have:=hZ.sec y (by simp[hy]) n hn;rw[show m=n by omega];exact hn))]
      exact h1 n hn
    refine ⟨?_, ?_⟩
    ·rw[ih.1]
     simp only[List.mem_cons,forall_eq_or_imp,List.pairwise_cons]
     constructor
     ·rintro ⟨h1,h2⟩
      refine ⟨⟨⟨hs1.1,hs1.2,ha1⟩,fun y hy=>⟨((key y hy).1 (h1 y hy).1).1,(h1 y hy).2⟩⟩,fun y hy=>((key y hy).1 (h1 y hy).1).2,h2⟩
     ·rintro ⟨⟨_,h1⟩,h3,h2⟩
      exact ⟨fun y hy=>⟨(key y hy).2 ⟨(h1 y hy).1,h3 y hy⟩,(h1 y hy).2⟩,h2⟩
    ·intro hg
     have h1:=ih.2 hg
     have h2:=ih.1.1 hg
     refine ⟨?_, ?_, ?_⟩
     ·intro y hy
      rcases List.mem_cons.1 hy with rfl|hy
      ·refine ⟨fun n hn=>?_,fun a haa=>?_⟩
       ·rw[h1.2.1 n.toNat fun x hx m hm e=>?_]
        ·exact hs2.1 n hn
        ·have h5:=((key x hx).1 (h2.1 x hx).1).2 n hn
         have:=hse n hn
         have:=hZ.sec x (by simp[hx]) m hm
         exact h5 (by rw[show n=m by omega];exact hm)
       ·have hpa:=hpn a (List.mem_filter.1 haa).1
        rcases Classical.em (∃ x∈r,∃ b∈asl x,b.pnt.toNat=a.pnt.toNat) with ⟨x,hx,b,hb,e⟩|h4
        ·have hpb:=hZ.pnt x (by simp[hx]) b (List.mem_filter.1 hb).1
         rw[←e,(h1.1 x hx).2 b hb,←(h2.1 x hx).2.2 b hb,←ha1 a haa,show b.pnt=a.pnt by omega]
        ·rw[h1.2.2 _ fun x hx b hb e=>h4 ⟨x,hx,b,hb,e⟩]
         exact ha2.1 a haa
      ·exact h1.1 y hy
     ·intro k hk
      rw[h1.2.1 k fun y hy=>hk y (by simp[hy])]
      exact hs2.2 k fun n hn=>hk z (by simp) n hn
     ·intro k hk
      rw[h1.2.2 k fun y hy=>hk y (by simp[hy])]
      exact ha2.2 k fun a haa=>hk z (by simp) a haa
end Go.Lev
namespace Go.Lev
open Go.Eng
theorem ze1 (C:List (Int×Int)) (k v k':Int):zfm (zkS C k v) k'=if k'=k then v else zfm C k':=by
 induction C with
 |nil=>simp[zkS,zfm]
 |cons q r ih =>
  rw[zkS]
  split
  ·rename_i h;subst h;simp only[zfm];split<;>rfl
  ·rename_i h
   simp only[zfm,ih]
   by_cases h1:k'=q.1
   ·rw[if_pos h1,if_pos h1,if_neg (by omega)]
   ·rw[if_neg h1,if_neg h1]
theorem zh2:∀ (l:List Switch) (C:List (Int×Int)) (k:Int),(∀ x∈l,x.id≠k)→zfm (zgj C l) k=zfm C k
 |[],_,_,_=>rfl
 |x::r,C,k,h=>by
  rw[zgj,zh2 r _ k fun y hy=>h y (by simp[hy]),ze1,if_neg (fun e=>h x (by simp) e.symm)]
theorem zkU:∀ (l:List Switch) (C:List (Int×Int)),(l.map Switch.id).Nodup→∀ x∈l,zfm (zgj C l) x.id=x.call
 |[],_,_,x,h=>by cases h
 |y::r,C,hn,x,hx=>by
  simp only[List.map_cons,List.nodup_cons]at hn
  rw[zgj]
  rcases List.mem_cons.1 hx with rfl|hx
  ·rw[zh2 r _ _ fun z hz e=>hn.1 (by rw[←e];exact List.mem_map_of_mem hz),ze1,if_pos rfl]
  ·exact zkU r _ hn.2 x hx
def zcu (s:State) (n:Int):Int:=zfm (zgj [] s.switches) n
def zof (p:Pln) (s:State):List WL:=(zaT p).zip s.locks
theorem zdU {α β:Type} {q:α→β→Bool} {f:α→Int} {g:β→Int} (hq:∀ x y,q x y=true→f x=g y):∀ {a:List α} {b:List β},zaK q a b=true→a.map f=b.map g
 |[],[],_=>rfl
 |[],_::_,h=>by simp[zaK]at h
 |_::_,[],h=>by simp[zaK]at h
 |x::xs,y::ys,h=>by
  simp only[zaK,Bool.and_eq_true]at h
  simp only[List.map_cons,zdU hq h.2,hq x y h.1]
theorem zil {p:Pln} {s:State} (h:zar p s=true):s.tracks.map Track.id=p.sections.map Section.id:=by
 simp only[zar,Bool.and_eq_true]at h
 exact zdU (fun x y h=>by simp only[zim,Bool.and_eq_true,decide_eq_true_eq]at h;exact h.1) h.1
theorem zdf {p:Pln} {s:State} (h:zar p s=true):s.switches.map Switch.id=p.points.map Pnt.id:=by
 simp only[zar,Bool.and_eq_true]at h
 exact zdU (fun x y h=>by simp only[zgp,Bool.and_eq_true,decide_eq_true_eq]at h;exact h.1) h.2.1
theorem lck_ids {p:Pln} {s:State} (h:zar p s=true):s.locks.map Lock.id=p.routes.map Rte.id:=by
 simp only[zar,Bool.and_eq_true]at h
 exact zdU (fun x y h=>by simp only[ze3,Bool.and_eq_true,decide_eq_true_eq]at h;exact h.1) h.2.2
theorem zbF {p:Pln} (h:OkP p):(p.points.map Pnt.id).Nodup:=by
 have hp:=h.pts
 simp only[points,Bool.and_eq_true]at hp
 exact ziw hp.1
theorem zjv {p:Pln} (h:OkP p):(p.routes.map Rte.id).Nodup:=ziw h.rise
theorem zgy {p:Pln} (h:OkP p):(p.sections.map Section.id).Nodup:=ziM (secIds h.sec)
theorem zju {p:Pln} (h:OkP p) {r:Rte} (hr:r∈p.routes):1≤r.id∧r.id≤99:=((zeT _ _).1 h.rise).1 r.id (List.mem_map_of_mem hr)
theorem zbo {p:Pln} (h:zbm p=true):OkP p∧(∀ r∈p.routes,(zak p r).2.2=0)∧∀ r∈p.routes,zcQ p r=true:=by
 simp only[zbm,Bool.and_eq_true]at h
 refine ⟨zg0 h.1,fun r hr=>?_,fun r hr=>?_⟩
 ·simpa using (List.all_eq_true.1 h.2.1) r hr
 ·exact (List.all_eq_true.1 h.2.2) r hr
theorem zfo {p:Pln} {s:State} (h:zar p s=true) {z:WL} (hz:z∈zof p s):∃ i,∃ r∈p.routes,i<p.routes.length∧nth p.routes i=r∧nth s.locks i=z.2∧z.2∈s.locks∧z.1=(zak p r).1∧ze3 z.2 r=true:=by
 have hl:=zaB h
 simp only[zar,Bool.and_eq_true]at h
 obtain ⟨i,hi,e⟩:=List.mem_iff_getElem.1 hz
 have hi1:i<p.routes.length:=by simp only[zof,List.length_zip,zaT,List.length_map]at hi;omega
 have hi2:i<s.locks.length:=by omega
 have e1:z.1=(zak p (nth p.routes i)).1:=by
  rw[←e];simp[zof,zaT,zaV hi1]
 have e2:nth s.locks i=z.2:=by
  rw[←e];simp[zof,zaV hi2]
 refine ⟨i,nth p.routes i,zal hi1,hi1,rfl,e2,by rw[←e2];exact zal hi2,e1, ?_⟩
 rw[←e2]
 exact zeE h.2.2 hi2
theorem zof_at {p:Pln} {s:State} (h:zar p s=true) {i:Nat} (hi:i<p.routes.length):((zak p (nth p.routes i)).1,nth s.locks i)∈zof p s:=by
 have hl:=zaB h
 have hi2:i<s.locks.length:=by omega
 rw[List.mem_iff_getElem]
 refine ⟨i,by simp[zof,zaT];omega, ?_⟩
 simp[zof,zaT,zaV hi,zaV hi2]
theorem zjc {p:Pln} {s:State} (ho:zbm p=true) (h:zar p s=true):ZOk (zof p s):=by
 obtain ⟨hok,hw,_⟩:=zbo ho
 refine ⟨fun z hz=>?_,fun z hz n hn=>?_,fun z hz a ha=>?_⟩
 ·obtain ⟨i,r,hr,_,_,_,_,_,hl⟩:=zfo h hz
  simp only[ze3,Bool.and_eq_true,decide_eq_true_eq]at hl
  have:=zju hok hr
  omega
 ·obtain ⟨i,r,hr,_,_,_,_,e,hl⟩:=zfo h hz
  have hp:=zcC (hw r hr)
  unfold hdl zbL at hn
  split at hn
  ·simp at hn
  ·have h1:n∈r.path++r.over:=by
    rw[e,hp.1,hp.2.1]at hn
    rcases List.mem_append.1 hn with h2|h2
    ·exact List.mem_append.2 (.inl (List.mem_of_mem_drop h2))
    ·exact List.mem_append.2 (.inr h2)
   obtain ⟨q,hq,rfl⟩:=(zdZ hok hr).1 n h1
   have:=zdF hok hq
   omega
 ·obtain ⟨i,r,hr,_,_,_,_,e,hl⟩:=zfo h hz
  unfold zch at ha
  split at ha
  ·simp at ha
  ·rw[e]at ha
   have:=zbK hok hr ha
   omega
theorem zot {p:Pln} {s:State} (ho:zbm p=true) (h:zar p s=true) {z:WL} (hz:z∈zof p s):(hdl z).Nodup:=by
 obtain ⟨hok,hw,_⟩:=zbo ho
 obtain ⟨i,r,hr,_,_,_,_,e,_⟩:=zfo h hz
 have hp:=zcC (hw r hr)
 unfold hdl zbL
 split
 ·simp
 ·rw[e,hp.1,hp.2.1]
  have:=(zdZ hok hr).2
  exact List.Nodup.sublist (List.Sublist.append (List.drop_sublist _ _) (List.Sublist.refl _)) this
theorem zk1 {p:Pln} {s:State} (h:zar p s=true):zaw p s=zeB (zgj [] s.switches) (zof p s) zcW zcW true:=by
 unfold zaw zof
 rw[zou _ _ _ _ _ _ _ (by have:=zaB h;simp[zaT];omega),List.drop_zero]
theorem zih (k:Nat):nth zcW k=0:=by
 rcases Nat.lt_or_ge k 100 with h|h
 ·exact zg4 _ _ _ h
 ·unfold zcW nth;rw[getElem!_neg _ _ (by simp;omega)];rfl
def zll (Z:List WL):Prop:=Z.Pairwise fun z z'=>∀ n∈hdl z,n∉hdl z'
def zl7 (s:State) (Z:List WL):Prop:=∀ z∈Z,∀ a∈asl z,zcu s a.pnt=a.lie
theorem zdW (p:Pln) (s:State):zan p s=0↔zbm p=true∧zar p s=true∧zll (zof p s)∧zl7 s (zof p s):=by
 constructor
 ·intro h
  obtain ⟨h1,h2,h3⟩:=zaj h
  rw[zk1 h2]at h3
  have:=((zd6 _ _ _ _ (zjc h1 h2) zbk zbk).1).1 h3
  exact ⟨h1,h2,this.2,fun z hz a ha=>(this.1 z hz).2.2 a ha⟩
 ·rintro ⟨h1,h2,h3,h4⟩
  unfold zan
  have h5:(zaw p s).2.2=true:=by
   rw[zk1 h2]
   exact ((zd6 _ _ _ _ (zjc h1 h2) zbk zbk).1).2 ⟨fun z hz=>⟨fun n _=>zih _,zot h1 h2 hz,h4 z hz⟩,h3⟩
  rw[if_pos h1,if_pos ⟨h2,h5⟩]
section
variable {p:Pln} {s:State} (h:zan p s=0)
include h
theorem ze9:(∀ z∈zof p s,(∀ n∈hdl z,nth (zaw p s).1 n.toNat=z.2.id)∧∀ a∈asl z,nth (zaw p s).2.1 a.pnt.toNat=a.lie) ∧
  (∀ k:Nat,(∀ z∈zof p s,∀ n∈hdl z,n.toNat≠k)→nth (zaw p s).1 k=0)∧(∀ k:Nat,(∀ z∈zof p s,∀ a∈asl z,a.pnt.toNat≠k)→nth (zaw p s).2.1 k=0):=by
 obtain ⟨h1,h2,h3⟩:=zaj h
 rw[zk1 h2]at h3 ⊢
 have:=(zd6 _ _ _ _ (zjc h1 h2) zbk zbk).2 h3
 refine ⟨this.1,fun k hk=>?_,fun k hk=>?_⟩
 ·rw[this.2.1 k hk];exact zih k
 ·rw[this.2.2 k hk];exact zih k
theorem zk0 {z:WL} (hz:z∈zof p s) {n:Int} (hn:n∈hdl z):nth (zaw p s).1 n.toNat=z.2.id:=((ze9 h).1 z hz).1 n hn
theorem hold_no {n:Int} (h0:0≤n) (hn:∀ z∈zof p s,n∉hdl z):nth (zaw p s).1 n.toNat=0:=(ze9 h).2.1 _ fun z hz m hm e=>by
 have:=(zjc (zaj h).1 (zaj h).2.1).sec z hz m hm
 exact hn z hz (by rw[show n=m by omega];exact hm)
theorem zmG {n:Int} (h0:0≤n):(∃ z∈zof p s,n∈hdl z∧nth (zaw p s).1 n.toNat=z.2.id)∨((∀ z∈zof p s,n∉hdl z)∧nth (zaw p s).1 n.toNat=0):=by
 rcases Classical.em (∃ z∈zof p s,n∈hdl z) with ⟨z,hz,hn⟩|h1
 ·exact .inl ⟨z,hz,hn,zk0 h hz hn⟩
 ·exact .inr ⟨fun z hz hn=>h1 ⟨z,hz,hn⟩,hold_no h h0 fun z hz hn=>h1 ⟨z,hz,hn⟩⟩
theorem zl4 {z:WL} (hz:z∈zof p s) {a:AskR} (ha:a∈asl z):nth (zaw p s).2.1 a.pnt.toNat=a.lie:=((ze9 h).1 z hz).2 a ha
end
end Go.Lev
