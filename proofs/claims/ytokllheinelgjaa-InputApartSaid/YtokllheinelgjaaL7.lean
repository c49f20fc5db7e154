/-
  A part of the engine that walks the functions' codes, and of the functions' contracts. Conditions: those that each theorem names.
-/
import Derived.Test.YtokllheinelgjaaL6
import Derived.IntWalk
set_option linter.unusedSimpArgs false
set_option linter.unusedVariables false
set_option linter.unusedSectionVars false
namespace Go.Lev
open Go.Eng
set_option maxRecDepth 10000
set_option maxHeartbeats 4000000
variable {P:Program} {inv:Nat→Option Nat} {w0:World} {M:Nat→Prop}
def zbW (w:WayR) (l:Lock):List AskR:=if l.phase=0 then [] else w.asks
theorem held_ac2 (hH:HasAll P inv) (hM:∀ b,M b→b<w0.heap.size) (p:Pln) (s:State) (ws:List WayR) (C:List (Int×Int)) (l:Lock) (w:WayR) (H A:List Int) (t:Bool) (hg:0≤l.gone∧l.gone≤w.path.length) (h1:w.path.length≤1000) (h2:w.over.length≤1000) (hs:∀ x∈w.path++w.over,0≤x∧x≤99) (hHl:H.length=100) (hAl:A.length=100) :
  AC P inv w0 M 30 118 [.agg w.c,.agg l.c,.fn 119 [.ptr 3 1 0,.ptr 2 201 0,.ptr 7 4 0]] (stG p s ws C l H A t) fun r0 σ'=>r0=.tup []∧σ'=stG p s ws C l (zbv l.id (zbD w l) H t).1 A (zbv l.id (zbD w l) H t).2:=by
 have h:=held_ac hH hM p s ws C l w H A t hg h1 h2 hs hHl hAl
 by_cases hp:l.phase=0
 ·rw[if_pos hp]at h
  rw[show (zbv l.id (zbD w l) H t).2=t by unfold zbD;rw[if_pos hp];rfl]
  exact h
 ·rw[if_neg hp]at h;exact h
theorem asks_ac2 (hH:HasAll P inv) (hM:∀ b,M b→b<w0.heap.size) (p:Pln) (s:State) (ws:List WayR) (C:List (Int×Int)) (l:Lock) (w:WayR) (H A:List Int) (t:Bool) (h1:w.asks.length≤1000) (hs:∀ a∈w.asks,0≤a.pnt∧a.pnt≤99) (hHl:H.length=100) (hAl:A.length=100) :
  AC P inv w0 M 30 120 [.agg w.c,.agg l.c,.fn 121 [.ptr 3 1 0,.ptr 6 1 0,.ptr 2 201 0]] (stG p s ws C l H A t) fun r0 σ'=>r0=.tup []∧σ'=stG p s ws C l H (zdp l C (zbW w l) A t).1 (zdp l C (zbW w l) A t).2:=by
 have h:=asks_ac hH hM p s ws C l w H A t h1 hs hHl hAl
 by_cases hp:l.phase=0
 ·rw[if_pos hp]at h
  unfold zbW
  rw[if_pos hp]
  exact h
 ·rw[if_neg hp]at h
  unfold zbW
  rw[if_neg hp]
  exact h
theorem zeW (n:Int):∀ (l H:List Int) (t:Bool),(zbv n l H t).1.length=H.length
 |[],H,t=>rfl
 |s::r,H,t=>by
  rw[zbv]
  split
  ·rw[zeW n r];simp
  ·simp
theorem ze7 (l:Lock) (C:List (Int×Int)):∀ (q:List AskR) (A:List Int) (t:Bool),(zdp l C q A t).1.length=A.length
 |[],A,t=>rfl
 |a::r,A,t=>by
  rw[zdp]
  split
  ·split
   ·rw[ze7 l C r];simp
   ·simp
  ·exact ze7 l C r A t
def zgO:List (Int×Int)→List Switch→List (Int×Int)
 |C,[]=>C
 |C,x::r=>zgO (zlS C x.id x.call) r
def zcP (ws:List WayR) (C:List (Int×Int)):Nat→List Lock→List Int→List Int→Bool→List Int×List Int×Bool
 |_,[],H,A,t=>(H,A,t)
 |i,l::r,H,A,t=>zcP ws C (i+1) r (zbv l.id (zbD (nth ws i) l) H t).1 (zdp l C (zbW (nth ws i) l) A (zbv l.id (zbD (nth ws i) l) H t).2).1 (zdp l C (zbW (nth ws i) l) A (zbv l.id (zbD (nth ws i) l) H t).2).2
def zav (p:Pln) (s:State):Bool:=zaq zfQ s.tracks p.sections&&(zaq ziR s.switches p.points&&zaq zem s.locks p.routes)
def zbm (p:Pln):List WayR:=p.routes.map fun r=>(zaF p r).1
def zcN:List Int:=List.replicate 100 0
def gripR (p:Pln) (s:State):(List Int×List Int×Bool)×List WayR:=if zav p s=true then (zcP (zbm p) (zgO [] s.switches) 0 s.locks zcN zcN true,zbm p) else ((zcN,zcN,false),[])
theorem foldG:List.replicate 100 (AV.i .i64 0)++(List.replicate 100 (AV.i .i64 0)++[AV.s0 4])=gc zcN zcN (.s0 4):=rfl
theorem gc_snap0 (H A:List Int) (k:Nat) (σ:AS):zbL k σ (gc H A (.s0 4))=gc H A (.sl 4 []):=by
 unfold gc
 rw[ziW,ziW,zh7,zh7,zcl,zdu,sn_s0]
theorem ovl_gc {H A H' A':List Int} (h:H.length=100) (h':A.length=100) (h2:H'.length=100) (h2':A'.length=100) (W W':AV):ovl (gc H A W) 0 (gc H' A' W')=gc H' A' W':=by
 rw[zk7 _ _ _ (by rw[zfL h h',zfL h2 h2'];omega),List.take_zero,List.nil_append,List.drop_eq_nil_of_le (by rw[zfL h h',zfL h2 h2'];omega),List.append_nil]
theorem zbi:zcN.length=100:=by simp[zcN]
theorem znU (H A:List Int):zah (gc H A (.s0 4))=0:=by
 unfold gc
 rw[zd0,zd0,zdT,zdT];rfl
theorem gc_bare0 (H A:List Int):zai (gc H A (.s0 4))=true:=by
 have h:∀ xs ys:List AV,zai (xs++ys)=(zai xs&&zai ys):=by
  intro xs ys
  induction xs with
  |nil=>simp[zai]
  |cons x xs ih=>simp[zai,ih,Bool.and_assoc]
 unfold gc
 rw[h,h,zeT,zeT];rfl
def stGg (p:Pln) (s:State) (g:List AV) (C:List (Int×Int)) (l:Lock) (t:Bool):List (Nat×AO):=[(0,.cells p.c true),(1,.cells s.c true),(2,.cells g true),(3,.cells [.b t] true),(4,.cells [.fn 110 []] true),(5,.imap C),(6,.cells [.mp 5] true),(7,.cells l.c true)]
theorem held_ac3 (hH:HasAll P inv) (hM:∀ b,M b→b<w0.heap.size) (G:List Int→List Int→AV→List AV) (hG:G=gc) (p:Pln) (s:State) (ws:List WayR) (C:List (Int×Int)) (l:Lock) (w:WayR) (H A:List Int) (t:Bool) (hg:0≤l.gone∧l.gone≤w.path.length) (h1:w.path.length≤1000) (h2:w.over.length≤1000) (hs:∀ x∈w.path++w.over,0≤x∧x≤99) (hHl:H.length=100) (hAl:A.length=100) :
  AC P inv w0 M 30 118 [.agg w.c,.agg l.c,.fn 119 [.ptr 3 1 0,.ptr 2 201 0,.ptr 7 4 0]] (stGg p s (G H A (.sl 4 (ws.map Way.c))) C l t) fun r0 σ'=>r0=.tup []∧σ'=stGg p s (G (zbv l.id (zbD w l) H t).1 A (.sl 4 (ws.map Way.c))) C l (zbv l.id (zbD w l) H t).2:=by
 subst hG
 exact held_ac2 hH hM p s ws C l w H A t hg h1 h2 hs hHl hAl
theorem asks_ac3 (hH:HasAll P inv) (hM:∀ b,M b→b<w0.heap.size) (G:List Int→List Int→AV→List AV) (hG:G=gc) (p:Pln) (s:State) (ws:List WayR) (C:List (Int×Int)) (l:Lock) (w:WayR) (H A:List Int) (t:Bool) (h1:w.asks.length≤1000) (hs:∀ a∈w.asks,0≤a.pnt∧a.pnt≤99) (hHl:H.length=100) (hAl:A.length=100) :
  AC P inv w0 M 30 120 [.agg w.c,.agg l.c,.fn 121 [.ptr 3 1 0,.ptr 6 1 0,.ptr 2 201 0]] (stGg p s (G H A (.sl 4 (ws.map Way.c))) C l t) fun r0 σ'=>r0=.tup []∧σ'=stGg p s (G H (zdp l C (zbW w l) A t).1 (.sl 4 (ws.map Way.c))) C l (zdp l C (zbW w l) A t).2:=by
 subst hG
 exact asks_ac2 hH hM p s ws C l w H A t h1 hs hHl hAl
structure GC (G:List Int→List Int→AV→List AV) (Z:List Int):Prop where
 eq:G=gc
 z:Z=zcN
 fold:List.replicate 100 (AV.i .i64 0)++(List.replicate 100 (AV.i .i64 0)++[AV.s0 4])=G Z Z (.s0 4)
 zl:Z.length=100
 len:∀ {H A:List Int} (W:AV),H.length=100→A.length=100→(G H A W).length=201
 sg:∀ {H A:List Int} (W:AV),H.length=100→A.length=100→List.take 201 (G H A W)=G H A W
 ov:∀ {H A H' A':List Int} (W W':AV),H.length=100→A.length=100→H'.length=100→A'.length=100→ovl (G H A W) 0 (G H' A' W')=G H' A' W'
 bd0:∀ H A:List Int,zah (G H A (.s0 4))=0
 ba0:∀ H A:List Int,zai (G H A (.s0 4))=true
 bd:∀ (H A:List Int) (l:List (List AV)),zah (G H A (.sl 4 l))=0
 ba:∀ (H A:List Int) (l:List (List AV)),zai (G H A (.sl 4 l))=true
 sn0:∀ (H A:List Int) (k:Nat) (σ:AS),zbL k σ (G H A (.s0 4))=G H A (.sl 4 [])
 sn:∀ (H A:List Int) (l:List (List AV)) (k:Nat) (σ:AS),zbL k σ (G H A (.sl 4 l))=G H A (.sl 4 l)
 get:∀ {H A:List Int} (W:AV),H.length=100→A.length=100→(G H A W)[200]?=some W
 set:∀ {H A:List Int} (W W':AV),H.length=100→A.length=100→(G H A W).set 200 W'=G H A W'
theorem GC.mk':GC gc zcN:=⟨rfl,rfl,foldG,zbi,fun W h1 h2=>zfL h1 h2,fun W h1 h2=>List.take_of_length_le (by rw[zfL h1 h2];exact Nat.le_refl _),fun W W' h1 h2 h3 h4=>ovl_gc h1 h2 h3 h4 W W',znU,gc_bare0,fun H A l=>zeY rfl,fun H A l=>znV rfl,fun H A k σ=>gc_snap0 H A k σ,fun H A l k σ=>gc_snap rfl k σ,fun W h1 h2=>gc_get3 h1 h2,fun W W' h1 h2=>gc_set3 h1 h2 W'⟩
theorem zml:∃ G Z,GC G Z:=⟨_,_,GC.mk'⟩
theorem ziy {φ:AF} {σ:AS} {t u l l':Nat} {g:List AV} {b r r':Bool} (h1:zbe φ t=.ptr l 201 0) (h2:zaD σ l=some (.cells g r)) (h3:g.length=201) (hs:List.take 201 g=g) (h4:zbe φ u=.ptr l' 1 0) (h5:zaD σ l'=some (.cells [.b b] r')):zd5 φ σ [.cell t (some 201),.cell u none]=some (.tup [.agg g,.b b]):=by
 have h:zcC g 0 (some 201)=some (.agg g):=by
  rw[al_s,if_pos (by omega),seg,List.drop_zero,hs]
 simp only[zd5,zhe,ares,h1,h4,zcD,h2,h5,h,h3,al_n,List.getElem?_cons_zero,List.length_cons,List.length_nil,if_true,Nat.zero_add]
theorem grip_bad (hH:HasAll P inv) (hI:HasIds P inv) (p:Pln) (hp:Sm p) (s:State) (hs:s.tracks.length≤1000∧s.switches.length≤1000∧s.locks.length≤1000) (hok:OkP p) (hb:zav p s=false):PC P inv 93 [.agg p.c,.agg s.c] (·=.tup [.agg (gc zcN zcN (.sl 4 [])),.b false]):=by
 obtain ⟨G,Z,hg⟩:=zml
 rw[←hg.eq,←hg.z]
 have c1:=eqfTrk hH (caps:=[]) s.tracks p.sections (fun x _ y _=>zkP hH x y) rfl (by omega)
 have c2:=eqfSwt hH (caps:=[.ip 1 [[.fn 110 []]] 0 0]) s.switches p.points (fun x _ y _=>zkT hH x y) rfl (by omega)
 have c3:=eqfLck hH (caps:=[]) s.locks p.routes (fun x _ y hy=>zlb hH x y (by have:=zfo hok hy;omega)) rfl (by omega)
 unfold zav at hb
 revert c1 c2 c3 hb
 generalize zaq zfQ s.tracks p.sections=a1
 generalize zaq ziR s.switches p.points=a2
 generalize zaq zem s.locks p.routes=a3
 intro hb c1 c2 c3
 have hfold:=hg.fold
 have hlen:=hg.len (.s0 4) hg.zl hg.zl
 have hsg:=hg.sg (.s0 4) hg.zl hg.zl
 have hov:=hg.ov (.s0 4) (.s0 4) hg.zl hg.zl hg.zl hg.zl
 have hbd:=hg.bd0 Z Z
 have hba:=hg.ba0 Z Z
 have hsn:=hg.sn0 Z Z
 clear hg
 cases a1
 ·refine zae (F:=cd93) (hH.has _ _ rfl) (Nat.le_of_ble_eq_true rfl) fun w0 M Q hM hQ hR=>?_;have hE:=hH.callable;dsimp only[cd93,qm,ql,qf,qi,qb,qc,qp,qv,qN,qT,qF,qt]at hQ ⊢
  repeat' (first|refine zab [0,1,2,3,4,5,6,7,9,10,11,34,43,45,46,47,48,58,59,60,61] fun K hK=>?_|refine AWp.block ?_|(refine hK.go ?_;clear hK K)|refine Cont.go (by assumption) ?_|(refine cnd2 rfl (fun h=>?_) (fun h=>?_)<;>(try first|exact h.elim|obtain rfl:(_:Bool)=true:=h|obtain rfl:(_:Bool)=false:=h)<;>first|(exfalso;omega)|skip)|((first|refine AWp.reg hE hM ?_|refine AWp.regd hE hM ?_|refine AWp.ret ?_|refine AWp.skip ?_|refine AWp.exit ?_|(refine pk2 (fun h=>?_) (fun h=>?_)<;>(try first|exact h.elim|obtain rfl:(_:Bool)=true:=h|obtain rfl:(_:Bool)=false:=h))|refine zac (fun h=>?_) ?_|refine zaa hM (c1) ?_|(refine hQ _ _ _ rfl ?_;clear hQ hR hE hM)|(refine hR _ _ (hQ _ _ _ rfl ?_);clear hQ hR hE hM)|(refine zaf ?_ ?_;focus first|omega|(refine zad ?_;(refine no_implicit_lambda% (st ?_);try with_reducible exact True.intro);done)))<;>try simp -dsimp -implicitDefEqProofs (disch:=omega) only[go_sem,reduceIte,↓reduceIte,Nat.reduceEqDiff,Nat.reduceLT,Nat.reduceLeDiff,Nat.reduceAdd,Nat.reduceSub,Nat.reduceMul,Int.reduceToNat,Int.reduceLT,Int.reduceLE,Int.reduceEq,Int.reduceNeg,Int.reduceNe,reduceCtorEq,hfold,hlen,hsg,hov,hbd,hba,hsn]))
  all_goals (refine hQ _ _ _ (ziy rfl rfl hlen hsg rfl rfl) ?_;simp only[zey,zcl,zdu,zez,sn_b,hsn])
 ·cases a2
  ·refine zae (F:=cd93) (hH.has _ _ rfl) (Nat.le_of_ble_eq_true rfl) fun w0 M Q hM hQ hR=>?_;have hE:=hH.callable;dsimp only[cd93,qm,ql,qf,qi,qb,qc,qp,qv,qN,qT,qF,qt]at hQ ⊢
   repeat' (first|refine zab [0,1,2,3,4,5,6,7,9,10,11,34,43,45,46,47,48,58,59,60,61] fun K hK=>?_|refine AWp.block ?_|(refine hK.go ?_;clear hK K)|refine Cont.go (by assumption) ?_|(refine cnd2 rfl (fun h=>?_) (fun h=>?_)<;>(try first|exact h.elim|obtain rfl:(_:Bool)=true:=h|obtain rfl:(_:Bool)=false:=h)<;>first|(exfalso;omega)|skip)|((first|refine AWp.reg hE hM ?_|refine AWp.regd hE hM ?_|refine AWp.ret ?_|refine AWp.skip ?_|refine AWp.exit ?_|(refine pk2 (fun h=>?_) (fun h=>?_)<;>(try first|exact h.elim|obtain rfl:(_:Bool)=true:=h|obtain rfl:(_:Bool)=false:=h))|refine zac (fun h=>?_) ?_|refine zaa hM (c1) ?_|(refine zam hM 4 ( c2) ?_ rfl ?_;(focus (simp -dsimp -implicitDefEqProofs (disch:=omega) only[go_sem,reduceIte,↓reduceIte,Nat.reduceEqDiff,Nat.reduceLT,Nat.reduceLeDiff,Nat.reduceAdd,Nat.reduceSub,Nat.reduceMul,Int.reduceToNat,Int.reduceLT,Int.reduceLE,Int.reduceEq,Int.reduceNeg,Int.reduceNe,reduceCtorEq,hfold,hlen,hsg,hov,hbd,hba,hsn]<;>fail)))|(refine hQ _ _ _ rfl ?_;clear hQ hR hE hM)|(refine hR _ _ (hQ _ _ _ rfl ?_);clear hQ hR hE hM)|(refine zaf ?_ ?_;focus first|omega|(refine zad ?_;(refine no_implicit_lambda% (st ?_);try with_reducible exact True.intro);done)))<;>try simp -dsimp -implicitDefEqProofs (disch:=omega) only[go_sem,reduceIte,↓reduceIte,Nat.reduceEqDiff,Nat.reduceLT,Nat.reduceLeDiff,Nat.reduceAdd,Nat.reduceSub,Nat.reduceMul,Int.reduceToNat,Int.reduceLT,Int.reduceLE,Int.reduceEq,Int.reduceNeg,Int.reduceNe,reduceCtorEq,hfold,hlen,hsg,hov,hbd,hba,hsn]))
   all_goals (refine hQ _ _ _ (ziy rfl rfl hlen hsg rfl rfl) ?_;simp only[zey,zcl,zdu,zez,sn_b,hsn])
  ·cases a3
   ·refine zae (F:=cd93) (hH.has _ _ rfl) (Nat.le_of_ble_eq_true rfl) fun w0 M Q hM hQ hR=>?_;have hE:=hH.callable;dsimp only[cd93,qm,ql,qf,qi,qb,qc,qp,qv,qN,qT,qF,qt]at hQ ⊢
    repeat' (first|refine zab [0,1,2,3,4,5,6,7,9,10,11,34,43,45,46,47,48,58,59,60,61] fun K hK=>?_|refine AWp.block ?_|(refine hK.go ?_;clear hK K)|refine Cont.go (by assumption) ?_|(refine cnd2 rfl (fun h=>?_) (fun h=>?_)<;>(try first|exact h.elim|obtain rfl:(_:Bool)=true:=h|obtain rfl:(_:Bool)=false:=h)<;>first|(exfalso;omega)|skip)|((first|refine AWp.reg hE hM ?_|refine AWp.regd hE hM ?_|refine AWp.ret ?_|refine AWp.skip ?_|refine AWp.exit ?_|(refine pk2 (fun h=>?_) (fun h=>?_)<;>(try first|exact h.elim|obtain rfl:(_:Bool)=true:=h|obtain rfl:(_:Bool)=false:=h))|refine zac (fun h=>?_) ?_|refine zaa hM (c1) ?_|(refine zam hM 4 ( c2) ?_ rfl ?_;(focus (simp -dsimp -implicitDefEqProofs (disch:=omega) only[go_sem,reduceIte,↓reduceIte,Nat.reduceEqDiff,Nat.reduceLT,Nat.reduceLeDiff,Nat.reduceAdd,Nat.reduceSub,Nat.reduceMul,Int.reduceToNat,Int.reduceLT,Int.reduceLE,Int.reduceEq,Int.reduceNeg,Int.reduceNe,reduceCtorEq,hfold,hlen,hsg,hov,hbd,hba,hsn]<;>fail)))|refine zaa hM (c3) ?_|(refine hQ _ _ _ rfl ?_;clear hQ hR hE hM)|(refine hR _ _ (hQ _ _ _ rfl ?_);clear hQ hR hE hM)|(refine zaf ?_ ?_;focus first|omega|(refine zad ?_;(refine no_implicit_lambda% (st ?_);try with_reducible exact True.intro);done)))<;>try simp -dsimp -implicitDefEqProofs (disch:=omega) only[go_sem,reduceIte,↓reduceIte,Nat.reduceEqDiff,Nat.reduceLT,Nat.reduceLeDiff,Nat.reduceAdd,Nat.reduceSub,Nat.reduceMul,Int.reduceToNat,Int.reduceLT,Int.reduceLE,Int.reduceEq,Int.reduceNeg,Int.reduceNe,reduceCtorEq,hfold,hlen,hsg,hov,hbd,hba,hsn]))
    all_goals (refine hQ _ _ _ (ziy rfl rfl hlen hsg rfl rfl) ?_;simp only[zey,zcl,zdu,zez,sn_b,hsn])
   ·cases hb
theorem zlV {p:Pln} (hok:OkP p) {l:Lock} {r:Rte} (hr:r∈p.routes) (h:zem l r=true):0≤l.gone∧l.gone≤(r.path.length:Int)-1:=by
 have hl:=zfo hok hr
 simp only[zem,zej,Bool.and_eq_true]at h
 obtain ⟨_,h⟩:=h
 repeat' split at h
 all_goals (simp at h;try omega)
theorem zdq {α β:Type} [Inhabited α] [Inhabited β] {q:α→β→Bool}:∀ {a:List α} {b:List β},zaq q a b=true→∀ {i:Nat},i<a.length→q (nth a i) (nth b i)=true
 |[],_,_,i,hi=>by simp at hi
 |x::xs,[],h,_,_=>by simp[zaq]at h
 |x::xs,y::ys,h,0,_=>by simp only[zaq,Bool.and_eq_true]at h;simpa [nth] using h.1
 |x::xs,y::ys,h,i+1,hi=>by
  simp only[zaq,Bool.and_eq_true]at h
  have:=zdq (q:=q) h.2 (i:=i) (by simpa using hi)
  simpa [nth] using this
theorem grip_ok (hH:HasAll P inv) (hI:HasIds P inv) (p:Pln) (hp:Sm p) (s:State) (hs:s.tracks.length≤1000∧s.switches.length≤1000∧s.locks.length≤1000) (ho:zbt p=true) (hb:zav p s=true):PC P inv 93 [.agg p.c,.agg s.c] (·=.tup [.agg (gc (zcP (zbm p) (zgO [] s.switches) 0 s.locks zcN zcN true).1 (zcP (zbm p) (zgO [] s.switches) 0 s.locks zcN zcN true).2.1 (.sl 4 ((zbm p).map Way.c))),.b (zcP (zbm p) (zgO [] s.switches) 0 s.locks zcN zcN true).2.2]):=by
 have hlr:=hp.rte
 simp only[zbt,Bool.and_eq_true]at ho
 have hok:=zgK ho.1
 have c0:=all_pc hH hI p hp
 rw[zjT,ho.1,if_pos rfl,ho.2.1,if_pos rfl]at c0
 dsimp only at c0
 rw[show (p.routes.map fun r=>(zaF p r).1)=zbm p from rfl]at c0
 simp only[zav,Bool.and_eq_true]at hb
 have c1:=eqfTrk hH (caps:=[]) s.tracks p.sections (fun x _ y _=>zkP hH x y) rfl (by omega)
 have c2:=eqfSwt hH (caps:=[.ip 1 [[.fn 110 []]] 0 0]) s.switches p.points (fun x _ y _=>zkT hH x y) rfl (by omega)
 have c3:=eqfLck hH (caps:=[]) s.locks p.routes (fun x _ y hy=>zlb hH x y (by have:=zfo hok hy;omega)) rfl (by omega)
 rw[hb.1]at c1
 rw[hb.2.1]at c2
 rw[hb.2.2]at c3
 have hll:s.locks.length=p.routes.length:=zbo hb.2.2
 have hwl:(zbm p).length=p.routes.length:=by simp[zbm]
 have hway:∀ i,i<p.routes.length→nth (zbm p) i=(zaF p (nth p.routes i)).1:=fun i hi=>nthm (fun r=>(zaF p r).1) hi
 have hpath:∀ i,i<p.routes.length→(zaF p (nth p.routes i)).1.path=(nth p.routes i).path∧(zaF p (nth p.routes i)).1.over=(nth p.routes i).over:=fun i hi=>by
  have h1:=(List.all_eq_true.1 ho.2.1) _ (zat hi)
  have h2:=zfa (p:=p) (r:=nth p.routes i) (by simpa using h1)
  exact ⟨h2.1,h2.2.1⟩
 obtain ⟨ans,hans⟩:∃ ans,ans=zcP (zbm p) (zgO [] s.switches) 0 s.locks zcN zcN true:=⟨_,rfl⟩
 rw[←hans]
 obtain ⟨ws,hws⟩:∃ ws,ws=zbm p:=⟨_,rfl⟩
 rw[←hws]at c0 hwl hway hans ⊢
 obtain ⟨G,Z,hg⟩:=zml
 rw[←hg.z]at hans
 rw[←hg.eq]
 have hfold:=hg.fold
 have hlen:=hg.len (.s0 4) hg.zl hg.zl
 have hlen2:=hg.len (.sl 4 (ws.map Way.c)) hg.zl hg.zl
 have hset:=hg.set (.s0 4) (.sl 4 (ws.map Way.c)) hg.zl hg.zl
 have hbd0:=hg.bd0 Z Z
 have hbd:=fun H A=>hg.bd H A (ws.map Way.c)
 have hba:=fun H A=>hg.ba H A (ws.map Way.c)
 refine zae (F:=cd93) (hH.has _ _ rfl) (Nat.le_of_ble_eq_true rfl) fun w0 M Q hM hQ hR=>?_;have hE:=hH.callable;dsimp only[cd93,qm,ql,qf,qi,qb,qc,qp,qv,qN,qT,qF,qt]at hQ ⊢
 repeat' (first|refine zab [0,1,2,3,4,5,6,7,9,10,11,34,43,45,46,47,48,58,59,60,61] fun K hK=>?_|refine AWp.block ?_|(refine hK.go ?_;clear hK K)|refine Cont.go (by assumption) ?_|(refine cnd2 rfl (fun h=>?_) (fun h=>?_)<;>(try first|exact h.elim|obtain rfl:(_:Bool)=true:=h|obtain rfl:(_:Bool)=false:=h)<;>first|(exfalso;omega)|skip)|((first|refine AWp.reg hE hM ?_|refine AWp.regd hE hM ?_|refine AWp.ret ?_|refine AWp.skip ?_|refine AWp.exit ?_|(refine pk2 (fun h=>?_) (fun h=>?_)<;>(try first|exact h.elim|obtain rfl:(_:Bool)=true:=h|obtain rfl:(_:Bool)=false:=h))|refine zac (fun h=>?_) ?_|refine zaa hM (c1) ?_|(refine zam hM 4 ( c2) ?_ rfl ?_;(focus (simp -dsimp -implicitDefEqProofs (disch:=omega) only[go_sem,reduceIte,↓reduceIte,Nat.reduceEqDiff,Nat.reduceLT,Nat.reduceLeDiff,Nat.reduceAdd,Nat.reduceSub,Nat.reduceMul,Int.reduceToNat,Int.reduceLT,Int.reduceLE,Int.reduceEq,Int.reduceNeg,Int.reduceNe,reduceCtorEq,hfold,hlen,hbd0,hbd,hba,hset,hlen2]<;>fail)))|refine zaa hM (c3) ?_|refine zaa hM (c0) ?_|(refine hQ _ _ _ rfl ?_;clear hQ hR hE hM)|(refine hR _ _ (hQ _ _ _ rfl ?_);clear hQ hR hE hM)|(refine zaf ?_ ?_;focus first|omega|(refine zad ?_;(refine no_implicit_lambda% (st ?_);try with_reducible exact True.intro);done)))<;>try simp -dsimp -implicitDefEqProofs (disch:=omega) only[go_sem,reduceIte,↓reduceIte,Nat.reduceEqDiff,Nat.reduceLT,Nat.reduceLeDiff,Nat.reduceAdd,Nat.reduceSub,Nat.reduceMul,Int.reduceToNat,Int.reduceLT,Int.reduceLE,Int.reduceEq,Int.reduceNeg,Int.reduceNe,reduceCtorEq,hfold,hlen,hbd0,hbd,hba,hset,hlen2]))
 refine zaj (ι:=Nat×(List (Int×Int))) [3,4,5,7,45,46,47] (fun zz=>[(47,.n zz.1)]) (fun zz=>[(5,.imap zz.2)]) (fun zz=>zz.1≤s.switches.length∧(zgO zz.2 (s.switches.drop zz.1)=zgO [] s.switches)) (fun zz=>s.switches.length-zz.1) (0,([]:List (Int×Int))) ⟨Nat.zero_le _,(by first|rfl|assumption|omega|(simp;done)|(simp;omega)|grind)⟩ (by (try dsimp only);(refine no_implicit_lambda% (st ?_);try with_reducible exact True.intro)<;>first|omega|(simp;done)) (by (try dsimp only);(refine no_implicit_lambda% (st ?_);try with_reducible exact True.intro)<;>first|omega|(simp;done)) ?_;rintro ⟨k,C⟩ ⟨hk,hm⟩;(try dsimp only at hk hm ⊢);rcases Nat.lt_or_ge k s.switches.length with hlt|hge
 ·rw[zao hlt,zgO]at hm
  repeat' (first|refine zab [0,1,2,3,4,5,6,7,9,10,11,34,43,45,46,47,48,58,59,60,61] fun K hK=>?_|refine AWp.block ?_|(refine hK.go ?_;clear hK K)|refine Cont.go (by assumption) ?_|(refine cnd2 rfl (fun h=>?_) (fun h=>?_)<;>(try first|exact h.elim|obtain rfl:(_:Bool)=true:=h|obtain rfl:(_:Bool)=false:=h)<;>first|(exfalso;omega)|skip)|((first|refine AWp.reg hE hM ?_|refine AWp.regd hE hM ?_|refine AWp.ret ?_|refine AWp.skip ?_|refine AWp.exit ?_|(refine pk2 (fun h=>?_) (fun h=>?_)<;>(try first|exact h.elim|obtain rfl:(_:Bool)=true:=h|obtain rfl:(_:Bool)=false:=h))|refine zac (fun h=>?_) ?_|(refine hQ _ _ _ rfl ?_;clear hQ hR hE hM)|(refine hR _ _ (hQ _ _ _ rfl ?_);clear hQ hR hE hM)|(refine zaf ?_ ?_;focus first|omega|(refine zad ?_;(refine no_implicit_lambda% (st ?_);try with_reducible exact True.intro);done)))<;>try simp -dsimp -implicitDefEqProofs (disch:=omega) only[go_sem,reduceIte,↓reduceIte,Nat.reduceEqDiff,Nat.reduceLT,Nat.reduceLeDiff,Nat.reduceAdd,Nat.reduceSub,Nat.reduceMul,Int.reduceToNat,Int.reduceLT,Int.reduceLE,Int.reduceEq,Int.reduceNeg,Int.reduceNe,reduceCtorEq,hbd]))
  refine ⟨(k+1,zlS C (nth s.switches k).id (nth s.switches k).call),by (try dsimp only);omega,⟨by (try dsimp only);omega,hm⟩, ?_⟩;(try dsimp only);(first|omega|(simp;done)|(simp;omega)|((refine no_implicit_lambda% (st ?_);try with_reducible exact True.intro);done)|(simp[List.map_set, *];done)|(simp[List.map_set, *];rfl)|((refine no_implicit_lambda% (st ?_);try with_reducible exact True.intro);simp[List.map_set, *];done)|((try (refine no_implicit_lambda% (st ?_);try with_reducible exact True.intro));(repeat' refine And.intro ?_ ?_)<;>first|omega|rfl|(simp;done)|(simp;omega)|(simp;rfl)|(simp[List.map_set, *];done)|(simp[List.map_set, *];rfl)))
 ·rw[List.drop_eq_nil_of_le hge,zgO]at hm
  rw[←hm]at hans
  clear hm
  repeat' (first|refine zab [0,1,2,3,4,5,6,7,9,10,11,34,43,45,46,47,48,58,59,60,61] fun K hK=>?_|refine AWp.block ?_|(refine hK.go ?_;clear hK K)|refine Cont.go (by assumption) ?_|(refine cnd2 rfl (fun h=>?_) (fun h=>?_)<;>(try first|exact h.elim|obtain rfl:(_:Bool)=true:=h|obtain rfl:(_:Bool)=false:=h)<;>first|(exfalso;omega)|skip)|((first|refine AWp.reg hE hM ?_|refine AWp.regd hE hM ?_|refine AWp.ret ?_|refine AWp.skip ?_|refine AWp.exit ?_|(refine pk2 (fun h=>?_) (fun h=>?_)<;>(try first|exact h.elim|obtain rfl:(_:Bool)=true:=h|obtain rfl:(_:Bool)=false:=h))|refine zac (fun h=>?_) ?_|(refine hQ _ _ _ rfl ?_;clear hQ hR hE hM)|(refine hR _ _ (hQ _ _ _ rfl ?_);clear hQ hR hE hM)|(refine zaf ?_ ?_;focus first|omega|(refine zad ?_;(refine no_implicit_lambda% (st ?_);try with_reducible exact True.intro);done)))<;>try simp -dsimp -implicitDefEqProofs (disch:=omega) only[go_sem,reduceIte,↓reduceIte,Nat.reduceEqDiff,Nat.reduceLT,Nat.reduceLeDiff,Nat.reduceAdd,Nat.reduceSub,Nat.reduceMul,Int.reduceToNat,Int.reduceLT,Int.reduceLE,Int.reduceEq,Int.reduceNeg,Int.reduceNe,reduceCtorEq,hbd]))
  have hzl:Z.length=100∧Z.length=100:=⟨hg.zl,hg.zl⟩
  have hans0:zcP ws C 0 (s.locks.drop 0) Z Z true=ans:=by rw[List.drop_zero];exact hans.symm
  refine zaj (ι:=Nat×(List Int)×(List Int)×Bool) [4,5,7,58,59,60] (fun zz=>[(60,.n zz.1)]) (fun zz=>[(2,.cells (G zz.2.1 zz.2.2.1 (.sl 4 (ws.map Way.c))) true),(3,.cells [.b zz.2.2.2] true)]) (fun zz=>zz.1≤s.locks.length∧(zz.2.1.length=100∧zz.2.2.1.length=100)∧(zcP ws C zz.1 (s.locks.drop zz.1) zz.2.1 zz.2.2.1 zz.2.2.2=ans)) (fun zz=>s.locks.length-zz.1) (0,Z,Z,true) ⟨Nat.zero_le _,(by first|rfl|assumption|omega|(simp;done)|(simp;omega)|grind),(by first|rfl|assumption|omega|(simp;done)|(simp;omega)|grind)⟩ (by (try dsimp only);(refine no_implicit_lambda% (st ?_);try with_reducible exact True.intro)<;>first|omega|(simp;done)) (by (try dsimp only);(refine no_implicit_lambda% (st ?_);try with_reducible exact True.intro)<;>first|omega|(simp;done)) ?_;rintro ⟨i,H,A,t⟩ ⟨hk,hx,hgo⟩;(try dsimp only at hk hx hgo ⊢);rcases Nat.lt_or_ge i s.locks.length with hlt|hge
  ·rw[zao (by assumption),zcP]at hgo
   have hir:i<p.routes.length:=by omega
   have hw:=hway i hir
   have hpa:=hpath i hir
   have hm:=zat hir
   have hls:=zfo hok hm
   have hse:=(zic hok hm).1
   have hwl2:=zf6 hok hm
   have hgn:=zlV hok hm (zdq hb.2.2 (i:=i) (by omega))
   have hap:∀ a∈(nth ws i).asks,0≤a.pnt∧a.pnt≤99:=fun a ha=>by rw[hw]at ha;have:=ze5 hok hm ha;omega
   have hse2:∀ x∈(nth ws i).path++(nth ws i).over,0≤x∧x≤99:=fun x hx=>by
    rw[hw,hpa.1,hpa.2]at hx
    obtain ⟨q,hq,rfl⟩:=hse x hx
    have:=zeE hok hq
    omega
   have hgn2:0≤(nth s.locks i).gone∧(nth s.locks i).gone≤(nth ws i).path.length:=by rw[hw,hpa.1];omega
   have hl1:(nth ws i).path.length≤1000:=by rw[hw];omega
   have hl2:(nth ws i).over.length≤1000:=by rw[hw];omega
   have hl3:(nth ws i).asks.length≤1000:=by rw[hw];omega
   have hget:=hg.get (.sl 4 (ws.map Way.c)) hx.1 hx.2
   have hln:=hg.len (.sl 4 (ws.map Way.c)) hx.1 hx.2
   have hh:=fun C=>held_ac3 hH hM G hg.eq p s ws C (nth s.locks i) (nth ws i) H A t hgn2 hl1 hl2 hse2 hx.1 hx.2
   have hH1:(zbv (nth s.locks i).id (zbD (nth ws i) (nth s.locks i)) H t).1.length=100:=by rw[zeW];exact hx.1
   have hiw:i<ws.length:=by omega
   revert hh hgo hH1
   generalize zbv (nth s.locks i).id (zbD (nth ws i) (nth s.locks i)) H t=HT
   intro hgo hh hH1
   have hget':=hg.get (.sl 4 (ws.map Way.c)) hH1 hx.2
   have hln':=hg.len (.sl 4 (ws.map Way.c)) hH1 hx.2
   have ha:=fun C=>asks_ac3 hH hM G hg.eq p s ws C (nth s.locks i) (nth ws i) HT.1 A HT.2 hl3 hap hH1 hx.2
   have hA1:∀ C,(zdp (nth s.locks i) C (zbW (nth ws i) (nth s.locks i)) A HT.2).1.length=100:=fun C=>by rw[ze7];exact hx.2
   repeat' (first|refine zab [0,1,2,3,4,5,6,7,9,10,11,34,43,45,46,47,48,58,59,60,61] fun K hK=>?_|refine AWp.block ?_|(refine hK.go ?_;clear hK K)|refine Cont.go (by assumption) ?_|(refine cnd2 rfl (fun h=>?_) (fun h=>?_)<;>(try first|exact h.elim|obtain rfl:(_:Bool)=true:=h|obtain rfl:(_:Bool)=false:=h)<;>first|(exfalso;omega)|skip)|((first|refine AWp.reg hE hM ?_|refine AWp.regd hE hM ?_|refine AWp.ret ?_|refine AWp.skip ?_|refine AWp.exit ?_|(refine pk2 (fun h=>?_) (fun h=>?_)<;>(try first|exact h.elim|obtain rfl:(_:Bool)=true:=h|obtain rfl:(_:Bool)=false:=h))|refine zac (fun h=>?_) ?_|(refine zd4 30 (hh C) (by omega) (by first|omega|(simp -dsimp -implicitDefEqProofs (disch:=omega) only[go_sem,reduceIte,↓reduceIte,Nat.reduceEqDiff,Nat.reduceLT,Nat.reduceLeDiff,Nat.reduceAdd,Nat.reduceSub,Nat.reduceMul,Int.reduceToNat,Int.reduceLT,Int.reduceLE,Int.reduceEq,Int.reduceNeg,Int.reduceNe,reduceCtorEq,hbd,hget,hln,hget',hln',stGg];done)|(simp -dsimp -implicitDefEqProofs (disch:=omega) only[go_sem,reduceIte,↓reduceIte,Nat.reduceEqDiff,Nat.reduceLT,Nat.reduceLeDiff,Nat.reduceAdd,Nat.reduceSub,Nat.reduceMul,Int.reduceToNat,Int.reduceLT,Int.reduceLE,Int.reduceEq,Int.reduceNeg,Int.reduceNe,reduceCtorEq,hbd,hget,hln,hget',hln',stGg];omega)) ?_)|(refine zd4 30 (ha C) (by omega) (by first|omega|(simp -dsimp -implicitDefEqProofs (disch:=omega) only[go_sem,reduceIte,↓reduceIte,Nat.reduceEqDiff,Nat.reduceLT,Nat.reduceLeDiff,Nat.reduceAdd,Nat.reduceSub,Nat.reduceMul,Int.reduceToNat,Int.reduceLT,Int.reduceLE,Int.reduceEq,Int.reduceNeg,Int.reduceNe,reduceCtorEq,hbd,hget,hln,hget',hln',stGg];done)|(simp -dsimp -implicitDefEqProofs (disch:=omega) only[go_sem,reduceIte,↓reduceIte,Nat.reduceEqDiff,Nat.reduceLT,Nat.reduceLeDiff,Nat.reduceAdd,Nat.reduceSub,Nat.reduceMul,Int.reduceToNat,Int.reduceLT,Int.reduceLE,Int.reduceEq,Int.reduceNeg,Int.reduceNe,reduceCtorEq,hbd,hget,hln,hget',hln',stGg];omega)) ?_)|(refine hQ _ _ _ rfl ?_;clear hQ hR hE hM)|(refine hR _ _ (hQ _ _ _ rfl ?_);clear hQ hR hE hM)|(refine zaf ?_ ?_;focus first|omega|(refine zad ?_;(refine no_implicit_lambda% (st ?_);try with_reducible exact True.intro);done)))<;>try simp -dsimp -implicitDefEqProofs (disch:=omega) only[go_sem,reduceIte,↓reduceIte,Nat.reduceEqDiff,Nat.reduceLT,Nat.reduceLeDiff,Nat.reduceAdd,Nat.reduceSub,Nat.reduceMul,Int.reduceToNat,Int.reduceLT,Int.reduceLE,Int.reduceEq,Int.reduceNeg,Int.reduceNe,reduceCtorEq,hbd,hget,hln,hget',hln',stGg]))
   exact ⟨(i+1,HT.1,_,_),by dsimp only;omega,⟨by dsimp only;omega,⟨hH1,hA1 _⟩,hgo⟩,by dsimp only;omega,rfl,rfl⟩
  ·rw[List.drop_eq_nil_of_le (by assumption),zcP]at hgo
   have hln:=hg.len (.sl 4 (ws.map Way.c)) hx.1 hx.2
   have hsg:=hg.sg (.sl 4 (ws.map Way.c)) hx.1 hx.2
   have hov:=hg.ov (.sl 4 (ws.map Way.c)) (.sl 4 (ws.map Way.c)) hx.1 hx.2 hx.1 hx.2
   have hba:=hba H A
   have hsn:=hg.sn H A (ws.map Way.c)
   repeat' (first|refine zab [0,1,2,3,4,5,6,7,9,10,11,34,43,45,46,47,48,58,59,60,61] fun K hK=>?_|refine AWp.block ?_|(refine hK.go ?_;clear hK K)|refine Cont.go (by assumption) ?_|(refine cnd2 rfl (fun h=>?_) (fun h=>?_)<;>(try first|exact h.elim|obtain rfl:(_:Bool)=true:=h|obtain rfl:(_:Bool)=false:=h)<;>first|(exfalso;omega)|skip)|((first|refine AWp.reg hE hM ?_|refine AWp.regd hE hM ?_|refine AWp.ret ?_|refine AWp.skip ?_|refine AWp.exit ?_|(refine pk2 (fun h=>?_) (fun h=>?_)<;>(try first|exact h.elim|obtain rfl:(_:Bool)=true:=h|obtain rfl:(_:Bool)=false:=h))|refine zac (fun h=>?_) ?_|(refine hQ _ _ _ rfl ?_;clear hQ hR hE hM)|(refine hR _ _ (hQ _ _ _ rfl ?_);clear hQ hR hE hM)|(refine zaf ?_ ?_;focus first|omega|(refine zad ?_;(refine no_implicit_lambda% (st ?_);try with_reducible exact True.intro);done)))<;>try simp -dsimp -implicitDefEqProofs (disch:=omega) only[go_sem,reduceIte,↓reduceIte,Nat.reduceEqDiff,Nat.reduceLT,Nat.reduceLeDiff,Nat.reduceAdd,Nat.reduceSub,Nat.reduceMul,Int.reduceToNat,Int.reduceLT,Int.reduceLE,Int.reduceEq,Int.reduceNeg,Int.reduceNe,reduceCtorEq,hbd,hln,hsg,hov,hba]))
   refine hQ _ _ _ (ziy rfl rfl hln hsg rfl rfl) ?_
   simp only[zey,zcl,zdu,zez,sn_b,hsn]
   rw[←hgo]
end Go.Lev
namespace Go.Lev
open Go.Eng
set_option maxRecDepth 10000
set_option maxHeartbeats 4000000
variable {P:Program} {inv:Nat→Option Nat} {w0:World} {M:Nat→Prop}
def za0 (p:Pln) (s:State):List Int×List Int×Bool:=zcP (zbm p) (zgO [] s.switches) 0 s.locks zcN zcN true
theorem zgU (ws:List WayR) (C:List (Int×Int)):∀ (l:List Lock) (i:Nat) (H A:List Int) (t:Bool),(zcP ws C i l H A t).1.length=H.length∧(zcP ws C i l H A t).2.1.length=A.length
 |[],_,_,_,_=>⟨rfl,rfl⟩
 |l::r,i,H,A,t=>by
  rw[zcP]
  have:=zgU ws C r (i+1) (zbv l.id (zbD (nth ws i) l) H t).1 (zdp l C (zbW (nth ws i) l) A (zbv l.id (zbD (nth ws i) l) H t).2).1 (zdp l C (zbW (nth ws i) l) A (zbv l.id (zbD (nth ws i) l) H t).2).2
  rw[zeW,ze7]at this
  exact this
def zak (p:Pln) (s:State):Int:=if zbt p=true then (if zav p s=true∧(za0 p s).2.2=true then 0 else 8) else 100
structure GripR where
 hold:List Int
 ask:List Int
 ways:List WayR
 err:Int
def ofR (p:Pln) (s:State):GripR:=if zak p s=0 then ⟨(za0 p s).1,(za0 p s).2.1,zbm p,0⟩ else ⟨zcN,zcN,[],zak p s⟩
theorem zin (p:Pln) (s:State):(ofR p s).hold.length=100∧(ofR p s).ask.length=100:=by
 unfold ofR
 split
 ·have:=zgU (zbm p) (zgO [] s.switches) s.locks 0 zcN zcN true
  exact ⟨this.1.trans zbi,this.2.trans zbi⟩
 ·exact ⟨zbi,zbi⟩
theorem zkn (p:Pln) (s:State):(ofR p s).err=zak p s:=by
 unfold ofR
 split
 ·rename_i h;exact h.symm
 ·rfl
def SmS (s:State):Prop:=s.tracks.length≤1000∧s.switches.length≤1000∧s.locks.length≤1000
theorem zix {φ:AF} {σ:AS} {t u l:Nat} {g:List AV} {e:AV} {r:Bool} {n:Int} (h1:zbe φ t=.ptr l 201 0) (h2:zaD σ l=some (.cells g r)) (h3:g.length=201) (hs:List.take 201 g=g) (h4:zbe φ u=e) (h5:e=.n n):zd5 φ σ [.cell t (some 201),.tmp u]=some (.tup [.agg g,.n n]):=by
 have h:zcC g 0 (some 201)=some (.agg g):=by
  rw[al_s,if_pos (by omega),seg,List.drop_zero,hs]
 subst h5
 simp only[zd5,zhe,ares,h1,h4,zcD,h2,h,h3,if_true]
theorem of_pc (hH:HasAll P inv) (hI:HasIds P inv) (p:Pln) (hp:Sm p) (s:State) (hs:SmS s):PC P inv 79 [.agg p.c,.agg s.c] (·=.tup [.agg (gc (ofR p s).hold (ofR p s).ask (.sl 4 ((ofR p s).ways.map Way.c))),.n (ofR p s).err]):=by
 have c0:=zc6 hH hI p hp
 have hRl:=zin p s
 have c1:zbt p=true→PC P inv 93 [.agg p.c,.agg s.c] (·=.tup [.agg (gc (if zav p s=true then (za0 p s).1 else zcN) (if zav p s=true then (za0 p s).2.1 else zcN) (.sl 4 ((if zav p s=true then zbm p else []).map Way.c))),.b (zav p s&&(za0 p s).2.2)]):=by
  intro ho
  cases hb:zav p s with
  |true=>simpa [za0] using grip_ok hH hI p hp s hs ho hb
  |false =>
   simp only[zbt,Bool.and_eq_true]at ho
   simpa using grip_bad hH hI p hp s hs (zgK ho.1) hb
 have hgl:=zgU (zbm p) (zgO [] s.switches) s.locks 0 zcN zcN true
 have hl1:(if zav p s=true then (za0 p s).1 else zcN).length=100:=by
  split
  ·exact hgl.1.trans zbi
  ·exact zbi
 have hl2:(if zav p s=true then (za0 p s).2.1 else zcN).length=100:=by
  split
  ·exact hgl.2.trans zbi
  ·exact zbi
 have hR:ofR p s=if zbt p=true then (if (zav p s&&(za0 p s).2.2)=true then ⟨(if zav p s=true then (za0 p s).1 else zcN),(if zav p s=true then (za0 p s).2.1 else zcN),(if zav p s=true then zbm p else []),0⟩ else ⟨zcN,zcN,[],8⟩) else ⟨zcN,zcN,[],100⟩:=by
  unfold ofR zak
  cases zbt p<;>cases zav p s<;>cases (za0 p s).2.2<;>rfl
 clear hgl
 unfold zbq at c0
 revert hR c1 hl1 hl2 c0 hRl
 generalize ofR p s=R
 generalize (if zav p s=true then (za0 p s).1 else zcN)=H
 generalize (if zav p s=true then (za0 p s).2.1 else zcN)=A
 generalize (if zav p s=true then zbm p else [])=ws
 generalize (zav p s&&(za0 p s).2.2)=t
 generalize zbt p=o
 obtain ⟨G,Z,hg⟩:=zml
 rw[←hg.eq,←hg.z]
 intro c0 hRl c1 hl1 hl2 hR
 have hfold:=hg.fold
 have hlen0:=hg.len (.s0 4) hg.zl hg.zl
 have hlen:=hg.len (.sl 4 (ws.map Way.c)) hl1 hl2
 have hsg0:=hg.sg (.s0 4) hg.zl hg.zl
 have hsg:=hg.sg (.sl 4 (ws.map Way.c)) hl1 hl2
 have hov0:=hg.ov (.s0 4) (.s0 4) hg.zl hg.zl hg.zl hg.zl
 have hov:=hg.ov (.s0 4) (.sl 4 (ws.map Way.c)) hg.zl hg.zl hl1 hl2
 have hbd0:=hg.bd0 Z Z
 have hba0:=hg.ba0 Z Z
 have hbd:=hg.bd H A (ws.map Way.c)
 have hba:=hg.ba H A (ws.map Way.c)
 have hsn0:=hg.sn0 Z Z
 have hsn:=hg.sn H A (ws.map Way.c)
 cases o with
 |false =>
  rw[if_neg (by simp)]at hR c0
  subst hR
  refine zae (F:=cd79) (hH.has _ _ rfl) (Nat.le_of_ble_eq_true rfl) fun w0 M Q hM hQ hR=>?_;have hE:=hH.callable;dsimp only[cd79,qm,ql,qf,qi,qb,qc,qp,qv,qN,qT,qF,qt]at hQ ⊢
  repeat' (first|refine zab [0,1,2,3,4,5,6,7,8,12,22] fun K hK=>?_|refine AWp.block ?_|(refine hK.go ?_;clear hK K)|refine Cont.go (by assumption) ?_|(refine cnd2 rfl (fun h=>?_) (fun h=>?_)<;>(try first|exact h.elim|obtain rfl:(_:Bool)=true:=h|obtain rfl:(_:Bool)=false:=h)<;>first|(exfalso;omega)|skip)|((first|refine AWp.reg hE hM ?_|refine AWp.regd hE hM ?_|refine AWp.ret ?_|refine AWp.skip ?_|refine AWp.exit ?_|(refine pk2 (fun h=>?_) (fun h=>?_)<;>(try first|exact h.elim|obtain rfl:(_:Bool)=true:=h|obtain rfl:(_:Bool)=false:=h))|refine zac (fun h=>?_) ?_|refine zaa hM (c0) ?_|(refine hQ _ _ _ rfl ?_;clear hQ hR hE hM)|(refine hR _ _ (hQ _ _ _ rfl ?_);clear hQ hR hE hM)|(refine zaf ?_ ?_;focus first|omega|(refine zad ?_;(refine no_implicit_lambda% (st ?_);try with_reducible exact True.intro);done)))<;>try simp -dsimp -implicitDefEqProofs (disch:=omega) only[go_sem,reduceIte,↓reduceIte,Nat.reduceEqDiff,Nat.reduceLT,Nat.reduceLeDiff,Nat.reduceAdd,Nat.reduceSub,Nat.reduceMul,Int.reduceToNat,Int.reduceLT,Int.reduceLE,Int.reduceEq,Int.reduceNeg,Int.reduceNe,reduceCtorEq,hfold,hlen0,hsg0,hov0,hbd0,hba0]))
  all_goals first|(exfalso;contradiction)|skip
  all_goals (refine hQ _ _ _ (zix rfl rfl hlen0 hsg0 rfl rfl) ?_;simp only[zey,zcl,zdu,zez,sn_i,hsn0];rfl)
 |true =>
  rw[if_pos rfl]at hR c0
  have c1:=c1 rfl
  cases t with
  |false =>
   rw[if_neg (by simp)]at hR
   subst hR
   refine zae (F:=cd79) (hH.has _ _ rfl) (Nat.le_of_ble_eq_true rfl) fun w0 M Q hM hQ hR=>?_;have hE:=hH.callable;dsimp only[cd79,qm,ql,qf,qi,qb,qc,qp,qv,qN,qT,qF,qt]at hQ ⊢
   repeat' (first|refine zab [0,1,2,3,4,5,6,7,8,12,22] fun K hK=>?_|refine AWp.block ?_|(refine hK.go ?_;clear hK K)|refine Cont.go (by assumption) ?_|(refine cnd2 rfl (fun h=>?_) (fun h=>?_)<;>(try first|exact h.elim|obtain rfl:(_:Bool)=true:=h|obtain rfl:(_:Bool)=false:=h)<;>first|(exfalso;omega)|skip)|((first|refine AWp.reg hE hM ?_|refine AWp.regd hE hM ?_|refine AWp.ret ?_|refine AWp.skip ?_|refine AWp.exit ?_|(refine pk2 (fun h=>?_) (fun h=>?_)<;>(try first|exact h.elim|obtain rfl:(_:Bool)=true:=h|obtain rfl:(_:Bool)=false:=h))|refine zac (fun h=>?_) ?_|refine zaa hM (c0) ?_|refine zaa hM (c1) ?_|(refine hQ _ _ _ rfl ?_;clear hQ hR hE hM)|(refine hR _ _ (hQ _ _ _ rfl ?_);clear hQ hR hE hM)|(refine zaf ?_ ?_;focus first|omega|(refine zad ?_;(refine no_implicit_lambda% (st ?_);try with_reducible exact True.intro);done)))<;>try simp -dsimp -implicitDefEqProofs (disch:=omega) only[go_sem,reduceIte,↓reduceIte,Nat.reduceEqDiff,Nat.reduceLT,Nat.reduceLeDiff,Nat.reduceAdd,Nat.reduceSub,Nat.reduceMul,Int.reduceToNat,Int.reduceLT,Int.reduceLE,Int.reduceEq,Int.reduceNeg,Int.reduceNe,reduceCtorEq,hfold,hlen0,hsg0,hov0,hbd0,hba0,hlen,hov,hbd,hba]))
   all_goals first|(exfalso;contradiction)|skip
   all_goals (refine hQ _ _ _ (zix rfl rfl hlen0 hsg0 rfl rfl) ?_;simp only[zey,zcl,zdu,zez,sn_i,hsn0];rfl)
  |true =>
   rw[if_pos rfl]at hR
   subst hR
   refine zae (F:=cd79) (hH.has _ _ rfl) (Nat.le_of_ble_eq_true rfl) fun w0 M Q hM hQ hR=>?_;have hE:=hH.callable;dsimp only[cd79,qm,ql,qf,qi,qb,qc,qp,qv,qN,qT,qF,qt]at hQ ⊢
   repeat' (first|refine zab [0,1,2,3,4,5,6,7,8,12,22] fun K hK=>?_|refine AWp.block ?_|(refine hK.go ?_;clear hK K)|refine Cont.go (by assumption) ?_|(refine cnd2 rfl (fun h=>?_) (fun h=>?_)<;>(try first|exact h.elim|obtain rfl:(_:Bool)=true:=h|obtain rfl:(_:Bool)=false:=h)<;>first|(exfalso;omega)|skip)|((first|refine AWp.reg hE hM ?_|refine AWp.regd hE hM ?_|refine AWp.ret ?_|refine AWp.skip ?_|refine AWp.exit ?_|(refine pk2 (fun h=>?_) (fun h=>?_)<;>(try first|exact h.elim|obtain rfl:(_:Bool)=true:=h|obtain rfl:(_:Bool)=false:=h))|refine zac (fun h=>?_) ?_|refine zaa hM (c0) ?_|refine zaa hM (c1) ?_|(refine hQ _ _ _ rfl ?_;clear hQ hR hE hM)|(refine hR _ _ (hQ _ _ _ rfl ?_);clear hQ hR hE hM)|(refine zaf ?_ ?_;focus first|omega|(refine zad ?_;(refine no_implicit_lambda% (st ?_);try with_reducible exact True.intro);done)))<;>try simp -dsimp -implicitDefEqProofs (disch:=omega) only[go_sem,reduceIte,↓reduceIte,Nat.reduceEqDiff,Nat.reduceLT,Nat.reduceLeDiff,Nat.reduceAdd,Nat.reduceSub,Nat.reduceMul,Int.reduceToNat,Int.reduceLT,Int.reduceLE,Int.reduceEq,Int.reduceNeg,Int.reduceNe,reduceCtorEq,hfold,hlen0,hsg0,hov0,hbd0,hba0,hlen,hov,hbd,hba,hsg]))
   all_goals first|(exfalso;contradiction)|skip
   all_goals (refine hQ _ _ _ (zix rfl rfl hlen hsg rfl rfl) ?_;simp only[zey,zcl,zdu,zez,sn_i,hsn])
end Go.Lev
namespace Go.Lev
open Go.Eng
set_option maxRecDepth 10000
set_option maxHeartbeats 4000000
variable {P:Program} {inv:Nat→Option Nat} {w0:World} {M:Nat→Prop}
theorem zaS (hH:HasAll P inv) (hI:HasIds P inv) (p:Pln) (hp:Sm p) (s:State) (hs:SmS s):PC P inv 69 [.agg p.c,.agg s.c] (·=.n (zak p s)):=by
 have c0:=of_pc hH hI p hp s hs
 have hRl:=zin p s
 have hRe:=zkn p s
 rw[←hRe]
 revert c0 hRl
 generalize ofR p s=R
 obtain ⟨G,Z,hg⟩:=zml
 rw[←hg.eq]
 intro c0 hRl
 have hfold:=hg.fold
 have hlen0:=hg.len (.s0 4) hg.zl hg.zl
 have hlen:=hg.len (.sl 4 (R.ways.map Way.c)) hRl.1 hRl.2
 have hov:=hg.ov (.s0 4) (.sl 4 (R.ways.map Way.c)) hg.zl hg.zl hRl.1 hRl.2
 have hbd0:=hg.bd0 Z Z
 have hbd:=hg.bd R.hold R.ask (R.ways.map Way.c)
 have hba:=hg.ba R.hold R.ask (R.ways.map Way.c)
 refine zae (F:=cd69) (hH.has _ _ rfl) (Nat.le_of_ble_eq_true rfl) fun w0 M Q hM hQ hR=>?_;have hE:=hH.callable;dsimp only[cd69,qm,ql,qf,qi,qb,qc,qp,qv,qN,qT,qF,qt]at hQ ⊢
 repeat' (first|refine zab [0,1,2,3,4,6] fun K hK=>?_|refine AWp.block ?_|(refine hK.go ?_;clear hK K)|refine Cont.go (by assumption) ?_|(refine cnd2 rfl (fun h=>?_) (fun h=>?_)<;>(try first|exact h.elim|obtain rfl:(_:Bool)=true:=h|obtain rfl:(_:Bool)=false:=h)<;>first|(exfalso;omega)|skip)|((first|refine AWp.reg hE hM ?_|refine AWp.regd hE hM ?_|refine AWp.ret ?_|refine AWp.skip ?_|refine AWp.exit ?_|(refine pk2 (fun h=>?_) (fun h=>?_)<;>(try first|exact h.elim|obtain rfl:(_:Bool)=true:=h|obtain rfl:(_:Bool)=false:=h))|refine zac (fun h=>?_) ?_|refine zaa hM (c0) ?_|(refine hQ _ _ _ rfl ?_;clear hQ hR hE hM)|(refine hR _ _ (hQ _ _ _ rfl ?_);clear hQ hR hE hM)|(refine zaf ?_ ?_;focus first|omega|(refine zad ?_;(refine no_implicit_lambda% (st ?_);try with_reducible exact True.intro);done)))<;>try simp -dsimp -implicitDefEqProofs (disch:=omega) only[go_sem,reduceIte,↓reduceIte,Nat.reduceEqDiff,Nat.reduceLT,Nat.reduceLeDiff,Nat.reduceAdd,Nat.reduceSub,Nat.reduceMul,Int.reduceToNat,Int.reduceLT,Int.reduceLE,Int.reduceEq,Int.reduceNeg,Int.reduceNe,reduceCtorEq,hfold,hlen0,hlen,hov,hbd0,hbd,hba]))
theorem znJ {α:Type} (q:α→Bool) (l:List α):decide (0≤zcY q 0 l)=l.any q:=by
 have:∀ (l:List α) (k:Int),0≤k→(decide (0≤zcY q k l)=l.any q):=by
  intro l
  induction l with
  |nil=>intro k _;simp[zcY]
  |cons x r ih =>
   intro k hk
   rw[zcY,List.any_cons]
   cases h:q x with
   |true=>simp[hk]
   |false=>simpa using ih (k+1) (by omega)
 exact this l 0 (Int.le_refl _)
theorem hasSec (hH:HasAll P inv) {jc:Nat} {caps:List AV} {q:Section→Bool} (l:List Section) (hc:∀ x∈l,PC P inv jc ([.agg x.c]++caps) (·=.b (q x))) (hl:l.length≤1000000000):PC P inv 80 [.sl 3 (l.map Section.c),.fn jc caps] (·=.b (l.any q)):=by
 have c1:=zgS hH l hc hl
 have e:=znJ q l
 refine zae (F:=cd80) (hH.has _ _ rfl) (Nat.le_of_ble_eq_true rfl) fun w0 M Q hM hQ hR=>?_;have hE:=hH.callable;dsimp only[cd80,qm,ql,qf,qi,qb,qc,qp,qv,qN,qT,qF,qt]at hQ ⊢
 repeat' (first|refine zab [0,1,4] fun K hK=>?_|refine AWp.block ?_|(refine hK.go ?_;clear hK K)|refine Cont.go (by assumption) ?_|(refine cnd2 rfl (fun h=>?_) (fun h=>?_)<;>(try first|exact h.elim|obtain rfl:(_:Bool)=true:=h|obtain rfl:(_:Bool)=false:=h)<;>first|(exfalso;omega)|skip)|((first|refine AWp.reg hE hM ?_|refine AWp.regd hE hM ?_|refine AWp.ret ?_|refine AWp.skip ?_|refine AWp.exit ?_|(refine pk2 (fun h=>?_) (fun h=>?_)<;>(try first|exact h.elim|obtain rfl:(_:Bool)=true:=h|obtain rfl:(_:Bool)=false:=h))|refine zac (fun h=>?_) ?_|refine zaa hM (c1) ?_|(refine hQ _ _ _ rfl ?_;clear hQ hR hE hM)|(refine hR _ _ (hQ _ _ _ rfl ?_);clear hQ hR hE hM)|(refine zaf ?_ ?_;focus first|omega|(refine zad ?_;(refine no_implicit_lambda% (st ?_);try with_reducible exact True.intro);done)))<;>try simp -dsimp -implicitDefEqProofs (disch:=omega) only[go_sem,reduceIte,↓reduceIte,Nat.reduceEqDiff,Nat.reduceLT,Nat.reduceLeDiff,Nat.reduceAdd,Nat.reduceSub,Nat.reduceMul,Int.reduceToNat,Int.reduceLT,Int.reduceLE,Int.reduceEq,Int.reduceNeg,Int.reduceNe,reduceCtorEq,e]))
theorem hasPnt (hH:HasAll P inv) {jc:Nat} {caps:List AV} {q:Pnt→Bool} (l:List Pnt) (hc:∀ x∈l,PC P inv jc ([.agg x.c]++caps) (·=.b (q x))) (hl:l.length≤1000000000):PC P inv 91 [.sl 2 (l.map Pnt.c),.fn jc caps] (·=.b (l.any q)):=by
 have c1:=zkv hH l hc hl
 have e:=znJ q l
 refine zae (F:=cd91) (hH.has _ _ rfl) (Nat.le_of_ble_eq_true rfl) fun w0 M Q hM hQ hR=>?_;have hE:=hH.callable;dsimp only[cd91,qm,ql,qf,qi,qb,qc,qp,qv,qN,qT,qF,qt]at hQ ⊢
 repeat' (first|refine zab [0,1,4] fun K hK=>?_|refine AWp.block ?_|(refine hK.go ?_;clear hK K)|refine Cont.go (by assumption) ?_|(refine cnd2 rfl (fun h=>?_) (fun h=>?_)<;>(try first|exact h.elim|obtain rfl:(_:Bool)=true:=h|obtain rfl:(_:Bool)=false:=h)<;>first|(exfalso;omega)|skip)|((first|refine AWp.reg hE hM ?_|refine AWp.regd hE hM ?_|refine AWp.ret ?_|refine AWp.skip ?_|refine AWp.exit ?_|(refine pk2 (fun h=>?_) (fun h=>?_)<;>(try first|exact h.elim|obtain rfl:(_:Bool)=true:=h|obtain rfl:(_:Bool)=false:=h))|refine zac (fun h=>?_) ?_|refine zaa hM (c1) ?_|(refine hQ _ _ _ rfl ?_;clear hQ hR hE hM)|(refine hR _ _ (hQ _ _ _ rfl ?_);clear hQ hR hE hM)|(refine zaf ?_ ?_;focus first|omega|(refine zad ?_;(refine no_implicit_lambda% (st ?_);try with_reducible exact True.intro);done)))<;>try simp -dsimp -implicitDefEqProofs (disch:=omega) only[go_sem,reduceIte,↓reduceIte,Nat.reduceEqDiff,Nat.reduceLT,Nat.reduceLeDiff,Nat.reduceAdd,Nat.reduceSub,Nat.reduceMul,Int.reduceToNat,Int.reduceLT,Int.reduceLE,Int.reduceEq,Int.reduceNeg,Int.reduceNe,reduceCtorEq,e]))
theorem isSec81 (hH:HasAll P inv) (n:Int) (x:Section):PC P inv 81 ([.agg x.c]++[.ip 1 [[.n n]] 0 0]) (·=.b (decide (x.id=n))):=by
 refine zae (F:=cd81) (hH.has _ _ rfl) (Nat.le_of_ble_eq_true rfl) fun w0 M Q hM hQ hR=>?_;have hE:=hH.callable;dsimp only[cd81,qm,ql,qf,qi,qb,qc,qp,qv,qN,qT,qF,qt]at hQ ⊢
 repeat' (first|refine zab [0,1,2,3] fun K hK=>?_|refine AWp.block ?_|(refine hK.go ?_;clear hK K)|refine Cont.go (by assumption) ?_|(refine cnd2 rfl (fun h=>?_) (fun h=>?_)<;>(try first|exact h.elim|obtain rfl:(_:Bool)=true:=h|obtain rfl:(_:Bool)=false:=h)<;>first|(exfalso;omega)|skip)|((first|refine AWp.reg hE hM ?_|refine AWp.regd hE hM ?_|refine AWp.ret ?_|refine AWp.skip ?_|refine AWp.exit ?_|(refine pk2 (fun h=>?_) (fun h=>?_)<;>(try first|exact h.elim|obtain rfl:(_:Bool)=true:=h|obtain rfl:(_:Bool)=false:=h))|refine zac (fun h=>?_) ?_|(refine hQ _ _ _ rfl ?_;clear hQ hR hE hM)|(refine hR _ _ (hQ _ _ _ rfl ?_);clear hQ hR hE hM)|(refine zaf ?_ ?_;focus first|omega|(refine zad ?_;(refine no_implicit_lambda% (st ?_);try with_reducible exact True.intro);done)))<;>try (refine no_implicit_lambda% (st ?_);try with_reducible exact True.intro)))
theorem isPnt92 (hH:HasAll P inv) (n:Int) (x:Pnt):PC P inv 92 ([.agg x.c]++[.ip 1 [[.n n]] 0 0]) (·=.b (decide (x.id=n))):=by
 refine zae (F:=cd92) (hH.has _ _ rfl) (Nat.le_of_ble_eq_true rfl) fun w0 M Q hM hQ hR=>?_;have hE:=hH.callable;dsimp only[cd92,qm,ql,qf,qi,qb,qc,qp,qv,qN,qT,qF,qt]at hQ ⊢
 repeat' (first|refine zab [0,1,2,3] fun K hK=>?_|refine AWp.block ?_|(refine hK.go ?_;clear hK K)|refine Cont.go (by assumption) ?_|(refine cnd2 rfl (fun h=>?_) (fun h=>?_)<;>(try first|exact h.elim|obtain rfl:(_:Bool)=true:=h|obtain rfl:(_:Bool)=false:=h)<;>first|(exfalso;omega)|skip)|((first|refine AWp.reg hE hM ?_|refine AWp.regd hE hM ?_|refine AWp.ret ?_|refine AWp.skip ?_|refine AWp.exit ?_|(refine pk2 (fun h=>?_) (fun h=>?_)<;>(try first|exact h.elim|obtain rfl:(_:Bool)=true:=h|obtain rfl:(_:Bool)=false:=h))|refine zac (fun h=>?_) ?_|(refine hQ _ _ _ rfl ?_;clear hQ hR hE hM)|(refine hR _ _ (hQ _ _ _ rfl ?_);clear hQ hR hE hM)|(refine zaf ?_ ?_;focus first|omega|(refine zad ?_;(refine no_implicit_lambda% (st ?_);try with_reducible exact True.intro);done)))<;>try (refine no_implicit_lambda% (st ?_);try with_reducible exact True.intro)))
def zlX (p:Pln) (n:Int):Bool:=p.sections.any fun x=>decide (x.id=n)
def zlY (p:Pln) (n:Int):Bool:=p.points.any fun x=>decide (x.id=n)
def zdD (p:Pln) (s:State) (n:Int):Int×Int:=if zak p s=0 then (if zlX p n=true then (nth (za0 p s).1 n.toNat,0) else (0,6)) else (0,zak p s)
def zfN (p:Pln) (s:State) (n:Int):Int×Int:=if zak p s=0 then (if zlY p n=true then (nth (za0 p s).2.1 n.toNat,0) else (0,6)) else (0,zak p s)
theorem zbj {p:Pln} {s:State} (h:zak p s=0):OkP p:=by
 unfold zak at h
 split at h
 ·rename_i ho
  simp only[zbt,Bool.and_eq_true]at ho
  exact zgK ho.1
 ·cases h
theorem zkt {p:Pln} (hok:OkP p) {n:Int} (h:zlX p n=true):0≤n∧n<100:=by
 obtain ⟨x,hx,e⟩:=List.any_eq_true.1 h
 have:=zeE hok hx
 have:x.id=n:=by simpa using e
 omega
theorem zm5 {p:Pln} (hok:OkP p) {x:Pnt} (hx:x∈p.points):1≤x.id∧x.id≤99:=by
 have hp:=hok.pts
 simp only[points,Bool.and_eq_true]at hp
 exact ((zeJ _ _).1 hp.1).1 x.id (List.mem_map_of_mem hx)
theorem zku {p:Pln} (hok:OkP p) {n:Int} (h:zlY p n=true):0≤n∧n<100:=by
 obtain ⟨x,hx,e⟩:=List.any_eq_true.1 h
 have:=zm5 hok hx
 have:x.id=n:=by simpa using e
 omega
theorem GC.get1 {G:List Int→List Int→AV→List AV} {Z:List Int} (hg:GC G Z) {H A:List Int} (W:AV) (h:H.length=100) {i:Nat} (hi:i<100):(G H A W)[i]?=some (.n (nth H i)):=by rw[hg.eq];exact znT h hi
theorem GC.get2 {G:List Int→List Int→AV→List AV} {Z:List Int} (hg:GC G Z) {H A:List Int} (W:AV) (h:H.length=100) (h':A.length=100) {i:Nat} (hi:i<100):(G H A W)[100+i]?=some (.n (nth A i)):=by rw[hg.eq];exact gc_get2 h h' hi
theorem zdC (hH:HasAll P inv) (hI:HasIds P inv) (p:Pln) (hp:Sm p) (s:State) (hs:SmS s) (n:Int):PC P inv 67 [.agg p.c,.agg s.c,.n n] (·=.tup [.n (zdD p s n).1,.n (zdD p s n).2]):=by
 have c0:=of_pc hH hI p hp s hs
 have c1:=hasSec hH p.sections (fun x _=>isSec81 hH n x) (Nat.le_trans hp.sec (by omega))
 have hRl:=zin p s
 have hRe:=zkn p s
 have hRh:zak p s=0→(ofR p s).hold=(za0 p s).1:=fun h=>by unfold ofR;rw[if_pos h]
 have hr:zak p s=0→zlX p n=true→0≤n∧n<100:=fun h1 h2=>zkt (zbj h1) h2
 rw[show (p.sections.any fun x=>decide (x.id=n))=zlX p n from rfl]at c1
 unfold zdD
 revert c0 c1 hRl hRe hRh hr
 generalize ofR p s=R
 generalize zak p s=e
 generalize zlX p n=t
 generalize (za0 p s).1=H
 obtain ⟨G,Z,hg⟩:=zml
 rw[←hg.eq]
 intro c0 c1 hRl hRe hRh hr
 have hfold:=hg.fold
 have hlen0:=hg.len (.s0 4) hg.zl hg.zl
 have hlen:=hg.len (.sl 4 (R.ways.map Way.c)) hRl.1 hRl.2
 have hov:=hg.ov (.s0 4) (.sl 4 (R.ways.map Way.c)) hg.zl hg.zl hRl.1 hRl.2
 have hbd0:=hg.bd0 Z Z
 have hbd:=hg.bd R.hold R.ask (R.ways.map Way.c)
 have hba:=hg.ba R.hold R.ask (R.ways.map Way.c)
 by_cases he:e=0
 ·rw[if_pos he]
  rw[hRe]at c0
  subst he
  cases t with
  |false =>
   rw[if_neg (by simp)]
   refine zae (F:=cd67) (hH.has _ _ rfl) (Nat.le_of_ble_eq_true rfl) fun w0 M Q hM hQ hR=>?_;have hE:=hH.callable;dsimp only[cd67,qm,ql,qf,qi,qb,qc,qp,qv,qN,qT,qF,qt]at hQ ⊢
   repeat' (first|refine zab [0,1,2,3,4,5,6,7,8,9,17,23] fun K hK=>?_|refine AWp.block ?_|(refine hK.go ?_;clear hK K)|refine Cont.go (by assumption) ?_|(refine cnd2 rfl (fun h=>?_) (fun h=>?_)<;>(try first|exact h.elim|obtain rfl:(_:Bool)=true:=h|obtain rfl:(_:Bool)=false:=h)<;>first|(exfalso;omega)|skip)|((first|refine AWp.reg hE hM ?_|refine AWp.regd hE hM ?_|refine AWp.ret ?_|refine AWp.skip ?_|refine AWp.exit ?_|(refine pk2 (fun h=>?_) (fun h=>?_)<;>(try first|exact h.elim|obtain rfl:(_:Bool)=true:=h|obtain rfl:(_:Bool)=false:=h))|refine zac (fun h=>?_) ?_|refine zaa hM (c0) ?_|(refine zam hM 4 ( c1) ?_ rfl ?_;(focus (simp -dsimp -implicitDefEqProofs (disch:=omega) only[go_sem,reduceIte,↓reduceIte,Nat.reduceEqDiff,Nat.reduceLT,Nat.reduceLeDiff,Nat.reduceAdd,Nat.reduceSub,Nat.reduceMul,Int.reduceToNat,Int.reduceLT,Int.reduceLE,Int.reduceEq,Int.reduceNeg,Int.reduceNe,reduceCtorEq,hfold,hlen0,hlen,hov,hbd0,hbd,hba]<;>fail)))|(refine hQ _ _ _ rfl ?_;clear hQ hR hE hM)|(refine hR _ _ (hQ _ _ _ rfl ?_);clear hQ hR hE hM)|(refine zaf ?_ ?_;focus first|omega|(refine zad ?_;(refine no_implicit_lambda% (st ?_);try with_reducible exact True.intro);done)))<;>try simp -dsimp -implicitDefEqProofs (disch:=omega) only[go_sem,reduceIte,↓reduceIte,Nat.reduceEqDiff,Nat.reduceLT,Nat.reduceLeDiff,Nat.reduceAdd,Nat.reduceSub,Nat.reduceMul,Int.reduceToNat,Int.reduceLT,Int.reduceLE,Int.reduceEq,Int.reduceNeg,Int.reduceNe,reduceCtorEq,hfold,hlen0,hlen,hov,hbd0,hbd,hba]))
   all_goals first|rfl|(exfalso;contradiction)|skip
  |true =>
   rw[if_pos rfl]
   have hr:=hr rfl rfl
   have hget:=hg.get1 (A:=R.ask) (.sl 4 (R.ways.map Way.c)) hRl.1 (i:=n.toNat) (by omega)
   rw[hRh rfl]at hget hlen hov hbd hba c0
   refine zae (F:=cd67) (hH.has _ _ rfl) (Nat.le_of_ble_eq_true rfl) fun w0 M Q hM hQ hR=>?_;have hE:=hH.callable;dsimp only[cd67,qm,ql,qf,qi,qb,qc,qp,qv,qN,qT,qF,qt]at hQ ⊢
   repeat' (first|refine zab [0,1,2,3,4,5,6,7,8,9,17,23] fun K hK=>?_|refine AWp.block ?_|(refine hK.go ?_;clear hK K)|refine Cont.go (by assumption) ?_|(refine cnd2 rfl (fun h=>?_) (fun h=>?_)<;>(try first|exact h.elim|obtain rfl:(_:Bool)=true:=h|obtain rfl:(_:Bool)=false:=h)<;>first|(exfalso;omega)|skip)|((first|refine AWp.reg hE hM ?_|refine AWp.regd hE hM ?_|refine AWp.ret ?_|refine AWp.skip ?_|refine AWp.exit ?_|(refine pk2 (fun h=>?_) (fun h=>?_)<;>(try first|exact h.elim|obtain rfl:(_:Bool)=true:=h|obtain rfl:(_:Bool)=false:=h))|refine zac (fun h=>?_) ?_|refine zaa hM (c0) ?_|(refine zam hM 4 ( c1) ?_ rfl ?_;(focus (simp -dsimp -implicitDefEqProofs (disch:=omega) only[go_sem,reduceIte,↓reduceIte,Nat.reduceEqDiff,Nat.reduceLT,Nat.reduceLeDiff,Nat.reduceAdd,Nat.reduceSub,Nat.reduceMul,Int.reduceToNat,Int.reduceLT,Int.reduceLE,Int.reduceEq,Int.reduceNeg,Int.reduceNe,reduceCtorEq,hfold,hlen0,hlen,hov,hbd0,hbd,hba,hget]<;>fail)))|(refine hQ _ _ _ rfl ?_;clear hQ hR hE hM)|(refine hR _ _ (hQ _ _ _ rfl ?_);clear hQ hR hE hM)|(refine zaf ?_ ?_;focus first|omega|(refine zad ?_;(refine no_implicit_lambda% (st ?_);try with_reducible exact True.intro);done)))<;>try simp -dsimp -implicitDefEqProofs (disch:=omega) only[go_sem,reduceIte,↓reduceIte,Nat.reduceEqDiff,Nat.reduceLT,Nat.reduceLeDiff,Nat.reduceAdd,Nat.reduceSub,Nat.reduceMul,Int.reduceToNat,Int.reduceLT,Int.reduceLE,Int.reduceEq,Int.reduceNeg,Int.reduceNe,reduceCtorEq,hfold,hlen0,hlen,hov,hbd0,hbd,hba,hget]))
   all_goals first|rfl|(exfalso;contradiction)|skip
 ·rw[if_neg he]
  rw[hRe]at c0
  refine zae (F:=cd67) (hH.has _ _ rfl) (Nat.le_of_ble_eq_true rfl) fun w0 M Q hM hQ hR=>?_;have hE:=hH.callable;dsimp only[cd67,qm,ql,qf,qi,qb,qc,qp,qv,qN,qT,qF,qt]at hQ ⊢
  repeat' (first|refine zab [0,1,2,3,4,5,6,7,8,9,17,23] fun K hK=>?_|refine AWp.block ?_|(refine hK.go ?_;clear hK K)|refine Cont.go (by assumption) ?_|(refine cnd2 rfl (fun h=>?_) (fun h=>?_)<;>(try first|exact h.elim|obtain rfl:(_:Bool)=true:=h|obtain rfl:(_:Bool)=false:=h)<;>first|(exfalso;omega)|skip)|((first|refine AWp.reg hE hM ?_|refine AWp.regd hE hM ?_|refine AWp.ret ?_|refine AWp.skip ?_|refine AWp.exit ?_|(refine pk2 (fun h=>?_) (fun h=>?_)<;>(try first|exact h.elim|obtain rfl:(_:Bool)=true:=h|obtain rfl:(_:Bool)=false:=h))|refine zac (fun h=>?_) ?_|refine zaa hM (c0) ?_|(refine hQ _ _ _ rfl ?_;clear hQ hR hE hM)|(refine hR _ _ (hQ _ _ _ rfl ?_);clear hQ hR hE hM)|(refine zaf ?_ ?_;focus first|omega|(refine zad ?_;(refine no_implicit_lambda% (st ?_);try with_reducible exact True.intro);done)))<;>try simp -dsimp -implicitDefEqProofs (disch:=omega) only[go_sem,reduceIte,↓reduceIte,Nat.reduceEqDiff,Nat.reduceLT,Nat.reduceLeDiff,Nat.reduceAdd,Nat.reduceSub,Nat.reduceMul,Int.reduceToNat,Int.reduceLT,Int.reduceLE,Int.reduceEq,Int.reduceNeg,Int.reduceNe,reduceCtorEq,hfold,hlen0,hlen,hov,hbd0,hbd,hba]))
  all_goals first|rfl|(exfalso;contradiction)|skip
theorem ziK (hH:HasAll P inv) (hI:HasIds P inv) (p:Pln) (hp:Sm p) (s:State) (hs:SmS s) (n:Int):PC P inv 77 [.agg p.c,.agg s.c,.n n] (·=.tup [.n (zfN p s n).1,.n (zfN p s n).2]):=by
 have c0:=of_pc hH hI p hp s hs
 have c1:=hasPnt hH p.points (fun x _=>isPnt92 hH n x) (Nat.le_trans hp.pts (by omega))
 have hRl:=zin p s
 have hRe:=zkn p s
 have hRh:zak p s=0→(ofR p s).ask=(za0 p s).2.1:=fun h=>by unfold ofR;rw[if_pos h]
 have hr:zak p s=0→zlY p n=true→0≤n∧n<100:=fun h1 h2=>zku (zbj h1) h2
 rw[show (p.points.any fun x=>decide (x.id=n))=zlY p n from rfl]at c1
 unfold zfN
 revert c0 c1 hRl hRe hRh hr
 generalize ofR p s=R
 generalize zak p s=e
 generalize zlY p n=t
 generalize (za0 p s).2.1=A
 obtain ⟨G,Z,hg⟩:=zml
 rw[←hg.eq]
 intro c0 c1 hRl hRe hRh hr
 have hfold:=hg.fold
 have hlen0:=hg.len (.s0 4) hg.zl hg.zl
 have hlen:=hg.len (.sl 4 (R.ways.map Way.c)) hRl.1 hRl.2
 have hov:=hg.ov (.s0 4) (.sl 4 (R.ways.map Way.c)) hg.zl hg.zl hRl.1 hRl.2
 have hbd0:=hg.bd0 Z Z
 have hbd:=hg.bd R.hold R.ask (R.ways.map Way.c)
 have hba:=hg.ba R.hold R.ask (R.ways.map Way.c)
 by_cases he:e=0
 ·rw[if_pos he]
  rw[hRe]at c0
  subst he
  cases t with
  |false =>
   rw[if_neg (by simp)]
   refine zae (F:=cd77) (hH.has _ _ rfl) (Nat.le_of_ble_eq_true rfl) fun w0 M Q hM hQ hR=>?_;have hE:=hH.callable;dsimp only[cd77,qm,ql,qf,qi,qb,qc,qp,qv,qN,qT,qF,qt]at hQ ⊢
   repeat' (first|refine zab [0,1,2,3,4,5,6,7,8,9,17,23] fun K hK=>?_|refine AWp.block ?_|(refine hK.go ?_;clear hK K)|refine Cont.go (by assumption) ?_|(refine cnd2 rfl (fun h=>?_) (fun h=>?_)<;>(try first|exact h.elim|obtain rfl:(_:Bool)=true:=h|obtain rfl:(_:Bool)=false:=h)<;>first|(exfalso;omega)|skip)|((first|refine AWp.reg hE hM ?_|refine AWp.regd hE hM ?_|refine AWp.ret ?_|refine AWp.skip ?_|refine AWp.exit ?_|(refine pk2 (fun h=>?_) (fun h=>?_)<;>(try first|exact h.elim|obtain rfl:(_:Bool)=true:=h|obtain rfl:(_:Bool)=false:=h))|refine zac (fun h=>?_) ?_|refine zaa hM (c0) ?_|(refine zam hM 4 ( c1) ?_ rfl ?_;(focus (simp -dsimp -implicitDefEqProofs (disch:=omega) only[go_sem,reduceIte,↓reduceIte,Nat.reduceEqDiff,Nat.reduceLT,Nat.reduceLeDiff,Nat.reduceAdd,Nat.reduceSub,Nat.reduceMul,Int.reduceToNat,Int.reduceLT,Int.reduceLE,Int.reduceEq,Int.reduceNeg,Int.reduceNe,reduceCtorEq,hfold,hlen0,hlen,hov,hbd0,hbd,hba]<;>fail)))|(refine hQ _ _ _ rfl ?_;clear hQ hR hE hM)|(refine hR _ _ (hQ _ _ _ rfl ?_);clear hQ hR hE hM)|(refine zaf ?_ ?_;focus first|omega|(refine zad ?_;(refine no_implicit_lambda% (st ?_);try with_reducible exact True.intro);done)))<;>try simp -dsimp -implicitDefEqProofs (disch:=omega) only[go_sem,reduceIte,↓reduceIte,Nat.reduceEqDiff,Nat.reduceLT,Nat.reduceLeDiff,Nat.reduceAdd,Nat.reduceSub,Nat.reduceMul,Int.reduceToNat,Int.reduceLT,Int.reduceLE,Int.reduceEq,Int.reduceNeg,Int.reduceNe,reduceCtorEq,hfold,hlen0,hlen,hov,hbd0,hbd,hba]))
   all_goals first|rfl|(exfalso;contradiction)|skip
  |true =>
   rw[if_pos rfl]
   have hr:=hr rfl rfl
   have hget:=hg.get2 (.sl 4 (R.ways.map Way.c)) hRl.1 hRl.2 (i:=n.toNat) (by omega)
   rw[hRh rfl]at hget hlen hov hbd hba c0
   refine zae (F:=cd77) (hH.has _ _ rfl) (Nat.le_of_ble_eq_true rfl) fun w0 M Q hM hQ hR=>?_;have hE:=hH.callable;dsimp only[cd77,qm,ql,qf,qi,qb,qc,qp,qv,qN,qT,qF,qt]at hQ ⊢
   repeat' (first|refine zab [0,1,2,3,4,5,6,7,8,9,17,23] fun K hK=>?_|refine AWp.block ?_|(refine hK.go ?_;clear hK K)|refine Cont.go (by assumption) ?_|(refine cnd2 rfl (fun h=>?_) (fun h=>?_)<;>(try first|exact h.elim|obtain rfl:(_:Bool)=true:=h|obtain rfl:(_:Bool)=false:=h)<;>first|(exfalso;omega)|skip)|((first|refine AWp.reg hE hM ?_|refine AWp.regd hE hM ?_|refine AWp.ret ?_|refine AWp.skip ?_|refine AWp.exit ?_|(refine pk2 (fun h=>?_) (fun h=>?_)<;>(try first|exact h.elim|obtain rfl:(_:Bool)=true:=h|obtain rfl:(_:Bool)=false:=h))|refine zac (fun h=>?_) ?_|refine zaa hM (c0) ?_|(refine zam hM 4 ( c1) ?_ rfl ?_;(focus (simp -dsimp -implicitDefEqProofs (disch:=omega) only[go_sem,reduceIte,↓reduceIte,Nat.reduceEqDiff,Nat.reduceLT,Nat.reduceLeDiff,Nat.reduceAdd,Nat.reduceSub,Nat.reduceMul,Int.reduceToNat,Int.reduceLT,Int.reduceLE,Int.reduceEq,Int.reduceNeg,Int.reduceNe,reduceCtorEq,hfold,hlen0,hlen,hov,hbd0,hbd,hba,hget]<;>fail)))|(refine hQ _ _ _ rfl ?_;clear hQ hR hE hM)|(refine hR _ _ (hQ _ _ _ rfl ?_);clear hQ hR hE hM)|(refine zaf ?_ ?_;focus first|omega|(refine zad ?_;(refine no_implicit_lambda% (st ?_);try with_reducible exact True.intro);done)))<;>try simp -dsimp -implicitDefEqProofs (disch:=omega) only[go_sem,reduceIte,↓reduceIte,Nat.reduceEqDiff,Nat.reduceLT,Nat.reduceLeDiff,Nat.reduceAdd,Nat.reduceSub,Nat.reduceMul,Int.reduceToNat,Int.reduceLT,Int.reduceLE,Int.reduceEq,Int.reduceNeg,Int.reduceNe,reduceCtorEq,hfold,hlen0,hlen,hov,hbd0,hbd,hba,hget]))
   all_goals first|rfl|(exfalso;contradiction)|skip
 ·rw[if_neg he]
  rw[hRe]at c0
  refine zae (F:=cd77) (hH.has _ _ rfl) (Nat.le_of_ble_eq_true rfl) fun w0 M Q hM hQ hR=>?_;have hE:=hH.callable;dsimp only[cd77,qm,ql,qf,qi,qb,qc,qp,qv,qN,qT,qF,qt]at hQ ⊢
  repeat' (first|refine zab [0,1,2,3,4,5,6,7,8,9,17,23] fun K hK=>?_|refine AWp.block ?_|(refine hK.go ?_;clear hK K)|refine Cont.go (by assumption) ?_|(refine cnd2 rfl (fun h=>?_) (fun h=>?_)<;>(try first|exact h.elim|obtain rfl:(_:Bool)=true:=h|obtain rfl:(_:Bool)=false:=h)<;>first|(exfalso;omega)|skip)|((first|refine AWp.reg hE hM ?_|refine AWp.regd hE hM ?_|refine AWp.ret ?_|refine AWp.skip ?_|refine AWp.exit ?_|(refine pk2 (fun h=>?_) (fun h=>?_)<;>(try first|exact h.elim|obtain rfl:(_:Bool)=true:=h|obtain rfl:(_:Bool)=false:=h))|refine zac (fun h=>?_) ?_|refine zaa hM (c0) ?_|(refine hQ _ _ _ rfl ?_;clear hQ hR hE hM)|(refine hR _ _ (hQ _ _ _ rfl ?_);clear hQ hR hE hM)|(refine zaf ?_ ?_;focus first|omega|(refine zad ?_;(refine no_implicit_lambda% (st ?_);try with_reducible exact True.intro);done)))<;>try simp -dsimp -implicitDefEqProofs (disch:=omega) only[go_sem,reduceIte,↓reduceIte,Nat.reduceEqDiff,Nat.reduceLT,Nat.reduceLeDiff,Nat.reduceAdd,Nat.reduceSub,Nat.reduceMul,Int.reduceToNat,Int.reduceLT,Int.reduceLE,Int.reduceEq,Int.reduceNeg,Int.reduceNe,reduceCtorEq,hfold,hlen0,hlen,hov,hbd0,hbd,hba]))
  all_goals first|rfl|(exfalso;contradiction)|skip
end Go.Lev
namespace Go.Lev
open Go.Eng
set_option maxRecDepth 10000
set_option maxHeartbeats 4000000
variable {P:Program} {inv:Nat→Option Nat}
theorem zdO (hH:HasAll P inv) (a b:State) (h1:a.tracks.length≤1000000) (h2:a.switches.length≤1000000) (h3:a.locks.length≤1000000):PC P inv 11 [.agg a.c,.agg b.c] (·=.b (decide (a=b))):=by
 refine zae (F:=cd11) (hH.has _ _ rfl) (Nat.le_of_ble_eq_true rfl) fun w0 M Q hM hQ hR=>?_;have hE:=hH.callable;dsimp only[cd11,qm,ql,qf,qi,qb,qc,qp,qv,qN,qT,qF,qt]at hQ ⊢
 repeat' (first|refine zab [0,1,2,3,4] fun K hK=>?_|refine AWp.block ?_|(refine hK.go ?_;clear hK K)|refine Cont.go (by assumption) ?_|(refine cnd2 rfl (fun h=>?_) (fun h=>?_)<;>(try first|exact h.elim|obtain rfl:(_:Bool)=true:=h|obtain rfl:(_:Bool)=false:=h)<;>first|(exfalso;omega)|skip)|((first|refine AWp.reg hE hM ?_|refine AWp.regd hE hM ?_|refine AWp.ret ?_|refine AWp.skip ?_|refine AWp.exit ?_|(refine pk2 (fun h=>?_) (fun h=>?_)<;>(try first|exact h.elim|obtain rfl:(_:Bool)=true:=h|obtain rfl:(_:Bool)=false:=h))|refine zac (fun h=>?_) ?_|refine zaa hM (ziC hH _ _ (by omega)) ?_|refine zaa hM (zhu hH _ _ (by omega)) ?_|refine zaa hM (zjB hH _ _ (by omega)) ?_|(refine hQ _ _ _ rfl ?_;clear hQ hR hE hM)|(refine hR _ _ (hQ _ _ _ rfl ?_);clear hQ hR hE hM)|(refine zaf ?_ ?_;focus first|omega|(refine zad ?_;(refine no_implicit_lambda% (st ?_);try with_reducible exact True.intro);done)))<;>try (refine no_implicit_lambda% (st ?_);try with_reducible exact True.intro)))
 all_goals (grind[zfO])
def zeR (a b:State):Bool:=zaq zbB a.switches b.switches&&zaq zbu a.locks b.locks
theorem zeF (hH:HasAll P inv) (a b:State) (h2:a.switches.length≤1000000) (h3:a.locks.length≤1000000):PC P inv 12 [.agg a.c,.agg b.c] (·=.b (zeR a b)):=by
 refine zae (F:=cd12) (hH.has _ _ rfl) (Nat.le_of_ble_eq_true rfl) fun w0 M Q hM hQ hR=>?_;have hE:=hH.callable;dsimp only[cd12,qm,ql,qf,qi,qb,qc,qp,qv,qN,qT,qF,qt]at hQ ⊢
 repeat' (first|refine zab [0,1,2,3,4,5,6] fun K hK=>?_|refine AWp.block ?_|(refine hK.go ?_;clear hK K)|refine Cont.go (by assumption) ?_|(refine cnd2 rfl (fun h=>?_) (fun h=>?_)<;>(try first|exact h.elim|obtain rfl:(_:Bool)=true:=h|obtain rfl:(_:Bool)=false:=h)<;>first|(exfalso;omega)|skip)|((first|refine AWp.reg hE hM ?_|refine AWp.regd hE hM ?_|refine AWp.ret ?_|refine AWp.skip ?_|refine AWp.exit ?_|(refine pk2 (fun h=>?_) (fun h=>?_)<;>(try first|exact h.elim|obtain rfl:(_:Bool)=true:=h|obtain rfl:(_:Bool)=false:=h))|refine zac (fun h=>?_) ?_|refine zaa hM (zjC hH _ _ (by omega)) ?_|refine zaa hM (zl6 hH _ _ (by omega)) ?_|(refine hQ _ _ _ rfl ?_;clear hQ hR hE hM)|(refine hR _ _ (hQ _ _ _ rfl ?_);clear hQ hR hE hM)|(refine zaf ?_ ?_;focus first|omega|(refine zad ?_;(refine no_implicit_lambda% (st ?_);try with_reducible exact True.intro);done)))<;>try (refine no_implicit_lambda% (st ?_);try with_reducible exact True.intro)))
 all_goals (grind[zeR])
end Go.Lev
namespace Go.Lev
open Go.Eng
set_option maxRecDepth 10000
set_option maxHeartbeats 4000000
variable {P:Program} {inv:Nat→Option Nat}
theorem sTwin_po (hH:HasAll P inv) (s:State) (h1:s.tracks.length≤1000000) (h2:s.switches.length≤1000000) (h3:s.locks.length≤1000000):PO P inv 9 [.agg s.c] (.agg [.sm 2 (s.tracks.length*2) 0 s.tracks.length 2,.sm 3 (s.switches.length*3) 0 s.switches.length 3,.sm 4 (s.locks.length*4) 0 s.locks.length 4])
  [(2,.cells (s.tracks.map Track.c).flatten (decide (0<s.tracks.length))),(3,.cells (s.switches.map Switch.c).flatten (decide (0<s.switches.length))),(4,.cells (s.locks.map Lock.c).flatten (decide (0<s.locks.length)))]:=by
 have c1:=ziE hH s.tracks h1
 have c2:=zhv hH s.switches h2
 have c3:=zjM hH s.locks h3
 refine zbF (F:=cd9) (hH.has _ _ rfl) (Nat.le_of_ble_eq_true rfl) fun w0 M Q hM hQ hR=>?_;have hE:=hH.callable;dsimp only[cd9,qm,ql,qf,qi,qb,qc,qp,qv,qN,qT,qF,qt]at hQ ⊢
 repeat' (first|refine zab [0,1,2,11] fun K hK=>?_|refine AWp.block ?_|(refine hK.go ?_;clear hK K)|refine Cont.go (by assumption) ?_|(refine cnd2 rfl (fun h=>?_) (fun h=>?_)<;>(try first|exact h.elim|obtain rfl:(_:Bool)=true:=h|obtain rfl:(_:Bool)=false:=h)<;>first|(exfalso;omega)|skip)|((first|refine AWp.reg hE hM ?_|refine AWp.regd hE hM ?_|refine AWp.ret ?_|refine AWp.skip ?_|refine AWp.exit ?_|(refine pk2 (fun h=>?_) (fun h=>?_)<;>(try first|exact h.elim|obtain rfl:(_:Bool)=true:=h|obtain rfl:(_:Bool)=false:=h))|refine zac (fun h=>?_) ?_|refine PO.callK hM ( c1) ?_|refine PO.callK hM ( c2) ?_|refine PO.callK hM ( c3) ?_|(refine zaf ?_ ?_;focus first|omega|(refine zad ?_;(refine no_implicit_lambda% (st ?_);try with_reducible exact True.intro);done)))<;>try (refine no_implicit_lambda% (st ?_);try with_reducible exact True.intro))|(refine hQ _ _ _ rfl ?_;clear hQ hR hE hM)|(refine hR _ _ (hQ _ _ _ rfl ?_);clear hQ hR hE hM))
 left
 constructor
 ·(refine no_implicit_lambda% (st ?_);try with_reducible exact True.intro)
 ·(refine no_implicit_lambda% (st ?_);try with_reducible exact True.intro)
end Go.Lev
namespace Go.Lev
open Go.Eng
set_option maxRecDepth 10000
set_option maxHeartbeats 4000000
variable {P:Program} {inv:Nat→Option Nat}
end Go.Lev
namespace Go.Lev
open Go.Eng
set_option maxRecDepth 10000
set_option maxHeartbeats 4000000
variable {P:Program} {inv:Nat→Option Nat} {w0:World} {M:Nat→Prop}
def stV (s:State):AV:=.agg [.sm 2 (s.tracks.length*2) 0 s.tracks.length 2,.sm 3 (s.switches.length*3) 0 s.switches.length 3,.sm 4 (s.locks.length*4) 0 s.locks.length 4]
def stR (s:State):List (Nat×AO):=[(2,.cells (s.tracks.map Track.c).flatten (decide (0<s.tracks.length))),(3,.cells (s.switches.map Switch.c).flatten (decide (0<s.switches.length))),(4,.cells (s.locks.map Lock.c).flatten (decide (0<s.locks.length)))]
def stVb (b:Nat) (s:State):AV:=.agg [.sm b (s.tracks.length*2) 0 s.tracks.length 2,.sm (b+1) (s.switches.length*3) 0 s.switches.length 3,.sm (b+2) (s.locks.length*4) 0 s.locks.length 4]
def stRb (b:Nat) (s:State):List (Nat×AO):=[(b,.cells (s.tracks.map Track.c).flatten (decide (0<s.tracks.length))),(b+1,.cells (s.switches.map Switch.c).flatten (decide (0<s.switches.length))),(b+2,.cells (s.locks.map Lock.c).flatten (decide (0<s.locks.length)))]
theorem zmF (b:Nat) (s:State):zdt 4 (stRb b s) (stVb b s)=.agg s.c:=by
 have h1:(b+1=b)=False:=by simp
 have h2:(b+2=b)=False:=by simp
 have h3:(b+2=b+1)=False:=by simp
 unfold stRb stVb
 simp -dsimp -implicitDefEqProofs (disch:=omega) only[go_sem,reduceIte,↓reduceIte,Nat.reduceEqDiff,Nat.reduceLT,Nat.reduceLeDiff,Nat.reduceAdd,Nat.reduceSub,Nat.reduceMul,Int.reduceToNat,Int.reduceLT,Int.reduceLE,Int.reduceEq,Int.reduceNeg,Int.reduceNe,reduceCtorEq,h1,h2,h3,if_false]
theorem zfb (b:Nat) (s:State) (e:Int):zdt 4 (stRb b s) (.tup [stVb b s,.n e])=.tup [.agg s.c,.n e]:=by
 rw[zey,zcl,zcl,zdu,zmF,sn_i]
theorem stR_snap (s:State):zdt 4 (stR s) (stV s)=.agg s.c:=by
 unfold stR stV
 (refine no_implicit_lambda% (st ?_);try with_reducible exact True.intro)
theorem zmG (s:State) (e:Int):zdt 4 (stR s) (.tup [stV s,.n e])=.tup [.agg s.c,.n e]:=by
 unfold stR stV
 (refine no_implicit_lambda% (st ?_);try with_reducible exact True.intro)
theorem zcw (hH:HasAll P inv) (s:State) (hs:SmS s):PO P inv 9 [.agg s.c] (stV s) (stR s):=by
 have:=hs.1
 have:=hs.2.1
 have:=hs.2.2
 exact sTwin_po hH s (by omega) (by omega) (by omega)
theorem sTwin_pc (hH:HasAll P inv) (s:State) (hs:SmS s):PC P inv 9 [.agg s.c] (·=.agg s.c):=by
 have:=(zcw hH s hs).pc
 rw[stR_snap]at this
 exact this
def State.z:State:=⟨[],[],[]⟩
def atS (p:Pln):State:=⟨p.sections.map fun x=>⟨x.id,2⟩,p.points.map fun x=>⟨x.id,0,0⟩,p.routes.map fun x=>⟨x.id,0,0,0⟩⟩
def atR (p:Pln):State:=if zbt p=true then atS p else State.z
theorem sAt_po (hH:HasAll P inv) (hI:HasIds P inv) (p:Pln) (hp:Sm p) (ho:zbt p=true):PO P inv 65 [.agg p.c] (.tup [stV (atS p),.n 0]) (stR (atS p)):=by
 have c0:=zc6 hH hI p hp
 rw[show zbq p=0 by unfold zbq;rw[if_pos ho]]at c0
 have h1:=hp.sec
 have h2:=hp.pts
 have h3:=hp.rte
 refine zbF (F:=cd65) (hH.has _ _ rfl) (Nat.le_of_ble_eq_true rfl) fun w0 M Q hM hQ hR=>?_;have hE:=hH.callable;dsimp only[cd65,qm,ql,qf,qi,qb,qc,qp,qv,qN,qT,qF,qt]at hQ ⊢
 repeat' (first|refine zab [0,1,2,3,5,7,9,13,15,16,17,18,31,32,33,34,47,48,49,50] fun K hK=>?_|refine AWp.block ?_|(refine hK.go ?_;clear hK K)|refine Cont.go (by assumption) ?_|(refine cnd2 rfl (fun h=>?_) (fun h=>?_)<;>(try first|exact h.elim|obtain rfl:(_:Bool)=true:=h|obtain rfl:(_:Bool)=false:=h)<;>first|(exfalso;omega)|skip)|((first|refine AWp.reg hE hM ?_|refine AWp.regd hE hM ?_|refine AWp.ret ?_|refine AWp.skip ?_|refine AWp.exit ?_|(refine pk2 (fun h=>?_) (fun h=>?_)<;>(try first|exact h.elim|obtain rfl:(_:Bool)=true:=h|obtain rfl:(_:Bool)=false:=h))|refine zac (fun h=>?_) ?_|refine zaa hM (c0) ?_|(refine zaf ?_ ?_;focus first|omega|(refine zad ?_;(refine no_implicit_lambda% (st ?_);try with_reducible exact True.intro);done)))<;>try (refine no_implicit_lambda% (st ?_);try with_reducible exact True.intro))|(refine hQ _ _ _ rfl ?_;clear hQ hR hE hM)|(refine hR _ _ (hQ _ _ _ rfl ?_);clear hQ hR hE hM))
 all_goals first|(exfalso;contradiction)|skip
 refine zc3 1 0 2 2 rfl rfl (Nat.zero_le _) (by (refine no_implicit_lambda% (st ?_);try with_reducible exact True.intro)) (by (refine no_implicit_lambda% (st ?_);try with_reducible exact True.intro)) ?_
 refine zc3 1 1 3 3 rfl rfl (Nat.zero_le _) (by (refine no_implicit_lambda% (st ?_);try with_reducible exact True.intro)) (by (refine no_implicit_lambda% (st ?_);try with_reducible exact True.intro)) ?_
 refine zc3 1 2 4 4 rfl rfl (Nat.zero_le _) (by (refine no_implicit_lambda% (st ?_);try with_reducible exact True.intro)) (by (refine no_implicit_lambda% (st ?_);try with_reducible exact True.intro)) ?_
 (refine no_implicit_lambda% (st ?_);try with_reducible exact True.intro)
 refine zaj (ι:=Nat×(List Track)) [1,2,3,15,16,17] (fun zz=>[(17,.n zz.1)]) (fun zz=>[(1,.cells [.sm 2 (zz.2.length*2) 0 zz.2.length 2,.sm 3 0 0 0 3,.sm 4 0 0 0 4] true),(2,.cells (zz.2.map Track.c).flatten (decide (0<zz.2.length)))]) (fun zz=>zz.1≤p.sections.length∧(zz.2.length=zz.1)∧(zz.2++(p.sections.drop zz.1).map (fun x=>(⟨x.id,2⟩:Track))=(atS p).tracks)) (fun zz=>p.sections.length-zz.1) (0,([]:List Track)) ⟨Nat.zero_le _,(by first|rfl|assumption|omega|(simp;done)|(simp;omega)|grind),(by first|rfl|assumption|omega|(simp;done)|(simp;omega)|grind)⟩ (by (try dsimp only);(refine no_implicit_lambda% (st ?_);try with_reducible exact True.intro)<;>first|omega|(simp;done)) (by (try dsimp only);(refine no_implicit_lambda% (st ?_);try with_reducible exact True.intro)<;>first|omega|(simp;done)) ?_;rintro ⟨k,ts⟩ ⟨hk,hl,hg⟩;(try dsimp only at hk hl hg ⊢);rcases Nat.lt_or_ge k p.sections.length with hlt|hge
 ·rw[zao hlt,List.map_cons]at hg
  repeat' (first|refine zab [0,1,2,3,5,7,9,13,15,16,17,18,31,32,33,34,47,48,49,50] fun K hK=>?_|refine AWp.block ?_|(refine hK.go ?_;clear hK K)|refine Cont.go (by assumption) ?_|(refine cnd2 rfl (fun h=>?_) (fun h=>?_)<;>(try first|exact h.elim|obtain rfl:(_:Bool)=true:=h|obtain rfl:(_:Bool)=false:=h)<;>first|(exfalso;omega)|skip)|((first|refine AWp.reg hE hM ?_|refine AWp.regd hE hM ?_|refine AWp.ret ?_|refine AWp.skip ?_|refine AWp.exit ?_|(refine pk2 (fun h=>?_) (fun h=>?_)<;>(try first|exact h.elim|obtain rfl:(_:Bool)=true:=h|obtain rfl:(_:Bool)=false:=h))|refine zac (fun h=>?_) ?_|(refine zaf ?_ ?_;focus first|omega|(refine zad ?_;(refine no_implicit_lambda% (st ?_);try with_reducible exact True.intro);done)))<;>try (refine no_implicit_lambda% (st ?_);try with_reducible exact True.intro))|(refine hQ _ _ _ rfl ?_;clear hQ hR hE hM)|(refine hR _ _ (hQ _ _ _ rfl ?_);clear hQ hR hE hM))
  refine ⟨(k+1,ts++[⟨(nth p.sections k).id,2⟩]),by (try dsimp only);omega,⟨by (try dsimp only);omega,by (try dsimp only);simp[hl],by (try dsimp only);rw[←hg];simp⟩, ?_⟩;(try dsimp only);(first|omega|(simp;done)|(simp;omega)|((refine no_implicit_lambda% (st ?_);try with_reducible exact True.intro);done)|(simp[List.map_set, *];done)|(simp[List.map_set, *];rfl)|((refine no_implicit_lambda% (st ?_);try with_reducible exact True.intro);simp[List.map_set, *];done)|((try (refine no_implicit_lambda% (st ?_);try with_reducible exact True.intro));(repeat' refine And.intro ?_ ?_)<;>first|omega|rfl|(simp;done)|(simp;omega)|(simp;rfl)|(simp[List.map_set, *];done)|(simp[List.map_set, *];rfl)))
 ·rw[List.drop_eq_nil_of_le hge,List.map_nil,List.append_nil]at hg
  repeat' (first|refine zab [0,1,2,3,5,7,9,13,15,16,17,18,31,32,33,34,47,48,49,50] fun K hK=>?_|refine AWp.block ?_|(refine hK.go ?_;clear hK K)|refine Cont.go (by assumption) ?_|(refine cnd2 rfl (fun h=>?_) (fun h=>?_)<;>(try first|exact h.elim|obtain rfl:(_:Bool)=true:=h|obtain rfl:(_:Bool)=false:=h)<;>first|(exfalso;omega)|skip)|((first|refine AWp.reg hE hM ?_|refine AWp.regd hE hM ?_|refine AWp.ret ?_|refine AWp.skip ?_|refine AWp.exit ?_|(refine pk2 (fun h=>?_) (fun h=>?_)<;>(try first|exact h.elim|obtain rfl:(_:Bool)=true:=h|obtain rfl:(_:Bool)=false:=h))|refine zac (fun h=>?_) ?_|(refine zaf ?_ ?_;focus first|omega|(refine zad ?_;(refine no_implicit_lambda% (st ?_);try with_reducible exact True.intro);done)))<;>try (refine no_implicit_lambda% (st ?_);try with_reducible exact True.intro))|(refine hQ _ _ _ rfl ?_;clear hQ hR hE hM)|(refine hR _ _ (hQ _ _ _ rfl ?_);clear hQ hR hE hM))
  refine zaj (ι:=Nat×(List Switch)) [1,2,3,31,32,33] (fun zz=>[(33,.n zz.1)]) (fun zz=>[(1,.cells [.sm 2 (ts.length*2) 0 ts.length 2,.sm 3 (zz.2.length*3) 0 zz.2.length 3,.sm 4 0 0 0 4] true),(3,.cells (zz.2.map Switch.c).flatten (decide (0<zz.2.length)))]) (fun zz=>zz.1≤p.points.length∧(zz.2.length=zz.1)∧(zz.2++(p.points.drop zz.1).map (fun x=>(⟨x.id,0,0⟩:Switch))=(atS p).switches)) (fun zz=>p.points.length-zz.1) (0,([]:List Switch)) ⟨Nat.zero_le _,(by first|rfl|assumption|omega|(simp;done)|(simp;omega)|grind),(by first|rfl|assumption|omega|(simp;done)|(simp;omega)|grind)⟩ (by (try dsimp only);(refine no_implicit_lambda% (st ?_);try with_reducible exact True.intro)<;>first|omega|(simp;done)) (by (try dsimp only);(refine no_implicit_lambda% (st ?_);try with_reducible exact True.intro)<;>first|omega|(simp;done)) ?_;rintro ⟨k2,ss⟩ ⟨hk,hl2,hg2⟩;(try dsimp only at hk hl2 hg2 ⊢);rcases Nat.lt_or_ge k2 p.points.length with hlt|hge
  ·rw[zao (by assumption),List.map_cons]at hg2
   repeat' (first|refine zab [0,1,2,3,5,7,9,13,15,16,17,18,31,32,33,34,47,48,49,50] fun K hK=>?_|refine AWp.block ?_|(refine hK.go ?_;clear hK K)|refine Cont.go (by assumption) ?_|(refine cnd2 rfl (fun h=>?_) (fun h=>?_)<;>(try first|exact h.elim|obtain rfl:(_:Bool)=true:=h|obtain rfl:(_:Bool)=false:=h)<;>first|(exfalso;omega)|skip)|((first|refine AWp.reg hE hM ?_|refine AWp.regd hE hM ?_|refine AWp.ret ?_|refine AWp.skip ?_|refine AWp.exit ?_|(refine pk2 (fun h=>?_) (fun h=>?_)<;>(try first|exact h.elim|obtain rfl:(_:Bool)=true:=h|obtain rfl:(_:Bool)=false:=h))|refine zac (fun h=>?_) ?_|(refine zaf ?_ ?_;focus first|omega|(refine zad ?_;(refine no_implicit_lambda% (st ?_);try with_reducible exact True.intro);done)))<;>try (refine no_implicit_lambda% (st ?_);try with_reducible exact True.intro))|(refine hQ _ _ _ rfl ?_;clear hQ hR hE hM)|(refine hR _ _ (hQ _ _ _ rfl ?_);clear hQ hR hE hM))
   refine ⟨(k2+1,ss++[⟨(nth p.points k2).id,0,0⟩]),by (try dsimp only);omega,⟨by (try dsimp only);omega,by (try dsimp only);simp[hl2],by (try dsimp only);rw[←hg2];simp⟩, ?_⟩;(try dsimp only);(first|omega|(simp;done)|(simp;omega)|((refine no_implicit_lambda% (st ?_);try with_reducible exact True.intro);done)|(simp[List.map_set, *];done)|(simp[List.map_set, *];rfl)|((refine no_implicit_lambda% (st ?_);try with_reducible exact True.intro);simp[List.map_set, *];done)|((try (refine no_implicit_lambda% (st ?_);try with_reducible exact True.intro));(repeat' refine And.intro ?_ ?_)<;>first|omega|rfl|(simp;done)|(simp;omega)|(simp;rfl)|(simp[List.map_set, *];done)|(simp[List.map_set, *];rfl)))
  ·rw[List.drop_eq_nil_of_le (by assumption),List.map_nil,List.append_nil]at hg2
   repeat' (first|refine zab [0,1,2,3,5,7,9,13,15,16,17,18,31,32,33,34,47,48,49,50] fun K hK=>?_|refine AWp.block ?_|(refine hK.go ?_;clear hK K)|refine Cont.go (by assumption) ?_|(refine cnd2 rfl (fun h=>?_) (fun h=>?_)<;>(try first|exact h.elim|obtain rfl:(_:Bool)=true:=h|obtain rfl:(_:Bool)=false:=h)<;>first|(exfalso;omega)|skip)|((first|refine AWp.reg hE hM ?_|refine AWp.regd hE hM ?_|refine AWp.ret ?_|refine AWp.skip ?_|refine AWp.exit ?_|(refine pk2 (fun h=>?_) (fun h=>?_)<;>(try first|exact h.elim|obtain rfl:(_:Bool)=true:=h|obtain rfl:(_:Bool)=false:=h))|refine zac (fun h=>?_) ?_|(refine zaf ?_ ?_;focus first|omega|(refine zad ?_;(refine no_implicit_lambda% (st ?_);try with_reducible exact True.intro);done)))<;>try (refine no_implicit_lambda% (st ?_);try with_reducible exact True.intro))|(refine hQ _ _ _ rfl ?_;clear hQ hR hE hM)|(refine hR _ _ (hQ _ _ _ rfl ?_);clear hQ hR hE hM))
   refine zaj (ι:=Nat×(List Lock)) [2,3,47,48,49] (fun zz=>[(49,.n zz.1)]) (fun zz=>[(1,.cells [.sm 2 (ts.length*2) 0 ts.length 2,.sm 3 (ss.length*3) 0 ss.length 3,.sm 4 (zz.2.length*4) 0 zz.2.length 4] true),(4,.cells (zz.2.map Lock.c).flatten (decide (0<zz.2.length)))]) (fun zz=>zz.1≤p.routes.length∧(zz.2.length=zz.1)∧(zz.2++(p.routes.drop zz.1).map (fun x=>(⟨x.id,0,0,0⟩:Lock))=(atS p).locks)) (fun zz=>p.routes.length-zz.1) (0,([]:List Lock)) ⟨Nat.zero_le _,(by first|rfl|assumption|omega|(simp;done)|(simp;omega)|grind),(by first|rfl|assumption|omega|(simp;done)|(simp;omega)|grind)⟩ (by (try dsimp only);(refine no_implicit_lambda% (st ?_);try with_reducible exact True.intro)<;>first|omega|(simp;done)) (by (try dsimp only);(refine no_implicit_lambda% (st ?_);try with_reducible exact True.intro)<;>first|omega|(simp;done)) ?_;rintro ⟨k3,ls⟩ ⟨hk,hl3,hg3⟩;(try dsimp only at hk hl3 hg3 ⊢);rcases Nat.lt_or_ge k3 p.routes.length with hlt|hge
   ·rw[zao (by assumption),List.map_cons]at hg3
    repeat' (first|refine zab [0,1,2,3,5,7,9,13,15,16,17,18,31,32,33,34,47,48,49,50] fun K hK=>?_|refine AWp.block ?_|(refine hK.go ?_;clear hK K)|refine Cont.go (by assumption) ?_|(refine cnd2 rfl (fun h=>?_) (fun h=>?_)<;>(try first|exact h.elim|obtain rfl:(_:Bool)=true:=h|obtain rfl:(_:Bool)=false:=h)<;>first|(exfalso;omega)|skip)|((first|refine AWp.reg hE hM ?_|refine AWp.regd hE hM ?_|refine AWp.ret ?_|refine AWp.skip ?_|refine AWp.exit ?_|(refine pk2 (fun h=>?_) (fun h=>?_)<;>(try first|exact h.elim|obtain rfl:(_:Bool)=true:=h|obtain rfl:(_:Bool)=false:=h))|refine zac (fun h=>?_) ?_|(refine zaf ?_ ?_;focus first|omega|(refine zad ?_;(refine no_implicit_lambda% (st ?_);try with_reducible exact True.intro);done)))<;>try (refine no_implicit_lambda% (st ?_);try with_reducible exact True.intro))|(refine hQ _ _ _ rfl ?_;clear hQ hR hE hM)|(refine hR _ _ (hQ _ _ _ rfl ?_);clear hQ hR hE hM))
    refine ⟨(k3+1,ls++[⟨(nth p.routes k3).id,0,0,0⟩]),by (try dsimp only);omega,⟨by (try dsimp only);omega,by (try dsimp only);simp[hl3],by (try dsimp only);rw[←hg3];simp⟩, ?_⟩;(try dsimp only);(first|omega|(simp;done)|(simp;omega)|((refine no_implicit_lambda% (st ?_);try with_reducible exact True.intro);done)|(simp[List.map_set, *];done)|(simp[List.map_set, *];rfl)|((refine no_implicit_lambda% (st ?_);try with_reducible exact True.intro);simp[List.map_set, *];done)|((try (refine no_implicit_lambda% (st ?_);try with_reducible exact True.intro));(repeat' refine And.intro ?_ ?_)<;>first|omega|rfl|(simp;done)|(simp;omega)|(simp;rfl)|(simp[List.map_set, *];done)|(simp[List.map_set, *];rfl)))
   ·rw[List.drop_eq_nil_of_le (by assumption),List.map_nil,List.append_nil]at hg3
    repeat' (first|refine zab [0,1,2,3,5,7,9,13,15,16,17,18,31,32,33,34,47,48,49,50] fun K hK=>?_|refine AWp.block ?_|(refine hK.go ?_;clear hK K)|refine Cont.go (by assumption) ?_|(refine cnd2 rfl (fun h=>?_) (fun h=>?_)<;>(try first|exact h.elim|obtain rfl:(_:Bool)=true:=h|obtain rfl:(_:Bool)=false:=h)<;>first|(exfalso;omega)|skip)|((first|refine AWp.reg hE hM ?_|refine AWp.regd hE hM ?_|refine AWp.ret ?_|refine AWp.skip ?_|refine AWp.exit ?_|(refine pk2 (fun h=>?_) (fun h=>?_)<;>(try first|exact h.elim|obtain rfl:(_:Bool)=true:=h|obtain rfl:(_:Bool)=false:=h))|refine zac (fun h=>?_) ?_|(refine zaf ?_ ?_;focus first|omega|(refine zad ?_;(refine no_implicit_lambda% (st ?_);try with_reducible exact True.intro);done)))<;>try (refine no_implicit_lambda% (st ?_);try with_reducible exact True.intro))|(refine hQ _ _ _ rfl ?_;clear hQ hR hE hM)|(refine hR _ _ (hQ _ _ _ rfl ?_);clear hQ hR hE hM))
    left
    unfold stV stR
    rw[←hg,←hg2,←hg3]
    constructor
    ·(refine no_implicit_lambda% (st ?_);try with_reducible exact True.intro)
    ·(refine no_implicit_lambda% (st ?_);try with_reducible exact True.intro)
theorem sAt_pc (hH:HasAll P inv) (hI:HasIds P inv) (p:Pln) (hp:Sm p):PC P inv 65 [.agg p.c] (·=.tup [.agg (atR p).c,.n (zbq p)]):=by
 cases ho:zbt p with
 |true =>
  have:=(sAt_po hH hI p hp ho).pc
  rw[zmG]at this
  unfold atR zbq
  rw[if_pos ho,if_pos ho]
  exact this
 |false =>
  have c0:=zc6 hH hI p hp
  have e:zbq p=100:=by unfold zbq;rw[ho,if_neg (by simp)]
  rw[e]at c0 ⊢
  unfold atR
  rw[ho,if_neg (by simp)]
  refine zae (F:=cd65) (hH.has _ _ rfl) (Nat.le_of_ble_eq_true rfl) fun w0 M Q hM hQ hR=>?_;have hE:=hH.callable;dsimp only[cd65,qm,ql,qf,qi,qb,qc,qp,qv,qN,qT,qF,qt]at hQ ⊢
  repeat' (first|refine zab [0,1,2,3,5,7,9,13,15,16,17,18,31,32,33,34,47,48,49,50] fun K hK=>?_|refine AWp.block ?_|(refine hK.go ?_;clear hK K)|refine Cont.go (by assumption) ?_|(refine cnd2 rfl (fun h=>?_) (fun h=>?_)<;>(try first|exact h.elim|obtain rfl:(_:Bool)=true:=h|obtain rfl:(_:Bool)=false:=h)<;>first|(exfalso;omega)|skip)|((first|refine AWp.reg hE hM ?_|refine AWp.regd hE hM ?_|refine AWp.ret ?_|refine AWp.skip ?_|refine AWp.exit ?_|(refine pk2 (fun h=>?_) (fun h=>?_)<;>(try first|exact h.elim|obtain rfl:(_:Bool)=true:=h|obtain rfl:(_:Bool)=false:=h))|refine zac (fun h=>?_) ?_|refine zaa hM (c0) ?_|(refine hQ _ _ _ rfl ?_;clear hQ hR hE hM)|(refine hR _ _ (hQ _ _ _ rfl ?_);clear hQ hR hE hM)|(refine zaf ?_ ?_;focus first|omega|(refine zad ?_;(refine no_implicit_lambda% (st ?_);try with_reducible exact True.intro);done)))<;>try (refine no_implicit_lambda% (st ?_);try with_reducible exact True.intro)))
  all_goals first|rfl|(exfalso;contradiction)|skip
end Go.Lev
namespace Go.Lev
open Go.Eng
set_option maxRecDepth 10000
set_option maxHeartbeats 4000000
variable {P:Program} {inv:Nat→Option Nat} {w0:World} {M:Nat→Prop}
section upd
variable {α:Type} [Inhabited α]
def zhm (f:Nat→α→α) (k:Nat) (l:List α):List α:=(l.mapIdx f).take k++l.drop k
theorem zc4 (f:Nat→α→α) (k:Nat) (l:List α):(zhm f k l).length=l.length:=by simp[zhm];omega
theorem zmt (f:Nat→α→α) (l:List α):zhm f 0 l=l:=by simp[zhm]
theorem zh2 (f:Nat→α→α) {k:Nat} {l:List α} (h:l.length≤k):zhm f k l=l.mapIdx f:=by
 unfold zhm
 rw[List.take_of_length_le (by simpa using h),List.drop_eq_nil_of_le h,List.append_nil]
theorem zes (f:Nat→α→α) {k:Nat} {l:List α} (h:k<l.length):nth (zhm f k l) k=nth l k:=by
 rw[za3 (by rw[zc4];exact h),za3 h]
 unfold zhm
 rw[List.getElem_append_right (by simp;omega)]
 simp[Nat.min_eq_left (Nat.le_of_lt h)]
theorem zh1 (f:Nat→α→α) {k:Nat} {l:List α} (h:k<l.length):(zhm f k l).set k (f k (nth l k))=zhm f (k+1) l:=by
 unfold zhm
 rw[List.set_append_right _ _ (by simp;omega),List.length_take,List.length_mapIdx,Nat.min_eq_left (Nat.le_of_lt h),Nat.sub_self,zao h,List.set_cons_zero]
 rw[show (l.mapIdx f).take (k+1)=(l.mapIdx f).take k++[f k (nth l k)] by
  rw[List.take_succ_eq_append_getElem (by simpa using h),List.getElem_mapIdx,za3 h]]
 simp
attribute [go_sem] zmt zc4
end upd
def imgT (_:Nat) (t:Track):Track:=⟨t.id,2⟩
def znF (_:Nat) (x:Switch):Switch:=⟨x.id,0,x.call⟩
def zhl (p:Pln) (i:Nat) (l:Lock):Lock:=if 0<l.left then ⟨l.id,l.phase,l.gone,(nth p.routes i).timer⟩ else l
def zcA (p:Pln) (s:State):State:=⟨s.tracks.mapIdx imgT,s.switches.mapIdx znF,s.locks.mapIdx (zhl p)⟩
theorem zaR {p:Pln} {s:State} (h:zav p s=true):s.tracks.length=p.sections.length∧s.switches.length=p.points.length∧s.locks.length=p.routes.length:=by
 simp only[zav,Bool.and_eq_true]at h
 exact ⟨zbo h.1,zbo h.2.1,zbo h.2.2⟩
theorem zar {p:Pln} {s:State} (h:zak p s=0):zbt p=true∧zav p s=true∧(za0 p s).2.2=true:=by
 unfold zak at h
 split at h
 ·rename_i h1
  split at h
  ·rename_i h2;exact ⟨h1,h2⟩
  ·cases h
 ·cases h
theorem image_po (hH:HasAll P inv) (hI:HasIds P inv) (p:Pln) (hp:Sm p) (s:State) (hs:SmS s) (he:zak p s=0):PO P inv 78 [.agg p.c,.agg s.c] (.tup [stVb 5 (zcA p s),.n 0]) (stRb 5 (zcA p s)):=by
 have c0:=zaS hH hI p hp s hs
 rw[he]at c0
 have c1:=zcw hH s hs
 have hpl:=zaR (zar he).2.1
 obtain ⟨h1,h2,h3⟩:=hs
 have hi:zcA p s=⟨s.tracks.mapIdx imgT,s.switches.mapIdx znF,s.locks.mapIdx (zhl p)⟩:=rfl
 unfold stV stR at c1
 refine zbF (F:=cd78) (hH.has _ _ rfl) (Nat.le_of_ble_eq_true rfl) fun w0 M Q hM hQ hR=>?_;have hE:=hH.callable;dsimp only[cd78,qm,ql,qf,qi,qb,qc,qp,qv,qN,qT,qF,qt]at hQ ⊢
 repeat' (first|refine zab [0,1,2,3,4,5,6,7,8,9,14,21,22,23,33,34,35,45,46,47,55] fun K hK=>?_|refine AWp.block ?_|(refine hK.go ?_;clear hK K)|refine Cont.go (by assumption) ?_|(refine cnd2 rfl (fun h=>?_) (fun h=>?_)<;>(try first|exact h.elim|obtain rfl:(_:Bool)=true:=h|obtain rfl:(_:Bool)=false:=h)<;>first|(exfalso;omega)|skip)|((first|refine AWp.reg hE hM ?_|refine AWp.regd hE hM ?_|refine AWp.ret ?_|refine AWp.skip ?_|refine AWp.exit ?_|(refine pk2 (fun h=>?_) (fun h=>?_)<;>(try first|exact h.elim|obtain rfl:(_:Bool)=true:=h|obtain rfl:(_:Bool)=false:=h))|refine zac (fun h=>?_) ?_|refine zaa hM (c0) ?_|refine PO.callK hM ( c1) ?_|(refine zaf ?_ ?_;focus first|omega|(refine zad ?_;(refine no_implicit_lambda% (st ?_);try with_reducible exact True.intro);done)))<;>try (refine no_implicit_lambda% (st ?_);try with_reducible exact True.intro))|(refine hQ _ _ _ rfl ?_;clear hQ hR hE hM)|(refine hR _ _ (hQ _ _ _ rfl ?_);clear hQ hR hE hM))
 all_goals first|(exfalso;contradiction)|skip
 refine zaj (ι:=Nat) [2,3,4,5,21,22] (fun zz=>[(22,.n zz)]) (fun zz=>[(5,.cells ((zhm imgT zz s.tracks).map Track.c).flatten (decide (0<s.tracks.length)))]) (fun zz=>zz≤s.tracks.length) (fun zz=>s.tracks.length-zz) (0) (Nat.zero_le _) (by (try dsimp only);(refine no_implicit_lambda% (st ?_);try with_reducible exact True.intro)<;>first|omega|(simp;done)) (by (try dsimp only);(refine no_implicit_lambda% (st ?_);try with_reducible exact True.intro)<;>first|omega|(simp;done)) ?_;rintro k hk;(try dsimp only at hk ⊢);rcases Nat.lt_or_ge k s.tracks.length with hlt|hge
 ·have e1:=zh1 imgT hlt
  have e2:=zdV (c:=Track.c) (l:=zhm imgT k s.tracks) (k:=k) (i:=1) (by rw[zc4];exact hlt) (by omega) (.i .u8 2) (imgT k (nth s.tracks k)) (by rw[zes _ hlt];rfl)
  rw[e1]at e2
  repeat' (first|refine zab [0,1,2,3,4,5,6,7,8,9,14,21,22,23,33,34,35,45,46,47,55] fun K hK=>?_|refine AWp.block ?_|(refine hK.go ?_;clear hK K)|refine Cont.go (by assumption) ?_|(refine cnd2 rfl (fun h=>?_) (fun h=>?_)<;>(try first|exact h.elim|obtain rfl:(_:Bool)=true:=h|obtain rfl:(_:Bool)=false:=h)<;>first|(exfalso;omega)|skip)|((first|refine AWp.reg hE hM ?_|refine AWp.regd hE hM ?_|refine AWp.ret ?_|refine AWp.skip ?_|refine AWp.exit ?_|(refine pk2 (fun h=>?_) (fun h=>?_)<;>(try first|exact h.elim|obtain rfl:(_:Bool)=true:=h|obtain rfl:(_:Bool)=false:=h))|refine zac (fun h=>?_) ?_|(refine zaf ?_ ?_;focus first|omega|(refine zad ?_;(refine no_implicit_lambda% (st ?_);try with_reducible exact True.intro);done)))<;>try simp -dsimp -implicitDefEqProofs (disch:=omega) only[go_sem,reduceIte,↓reduceIte,Nat.reduceEqDiff,Nat.reduceLT,Nat.reduceLeDiff,Nat.reduceAdd,Nat.reduceSub,Nat.reduceMul,Int.reduceToNat,Int.reduceLT,Int.reduceLE,Int.reduceEq,Int.reduceNeg,Int.reduceNe,reduceCtorEq,e2])|(refine hQ _ _ _ rfl ?_;clear hQ hR hE hM)|(refine hR _ _ (hQ _ _ _ rfl ?_);clear hQ hR hE hM))
  exact ⟨k+1,by omega,by omega,by omega,rfl⟩
 ·rw[zh2 _ hge]
  repeat' (first|refine zab [0,1,2,3,4,5,6,7,8,9,14,21,22,23,33,34,35,45,46,47,55] fun K hK=>?_|refine AWp.block ?_|(refine hK.go ?_;clear hK K)|refine Cont.go (by assumption) ?_|(refine cnd2 rfl (fun h=>?_) (fun h=>?_)<;>(try first|exact h.elim|obtain rfl:(_:Bool)=true:=h|obtain rfl:(_:Bool)=false:=h)<;>first|(exfalso;omega)|skip)|((first|refine AWp.reg hE hM ?_|refine AWp.regd hE hM ?_|refine AWp.ret ?_|refine AWp.skip ?_|refine AWp.exit ?_|(refine pk2 (fun h=>?_) (fun h=>?_)<;>(try first|exact h.elim|obtain rfl:(_:Bool)=true:=h|obtain rfl:(_:Bool)=false:=h))|refine zac (fun h=>?_) ?_|(refine zaf ?_ ?_;focus first|omega|(refine zad ?_;(refine no_implicit_lambda% (st ?_);try with_reducible exact True.intro);done)))<;>try (refine no_implicit_lambda% (st ?_);try with_reducible exact True.intro))|(refine hQ _ _ _ rfl ?_;clear hQ hR hE hM)|(refine hR _ _ (hQ _ _ _ rfl ?_);clear hQ hR hE hM))
  refine zaj (ι:=Nat) [2,3,4,5,33,34] (fun zz=>[(34,.n zz)]) (fun zz=>[(6,.cells ((zhm znF zz s.switches).map Switch.c).flatten (decide (0<s.switches.length)))]) (fun zz=>zz≤s.switches.length) (fun zz=>s.switches.length-zz) (0) (Nat.zero_le _) (by (try dsimp only);(refine no_implicit_lambda% (st ?_);try with_reducible exact True.intro)<;>first|omega|(simp;done)) (by (try dsimp only);(refine no_implicit_lambda% (st ?_);try with_reducible exact True.intro)<;>first|omega|(simp;done)) ?_;rintro k2 hk;(try dsimp only at hk ⊢);rcases Nat.lt_or_ge k2 s.switches.length with hlt|hge
  ·have e1:=zh1 znF hlt
   have e2:=zdV (c:=Switch.c) (l:=zhm znF k2 s.switches) (k:=k2) (i:=1) (by rw[zc4];exact hlt) (by omega) (.i .i64 0) (znF k2 (nth s.switches k2)) (by rw[zes _ hlt];rfl)
   rw[e1]at e2
   repeat' (first|refine zab [0,1,2,3,4,5,6,7,8,9,14,21,22,23,33,34,35,45,46,47,55] fun K hK=>?_|refine AWp.block ?_|(refine hK.go ?_;clear hK K)|refine Cont.go (by assumption) ?_|(refine cnd2 rfl (fun h=>?_) (fun h=>?_)<;>(try first|exact h.elim|obtain rfl:(_:Bool)=true:=h|obtain rfl:(_:Bool)=false:=h)<;>first|(exfalso;omega)|skip)|((first|refine AWp.reg hE hM ?_|refine AWp.regd hE hM ?_|refine AWp.ret ?_|refine AWp.skip ?_|refine AWp.exit ?_|(refine pk2 (fun h=>?_) (fun h=>?_)<;>(try first|exact h.elim|obtain rfl:(_:Bool)=true:=h|obtain rfl:(_:Bool)=false:=h))|refine zac (fun h=>?_) ?_|(refine zaf ?_ ?_;focus first|omega|(refine zad ?_;(refine no_implicit_lambda% (st ?_);try with_reducible exact True.intro);done)))<;>try simp -dsimp -implicitDefEqProofs (disch:=omega) only[go_sem,reduceIte,↓reduceIte,Nat.reduceEqDiff,Nat.reduceLT,Nat.reduceLeDiff,Nat.reduceAdd,Nat.reduceSub,Nat.reduceMul,Int.reduceToNat,Int.reduceLT,Int.reduceLE,Int.reduceEq,Int.reduceNeg,Int.reduceNe,reduceCtorEq,e2])|(refine hQ _ _ _ rfl ?_;clear hQ hR hE hM)|(refine hR _ _ (hQ _ _ _ rfl ?_);clear hQ hR hE hM))
   exact ⟨k2+1,by omega,by omega,by omega,rfl⟩
  ·rw[zh2 _ (by assumption)]
   repeat' (first|refine zab [0,1,2,3,4,5,6,7,8,9,14,21,22,23,33,34,35,45,46,47,55] fun K hK=>?_|refine AWp.block ?_|(refine hK.go ?_;clear hK K)|refine Cont.go (by assumption) ?_|(refine cnd2 rfl (fun h=>?_) (fun h=>?_)<;>(try first|exact h.elim|obtain rfl:(_:Bool)=true:=h|obtain rfl:(_:Bool)=false:=h)<;>first|(exfalso;omega)|skip)|((first|refine AWp.reg hE hM ?_|refine AWp.regd hE hM ?_|refine AWp.ret ?_|refine AWp.skip ?_|refine AWp.exit ?_|(refine pk2 (fun h=>?_) (fun h=>?_)<;>(try first|exact h.elim|obtain rfl:(_:Bool)=true:=h|obtain rfl:(_:Bool)=false:=h))|refine zac (fun h=>?_) ?_|(refine zaf ?_ ?_;focus first|omega|(refine zad ?_;(refine no_implicit_lambda% (st ?_);try with_reducible exact True.intro);done)))<;>try (refine no_implicit_lambda% (st ?_);try with_reducible exact True.intro))|(refine hQ _ _ _ rfl ?_;clear hQ hR hE hM)|(refine hR _ _ (hQ _ _ _ rfl ?_);clear hQ hR hE hM))
   refine zaj (ι:=Nat) [2,3,4,5,45,46] (fun zz=>[(46,.n zz)]) (fun zz=>[(7,.cells ((zhm (zhl p) zz s.locks).map Lock.c).flatten (decide (0<s.locks.length)))]) (fun zz=>zz≤s.locks.length) (fun zz=>s.locks.length-zz) (0) (Nat.zero_le _) (by (try dsimp only);(refine no_implicit_lambda% (st ?_);try with_reducible exact True.intro)<;>first|omega|(simp;done)) (by (try dsimp only);(refine no_implicit_lambda% (st ?_);try with_reducible exact True.intro)<;>first|omega|(simp;done)) ?_;rintro k3 hk;(try dsimp only at hk ⊢);rcases Nat.lt_or_ge k3 s.locks.length with hlt|hge
   ·have e1:=zh1 (zhl p) (l:=s.locks) (k:=k3) (by assumption)
    have hg:=zli (c:=Lock.c) (l:=zhm (zhl p) k3 s.locks) (k:=k3) (i:=3) (by rw[zc4];assumption) (by omega)
    rw[zes _ (by assumption)]at hg
    by_cases hle:0<(nth s.locks k3).left
    ·have e2:=zdV (c:=Lock.c) (l:=zhm (zhl p) k3 s.locks) (k:=k3) (i:=3) (by rw[zc4];assumption) (by omega) (.i .i64 (nth p.routes k3).timer) (zhl p k3 (nth s.locks k3)) (by rw[zes _ (by assumption)];unfold zhl;rw[if_pos hle];rfl)
     rw[e1]at e2
     repeat' (first|refine zab [0,1,2,3,4,5,6,7,8,9,14,21,22,23,33,34,35,45,46,47,55] fun K hK=>?_|refine AWp.block ?_|(refine hK.go ?_;clear hK K)|refine Cont.go (by assumption) ?_|(refine cnd2 rfl (fun h=>?_) (fun h=>?_)<;>(try first|exact h.elim|obtain rfl:(_:Bool)=true:=h|obtain rfl:(_:Bool)=false:=h)<;>first|(exfalso;omega)|skip)|((first|refine AWp.reg hE hM ?_|refine AWp.regd hE hM ?_|refine AWp.ret ?_|refine AWp.skip ?_|refine AWp.exit ?_|(refine pk2 (fun h=>?_) (fun h=>?_)<;>(try first|exact h.elim|obtain rfl:(_:Bool)=true:=h|obtain rfl:(_:Bool)=false:=h))|refine zac (fun h=>?_) ?_|(refine zaf ?_ ?_;focus first|omega|(refine zad ?_;(refine no_implicit_lambda% (st ?_);try with_reducible exact True.intro);done)))<;>try simp -dsimp -implicitDefEqProofs (disch:=omega) only[go_sem,reduceIte,↓reduceIte,Nat.reduceEqDiff,Nat.reduceLT,Nat.reduceLeDiff,Nat.reduceAdd,Nat.reduceSub,Nat.reduceMul,Int.reduceToNat,Int.reduceLT,Int.reduceLE,Int.reduceEq,Int.reduceNeg,Int.reduceNe,reduceCtorEq,hg,e2])|(refine hQ _ _ _ rfl ?_;clear hQ hR hE hM)|(refine hR _ _ (hQ _ _ _ rfl ?_);clear hQ hR hE hM))
     exact ⟨k3+1,by omega,by omega,by omega,rfl⟩
    ·rw[show zhl p k3 (nth s.locks k3)=nth (zhm (zhl p) k3 s.locks) k3 by rw[zes _ (by assumption)];unfold zhl;rw[if_neg hle]]at e1
     have e3:zhm (zhl p) k3 s.locks=zhm (zhl p) (k3+1) s.locks:=by
      rw[←e1,za3 (by rw[zc4];assumption),List.set_getElem_self]
     repeat' (first|refine zab [0,1,2,3,4,5,6,7,8,9,14,21,22,23,33,34,35,45,46,47,55] fun K hK=>?_|refine AWp.block ?_|(refine hK.go ?_;clear hK K)|refine Cont.go (by assumption) ?_|(refine cnd2 rfl (fun h=>?_) (fun h=>?_)<;>(try first|exact h.elim|obtain rfl:(_:Bool)=true:=h|obtain rfl:(_:Bool)=false:=h)<;>first|(exfalso;omega)|skip)|((first|refine AWp.reg hE hM ?_|refine AWp.regd hE hM ?_|refine AWp.ret ?_|refine AWp.skip ?_|refine AWp.exit ?_|(refine pk2 (fun h=>?_) (fun h=>?_)<;>(try first|exact h.elim|obtain rfl:(_:Bool)=true:=h|obtain rfl:(_:Bool)=false:=h))|refine zac (fun h=>?_) ?_|(refine zaf ?_ ?_;focus first|omega|(refine zad ?_;(refine no_implicit_lambda% (st ?_);try with_reducible exact True.intro);done)))<;>try simp -dsimp -implicitDefEqProofs (disch:=omega) only[go_sem,reduceIte,↓reduceIte,Nat.reduceEqDiff,Nat.reduceLT,Nat.reduceLeDiff,Nat.reduceAdd,Nat.reduceSub,Nat.reduceMul,Int.reduceToNat,Int.reduceLT,Int.reduceLE,Int.reduceEq,Int.reduceNeg,Int.reduceNe,reduceCtorEq,hg])|(refine hQ _ _ _ rfl ?_;clear hQ hR hE hM)|(refine hR _ _ (hQ _ _ _ rfl ?_);clear hQ hR hE hM))
     exact ⟨k3+1,by omega,by omega,by omega,by rw[←e3]⟩
   ·rw[zh2 _ (by assumption)]
    repeat' (first|refine zab [0,1,2,3,4,5,6,7,8,9,14,21,22,23,33,34,35,45,46,47,55] fun K hK=>?_|refine AWp.block ?_|(refine hK.go ?_;clear hK K)|refine Cont.go (by assumption) ?_|(refine cnd2 rfl (fun h=>?_) (fun h=>?_)<;>(try first|exact h.elim|obtain rfl:(_:Bool)=true:=h|obtain rfl:(_:Bool)=false:=h)<;>first|(exfalso;omega)|skip)|((first|refine AWp.reg hE hM ?_|refine AWp.regd hE hM ?_|refine AWp.ret ?_|refine AWp.skip ?_|refine AWp.exit ?_|(refine pk2 (fun h=>?_) (fun h=>?_)<;>(try first|exact h.elim|obtain rfl:(_:Bool)=true:=h|obtain rfl:(_:Bool)=false:=h))|refine zac (fun h=>?_) ?_|(refine zaf ?_ ?_;focus first|omega|(refine zad ?_;(refine no_implicit_lambda% (st ?_);try with_reducible exact True.intro);done)))<;>try (refine no_implicit_lambda% (st ?_);try with_reducible exact True.intro))|(refine hQ _ _ _ rfl ?_;clear hQ hR hE hM)|(refine hR _ _ (hQ _ _ _ rfl ?_);clear hQ hR hE hM))
    left
    unfold stVb stRb
    rw[hi]
    dsimp only
    rw[List.length_mapIdx,List.length_mapIdx,List.length_mapIdx]
    constructor
    ·(refine no_implicit_lambda% (st ?_);try with_reducible exact True.intro)
    ·(refine no_implicit_lambda% (st ?_);try with_reducible exact True.intro)
def zeU (p:Pln) (s:State):State:=if zak p s=0 then zcA p s else State.z
theorem zld (hH:HasAll P inv) (hI:HasIds P inv) (p:Pln) (hp:Sm p) (s:State) (hs:SmS s):PC P inv 78 [.agg p.c,.agg s.c] (·=.tup [.agg (zeU p s).c,.n (zak p s)]):=by
 by_cases he:zak p s=0
 ·have:=(image_po hH hI p hp s hs he).pc
  rw[zfb]at this
  unfold zeU
  rw[if_pos he,he]
  exact this
 ·have c0:=zaS hH hI p hp s hs
  unfold zeU
  rw[if_neg he]
  revert c0 he
  generalize zak p s=e
  intro he c0
  refine zae (F:=cd78) (hH.has _ _ rfl) (Nat.le_of_ble_eq_true rfl) fun w0 M Q hM hQ hR=>?_;have hE:=hH.callable;dsimp only[cd78,qm,ql,qf,qi,qb,qc,qp,qv,qN,qT,qF,qt]at hQ ⊢
  repeat' (first|refine zab [0,1,2,3,4,5,6,7,8,9,14,21,22,23,33,34,35,45,46,47,55] fun K hK=>?_|refine AWp.block ?_|(refine hK.go ?_;clear hK K)|refine Cont.go (by assumption) ?_|(refine cnd2 rfl (fun h=>?_) (fun h=>?_)<;>(try first|exact h.elim|obtain rfl:(_:Bool)=true:=h|obtain rfl:(_:Bool)=false:=h)<;>first|(exfalso;omega)|skip)|((first|refine AWp.reg hE hM ?_|refine AWp.regd hE hM ?_|refine AWp.ret ?_|refine AWp.skip ?_|refine AWp.exit ?_|(refine pk2 (fun h=>?_) (fun h=>?_)<;>(try first|exact h.elim|obtain rfl:(_:Bool)=true:=h|obtain rfl:(_:Bool)=false:=h))|refine zac (fun h=>?_) ?_|refine zaa hM (c0) ?_|(refine hQ _ _ _ rfl ?_;clear hQ hR hE hM)|(refine hR _ _ (hQ _ _ _ rfl ?_);clear hQ hR hE hM)|(refine zaf ?_ ?_;focus first|omega|(refine zad ?_;(refine no_implicit_lambda% (st ?_);try with_reducible exact True.intro);done)))<;>try (refine no_implicit_lambda% (st ?_);try with_reducible exact True.intro)))
  all_goals first|rfl|(exfalso;contradiction)|skip
end Go.Lev
