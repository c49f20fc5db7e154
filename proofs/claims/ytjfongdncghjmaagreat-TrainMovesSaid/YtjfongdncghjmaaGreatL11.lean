/-
  Contracts of functions. Conditions: those that each theorem names.
-/
import Derived.Test.YtjfongdncghjmaaGreatL9
set_option linter.unusedSimpArgs false
set_option linter.unusedVariables false
set_option linter.unusedSectionVars false
namespace Go.Lev
open Go.Eng
set_option maxRecDepth 10000
set_option maxHeartbeats 4000000
variable {P:Program} {inv:Nat->Option Nat} {w0:World} {M:Nat->Prop}
theorem nthm {α β:Type} [Inhabited α] [Inhabited β] (f:α->β) {l:List α} {i:Nat} (h:i<l.length):nth (l.map f) i=f (nth l i):=by
 rw[zay (by simpa using h),zay h];simp
theorem zp3 (p:Pln) (r:Rte) (y:Sgn) (all:List Int) (i:Nat) (s:Int) (w:Wk):(zeB p r y all i s w).asks.length<=w.asks.length+1/\(zeB p r y all i s w).outs.length<=w.outs.length+1:=by
 unfold zeB
 repeat' split
 all_goals first|exact zdx _ _ _ _ _|exact zle _ _ _ _
theorem zjm (p:Pln) (r:Rte) (y:Sgn) (all:List Int):∀ (l:List Int) (i:Nat) (w:Wk),(zbS p r y all i w l).asks.length<=w.asks.length+l.length/\(zbS p r y all i w l).outs.length<=w.outs.length+l.length
 |[],_,_=>⟨Nat.le_refl _,Nat.le_refl _⟩
 |s::l,i,w=>by
  rw[zbS];have h1:=zjm p r y all l (i+1) (zeB p r y all i s w);have h2:=zp3 p r y all i s w;simp only[List.length_cons];omega
theorem zlU:∀ (f:List Flk) (l:List AskR),(zgZ l f).length<=l.length+f.length
 |[],l=>Nat.le_refl _
 |x::f,l=>by
  rw[zgZ];have h1:=zlU f (zjj x.pnt x.lie (-1) l);have h2:=zk5 x.pnt x.lie (-1) l;simp only[List.length_cons];omega
theorem zcn {p:Pln} (h:OkP p) {r:Rte} (hr:r∈p.routes):(zao p r).1.asks.length<=1000/\(zao p r).2.1.length<=1000/\(zao p r).1.path.length<=1000/\(zao p r).1.over.length<=1000:=by
 have hl:=zeP h hr;unfold zao;split
 ·simp
 ·unfold zhM
  have h1:=zjm p r (sig p r.exit) (r.path++r.over) (r.path++r.over) 0 ⟨zkK (sig p r.entry) ⟨0,0⟩ p.sections,[],[],false⟩;have h2:=zlU r.flanks (zbS p r (sig p r.exit) (r.path++r.over) 0 ⟨zkK (sig p r.entry) ⟨0,0⟩ p.sections,[],[],false⟩ (r.path++r.over)).asks;simp only[List.length_append,List.length_nil]at h1 h2;dsimp only;omega
theorem zj3 (hH:HasAll P inv) (hI:HasIds P inv) (p:Pln) (hp:Sm p):PC P inv 70 [.agg p.c] (·=.n (zhR p)):=by
 have hlr:=hp.rte;have c0:=all_pc hH hI p hp;have hs:=zmj p;unfold zhR zbk;cases ho:zbx p with
 |false =>
  rw[ho,if_neg (by simp)]at hs
  rw[hs]at c0;rw[Bool.false_and,if_neg (by simp)]
  refine wf hH cd70 fun w0 M Q hM hE hQ hR=>?_;refine wq ?_
  (repeat' first|refine zaa yI fun K hK=>?_|exact wt|refine wA ?_|(refine wB ?_ ?_<;>intro h<;>first|exact wN h|subst (h:(_:Bool)=_)|skip)|(refine wQ ?_;clear hQ hR hE hM)|refine wC c0 ?_|fail)
  all_goals first|rfl|(exfalso;contradiction)
 |true =>
  have hok:=zfx ho;rw[ho,if_pos rfl]at hs;cases ha:zsq p with
  |false =>
   rw[ha,if_neg (by simp)]at hs
   rw[hs]at c0;rw[Bool.false_and,Bool.true_and,if_neg (by simp)]
   refine wf hH cd70 fun w0 M Q hM hE hQ hR=>?_;refine wq ?_
   (repeat' first|refine zaa yI fun K hK=>?_|exact wt|refine wA ?_|(refine wB ?_ ?_<;>intro h<;>first|exact wN h|subst (h:(_:Bool)=_)|skip)|(refine wQ ?_;clear hQ hR hE hM)|refine wC c0 ?_|fail)
   all_goals first|rfl|(exfalso;contradiction)
  |true =>
   rw[ha,if_pos rfl]at hs;rw[hs]at c0;rw[Bool.true_and,Bool.true_and];dsimp only at c0;clear hs;obtain ⟨WS,hWS⟩:∃ WS,WS=p.routes.map fun r=>(zao p r).1:=⟨_,rfl⟩
   obtain ⟨OS,hOS⟩:∃ OS,OS=p.routes.map fun r=>(zao p r).2.1:=⟨_,rfl⟩
   rw[<-hWS,<-hOS]at c0;have hl1:WS.length=p.routes.length:=by rw[hWS,List.length_map]
   have hl2:OS.length=p.routes.length:=by rw[hOS,List.length_map]
   refine wf hH cd70 fun w0 M Q hM hE hQ hR=>?_;refine wq ?_
   (repeat' first|refine zaa yI fun K hK=>?_|exact wt|refine wA ?_|(refine wB ?_ ?_<;>intro h<;>first|exact wN h|subst (h:(_:Bool)=_)|skip)|(refine wQ ?_;clear hQ hR hE hM)|refine wC c0 ?_|fail)
   all_goals first|(exfalso;contradiction)|skip
   refine zaj (ι:=Nat) [1,2,3,4,17,18,19] (fun z=>[(19,.n z)]) (fun _=>[]) (fun z=>z) (p.routes.length) (fun z=>(((p.routes.drop z).all (zbW p))=(p.routes.all (zbW p)))) (0) ?_;rintro k ⟨hk,hg⟩;(try dsimp only at hk hg |-);rcases Nat.lt_or_ge k p.routes.length with hlt|hge
   ·rw[zae hlt]at hg
    rw[List.all_cons]at hg;have hm:=zac hlt;have hwl:=zcn hok hm;have hw:(zao p (nth p.routes k)).2.2=0:=by
     have:=(List.all_eq_true.1 ha) _ hm
     simpa using this
    have hwo:=zoL hw;have c1:=once_pc hH (zao p (nth p.routes k)).1.asks (by omega) (fun a h=>by have:=zdF hok hm h;omega)
    have c2:=clear_pc hH p hp (nth p.routes k) (zao p (nth p.routes k)).2.1 hwo (by omega)
    have e1:nth WS k=(zao p (nth p.routes k)).1:=by rw[hWS];exact nthm (fun r=>(zao p r).1) hlt
    have e2:nth OS k=(zao p (nth p.routes k)).2.1:=by rw[hOS];exact nthm (fun r=>(zao p r).2.1) hlt
    unfold zbW at hg;revert c1 c2 hg;generalize hA:once (zao p (nth p.routes k)).1.asks=A;generalize hB:zg3 p (nth p.routes k) (zao p (nth p.routes k)).2.1=B;intro hg c1 c2;(have hX:=zA @e1 (zA @e2 @jls.eq_1);(repeat' first|refine zaa yI fun K hK=>?_|exact wt|refine wA ?_|(refine wB ?_ ?_<;>intro h<;>first|exact wN h|subst (h:(_:Bool)=_)|skip)|(refine wQ ?_;clear hQ hR hE hM)|refine wC c1 ?_|refine wC c2 ?_|fail);all_goals clear hX)
    all_goals first
     |(rw[if_neg];intro hh;unfold zbW at hh;rw[<-hg]at hh;simp at hh;done)
     |(exact ⟨k+1,by omega,⟨by omega,by unfold zbW;rw[<-hg];simp⟩,by omega⟩)
   ·rw[List.drop_eq_nil_of_le hge,List.all_nil]at hg
    (repeat' first|refine zaa yI fun K hK=>?_|exact wt|refine wA ?_|(refine wB ?_ ?_<;>intro h<;>first|exact wN h|subst (h:(_:Bool)=_)|skip)|(refine wQ ?_;clear hQ hR hE hM)|fail)
    rw[<-hg,if_pos rfl]
def zcK (w:WayR) (l:Lock):List AskR:=if l.phase=0 then [] else w.asks
theorem held_ac2 (hH:HasAll P inv) (hM:∀ b,M b->b<w0.heap.size) (p:Pln) (s:State) (ws:List WayR) (C:List (Int×Int)) (l:Lock) (w:WayR) (H A:List Int) (t:Bool) (hg:0<=l.gone/\l.gone<=w.path.length) (h1:w.path.length<=1000) (h2:w.over.length<=1000) (hs:∀ x∈w.path++w.over,0<=x/\x<=99) (hHl:H.length=100) (hAl:A.length=100) :
  AC P inv w0 M 30 118 [.agg w.c,.agg l.c,.fn 119 [.ptr 3 1 0,.ptr 2 201 0,.ptr 7 4 0]] (stG p s ws C l H A t) fun r0 σ'=>r0=.tup []/\σ'=stG p s ws C l (zcc l.id (zb7 w l) H t).1 A (zcc l.id (zb7 w l) H t).2:=by
 have h:=held_ac hH hM p s ws C l w H A t hg h1 h2 hs hHl hAl;by_cases hp:l.phase=0
 ·rw[if_pos hp]at h
  rw[show (zcc l.id (zb7 w l) H t).2=t by unfold zb7;rw[if_pos hp];rfl]
  exact h
 ·rw[if_neg hp]at h;exact h
theorem asks_ac2 (hH:HasAll P inv) (hM:∀ b,M b->b<w0.heap.size) (p:Pln) (s:State) (ws:List WayR) (C:List (Int×Int)) (l:Lock) (w:WayR) (H A:List Int) (t:Bool) (h1:w.asks.length<=1000) (hs:∀ a∈w.asks,0<=a.pnt/\a.pnt<=99) (hHl:H.length=100) (hAl:A.length=100) :
  AC P inv w0 M 30 120 [.agg w.c,.agg l.c,.fn 121 [.ptr 3 1 0,.ptr 6 1 0,.ptr 2 201 0]] (stG p s ws C l H A t) fun r0 σ'=>r0=.tup []/\σ'=stG p s ws C l H (zfA l C (zcK w l) A t).1 (zfA l C (zcK w l) A t).2:=by
 have h:=asks_ac hH hM p s ws C l w H A t h1 hs hHl hAl;by_cases hp:l.phase=0
 ·rw[if_pos hp]at h
  unfold zcK;rw[if_pos hp];exact h
 ·rw[if_neg hp]at h
  unfold zcK;rw[if_neg hp];exact h
theorem zgp (n:Int):∀ (l H:List Int) (t:Bool),(zcc n l H t).1.length=H.length
 |[],H,t=>rfl
 |s::r,H,t=>by
  rw[zcc];split
  ·rw[zgp n r];simp
  ·simp
theorem zgA (l:Lock) (C:List (Int×Int)):∀ (q:List AskR) (A:List Int) (t:Bool),(zfA l C q A t).1.length=A.length
 |[],A,t=>rfl
 |a::r,A,t=>by
  rw[zfA];split
  ·split
   ·rw[zgA l C r];simp
   ·simp
  ·exact zgA l C r A t
def zk7:List (Int×Int)->List Switch->List (Int×Int)
 |C,[]=>C
 |C,x::r=>zk7 (zmW C x.id x.call) r
def zfs (ws:List WayR) (C:List (Int×Int)):Nat->List Lock->List Int->List Int->Bool->List Int×List Int×Bool
 |_,[],H,A,t=>(H,A,t)
 |i,l::r,H,A,t=>zfs ws C (i+1) r (zcc l.id (zb7 (nth ws i) l) H t).1 (zfA l C (zcK (nth ws i) l) A (zcc l.id (zb7 (nth ws i) l) H t).2).1 (zfA l C (zcK (nth ws i) l) A (zcc l.id (zb7 (nth ws i) l) H t).2).2
def zan (p:Pln) (s:State):Bool:=zaW zgH s.tracks p.sections&&(zaW zjb s.switches p.points&&zaW zev s.locks p.routes)
def zby (p:Pln):List WayR:=p.routes.map fun r=>(zao p r).1
def zea:List Int:=List.replicate 100 0
theorem foldG:List.replicate 100 (AV.i .i64 0)++(List.replicate 100 (AV.i .i64 0)++[AV.s0 4])=gc zea zea (.s0 4):=rfl
theorem gc_snap0 (H A:List Int) (k:Nat) (σ:AS):zbF k σ (gc H A (.s0 4))=gc H A (.sl 4 []):=by
 unfold gc;rw[zlh,zlh,zj4,zj4,zdH,zft,sn_s0]
theorem ovl_gc {H A H' A':List Int} (h:H.length=100) (h':A.length=100) (h2:H'.length=100) (h2':A'.length=100) (W W':AV):ovl (gc H A W) 0 (gc H' A' W')=gc H' A' W':=by
 rw[zir _ _ _ (by rw[zhm h h',zhm h2 h2'];omega),List.take_zero,List.nil_append,List.drop_eq_nil_of_le (by rw[zhm h h',zhm h2 h2'];omega),List.append_nil]
theorem zbV:zea.length=100:=by simp[zea]
theorem zrR (H A:List Int):zab (gc H A (.s0 4))=0:=by
 unfold gc;rw[zd8,zd8,zfg,zfg];rfl
theorem gc_bare0 (H A:List Int):zaf (gc H A (.s0 4))=true:=by
 have h:∀ xs ys:List AV,zaf (xs++ys)=(zaf xs&&zaf ys):=by
  intro xs ys
  induction xs with
  |nil=>simp[zaf]
  |cons x xs ih=>simp[zaf,ih,Bool.and_assoc]
 unfold gc;rw[h,h,zgo,zgo];rfl
def stGg (p:Pln) (s:State) (g:List AV) (C:List (Int×Int)) (l:Lock) (t:Bool):List (Nat×AO):=[(0,.cells p.c true),(1,.cells s.c true),(2,.cells g true),(3,.cells [.b t] true),(4,.cells [.fn 110 []] true),(5,.imap C),(6,.cells [.mp 5] true),(7,.cells l.c true)]
theorem held_ac3 (hH:HasAll P inv) (hM:∀ b,M b->b<w0.heap.size) (G:List Int->List Int->AV->List AV) (hG:G=gc) (p:Pln) (s:State) (ws:List WayR) (C:List (Int×Int)) (l:Lock) (w:WayR) (H A:List Int) (t:Bool) (hg:0<=l.gone/\l.gone<=w.path.length) (h1:w.path.length<=1000) (h2:w.over.length<=1000) (hs:∀ x∈w.path++w.over,0<=x/\x<=99) (hHl:H.length=100) (hAl:A.length=100) :
  AC P inv w0 M 30 118 [.agg w.c,.agg l.c,.fn 119 [.ptr 3 1 0,.ptr 2 201 0,.ptr 7 4 0]] (stGg p s (G H A (.sl 4 (ws.map Way.c))) C l t) fun r0 σ'=>r0=.tup []/\σ'=stGg p s (G (zcc l.id (zb7 w l) H t).1 A (.sl 4 (ws.map Way.c))) C l (zcc l.id (zb7 w l) H t).2:=by
 subst hG;exact held_ac2 hH hM p s ws C l w H A t hg h1 h2 hs hHl hAl
theorem asks_ac3 (hH:HasAll P inv) (hM:∀ b,M b->b<w0.heap.size) (G:List Int->List Int->AV->List AV) (hG:G=gc) (p:Pln) (s:State) (ws:List WayR) (C:List (Int×Int)) (l:Lock) (w:WayR) (H A:List Int) (t:Bool) (h1:w.asks.length<=1000) (hs:∀ a∈w.asks,0<=a.pnt/\a.pnt<=99) (hHl:H.length=100) (hAl:A.length=100) :
  AC P inv w0 M 30 120 [.agg w.c,.agg l.c,.fn 121 [.ptr 3 1 0,.ptr 6 1 0,.ptr 2 201 0]] (stGg p s (G H A (.sl 4 (ws.map Way.c))) C l t) fun r0 σ'=>r0=.tup []/\σ'=stGg p s (G H (zfA l C (zcK w l) A t).1 (.sl 4 (ws.map Way.c))) C l (zfA l C (zcK w l) A t).2:=by
 subst hG;exact asks_ac2 hH hM p s ws C l w H A t h1 hs hHl hAl
structure GC (G:List Int->List Int->AV->List AV) (Z:List Int):Prop where
 eq:G=gc
 z:Z=zea
 fold:List.replicate 100 (AV.i .i64 0)++(List.replicate 100 (AV.i .i64 0)++[AV.s0 4])=G Z Z (.s0 4)
 zl:Z.length=100
 len:∀ {H A:List Int} (W:AV),H.length=100->A.length=100->(G H A W).length=201
 sg:∀ {H A:List Int} (W:AV),H.length=100->A.length=100->List.take 201 (G H A W)=G H A W
 ov:∀ {H A H' A':List Int} (W W':AV),H.length=100->A.length=100->H'.length=100->A'.length=100->ovl (G H A W) 0 (G H' A' W')=G H' A' W'
 bd0:∀ H A:List Int,zab (G H A (.s0 4))=0
 ba0:∀ H A:List Int,zaf (G H A (.s0 4))=true
 bd:∀ (H A:List Int) (l:List (List AV)),zab (G H A (.sl 4 l))=0
 ba:∀ (H A:List Int) (l:List (List AV)),zaf (G H A (.sl 4 l))=true
 sn0:∀ (H A:List Int) (k:Nat) (σ:AS),zbF k σ (G H A (.s0 4))=G H A (.sl 4 [])
 sn:∀ (H A:List Int) (l:List (List AV)) (k:Nat) (σ:AS),zbF k σ (G H A (.sl 4 l))=G H A (.sl 4 l)
 get:∀ {H A:List Int} (W:AV),H.length=100->A.length=100->(G H A W)[200]?=some W
 set:∀ {H A:List Int} (W W':AV),H.length=100->A.length=100->(G H A W).set 200 W'=G H A W'
theorem GC.mk':GC gc zea:=⟨rfl,rfl,foldG,zbV,fun W h1 h2=>zhm h1 h2,fun W h1 h2=>List.take_of_length_le (by rw[zhm h1 h2];exact Nat.le_refl _),fun W W' h1 h2 h3 h4=>ovl_gc h1 h2 h3 h4 W W',zrR,gc_bare0,fun H A l=>zgq rfl,fun H A l=>zrS rfl,fun H A k σ=>gc_snap0 H A k σ,fun H A l k σ=>gc_snap rfl k σ,fun W h1 h2=>gc_get3 h1 h2,fun W W' h1 h2=>gc_set3 h1 h2 W'⟩
theorem GC.ex:∃ G Z,GC G Z:=⟨_,_,GC.mk'⟩
theorem zkQ {φ:AF} {σ:AS} {t u l l':Nat} {g:List AV} {b r r':Bool} (h1:zbl φ t=.ptr l 201 0) (h2:zah σ l=some (.cells g r)) (h3:g.length=201) (hs:List.take 201 g=g) (h4:zbl φ u=.ptr l' 1 0) (h5:zah σ l'=some (.cells [.b b] r')):zeR φ σ [.cell t (some 201),.cell u none]=some (.tup [.agg g,.b b]):=by
 have h:zb2 g 0 (some 201)=some (.agg g):=by
  rw[al_s,if_pos (by omega),seg,List.drop_zero,hs]
 simp only[zeR,zi1,ares,h1,h4,zds,h2,h5,h,h3,al_n,List.getElem?_cons_zero,List.length_cons,List.length_nil,if_true,Nat.zero_add]
theorem grip_bad (hH:HasAll P inv) (hI:HasIds P inv) (p:Pln) (hp:Sm p) (s:State) (hs:s.tracks.length<=1000/\s.switches.length<=1000/\s.locks.length<=1000) (hok:OkP p) (hb:zan p s=false):PC P inv 93 [.agg p.c,.agg s.c] (·=.tup [.agg (gc zea zea (.sl 4 [])),.b false]):=by
 obtain ⟨G,Z,hg⟩:=GC.ex;rw[<-hg.eq,<-hg.z];have c1:=eqfTrk hH (caps:=[]) s.tracks p.sections (fun x _ y _=>znC hH x y) rfl (by omega)
 have c2:=eqfSwt hH (caps:=[.ip 1 [[.fn 110 []]] 0 0]) s.switches p.points (fun x _ y _=>znI hH x y) rfl (by omega)
 have c3:=eqfLck hH (caps:=[]) s.locks p.routes (fun x _ y hy=>zn9 hH x y (by have:=zeP hok hy;omega)) rfl (by omega)
 unfold zan at hb;revert c1 c2 c3 hb;generalize zaW zgH s.tracks p.sections=a1;generalize zaW zjb s.switches p.points=a2;generalize zaW zev s.locks p.routes=a3;intro hb c1 c2 c3;have hfold:=hg.fold;have hlen:=hg.len (.s0 4) hg.zl hg.zl;have hsg:=hg.sg (.s0 4) hg.zl hg.zl;have hov:=hg.ov (.s0 4) (.s0 4) hg.zl hg.zl hg.zl hg.zl;have hbd:=hg.bd0 Z Z;have hba:=hg.ba0 Z Z;have hsn:=hg.sn0 Z Z;clear hg;cases a1
 ·refine wf hH cd93 fun w0 M Q hM hE hQ hR=>?_;refine wq ?_
  (have hX:=zA @hfold (zA @hlen (zA @hsg (zA @hov (zA @hbd (zA @hba @hsn)))));(repeat' first|refine zaa kX fun K hK=>?_|exact wt|refine wA ?_|(refine wB ?_ ?_<;>intro h<;>first|exact wN h|subst (h:(_:Bool)=_)|skip)|(refine wQ ?_;clear hQ hR hE hM)|refine wC c1 ?_|fail);all_goals clear hX)
  all_goals (refine hQ _ _ _ (zkQ rfl rfl hlen hsg rfl rfl) ?_;simp only[zg7,zdH,zft,zf0,sn_b,hsn])
 ·cases a2
  ·refine wf hH cd93 fun w0 M Q hM hE hQ hR=>?_;refine wq ?_
   (have hX:=zA @hfold (zA @hlen (zA @hsg (zA @hov (zA @hbd (zA @hba @hsn)))));(repeat' first|refine zaa kX fun K hK=>?_|exact wt|refine wA ?_|(refine wB ?_ ?_<;>intro h<;>first|exact wN h|subst (h:(_:Bool)=_)|skip)|(refine wQ ?_;clear hQ hR hE hM)|refine wC c1 ?_|refine wS c2 ?_|fail);all_goals clear hX)
   all_goals (refine hQ _ _ _ (zkQ rfl rfl hlen hsg rfl rfl) ?_;simp only[zg7,zdH,zft,zf0,sn_b,hsn])
  ·cases a3
   ·refine wf hH cd93 fun w0 M Q hM hE hQ hR=>?_;refine wq ?_
    (have hX:=zA @hfold (zA @hlen (zA @hsg (zA @hov (zA @hbd (zA @hba @hsn)))));(repeat' first|refine zaa kX fun K hK=>?_|exact wt|refine wA ?_|(refine wB ?_ ?_<;>intro h<;>first|exact wN h|subst (h:(_:Bool)=_)|skip)|(refine wQ ?_;clear hQ hR hE hM)|refine wC c1 ?_|refine wS c2 ?_|refine wC c3 ?_|fail);all_goals clear hX)
    all_goals (refine hQ _ _ _ (zkQ rfl rfl hlen hsg rfl rfl) ?_;simp only[zg7,zdH,zft,zf0,sn_b,hsn])
   ·cases hb
theorem zpl {p:Pln} (hok:OkP p) {l:Lock} {r:Rte} (hr:r∈p.routes) (h:zev l r=true):0<=l.gone/\l.gone<=(r.path.length:Int)-1:=by
 have hl:=zeP hok hr;simp only[zev,zdK,Bool.and_eq_true]at h;obtain ⟨_,h⟩:=h
 repeat' split at h
 all_goals (simp at h;try omega)
theorem zfV {α β:Type} [Inhabited α] [Inhabited β] {q:α->β->Bool}:∀ {a:List α} {b:List β},zaW q a b=true->∀ {i:Nat},i<a.length->q (nth a i) (nth b i)=true
 |[],_,_,i,hi=>by simp at hi
 |x::xs,[],h,_,_=>by simp[zaW]at h
 |x::xs,y::ys,h,0,_=>by simp only[zaW,Bool.and_eq_true]at h;simpa [nth] using h.1
 |x::xs,y::ys,h,i+1,hi=>by
  simp only[zaW,Bool.and_eq_true]at h;have:=zfV (q:=q) h.2 (i:=i) (by simpa using hi)
  simpa [nth] using this
theorem grip_ok (hH:HasAll P inv) (hI:HasIds P inv) (p:Pln) (hp:Sm p) (s:State) (hs:s.tracks.length<=1000/\s.switches.length<=1000/\s.locks.length<=1000) (ho:zbk p=true) (hb:zan p s=true):PC P inv 93 [.agg p.c,.agg s.c] (·=.tup [.agg (gc (zfs (zby p) (zk7 [] s.switches) 0 s.locks zea zea true).1 (zfs (zby p) (zk7 [] s.switches) 0 s.locks zea zea true).2.1 (.sl 4 ((zby p).map Way.c))),.b (zfs (zby p) (zk7 [] s.switches) 0 s.locks zea zea true).2.2]):=by
 have hlr:=hp.rte;simp only[zbk,Bool.and_eq_true]at ho;have hok:=zfx ho.1;have c0:=all_pc hH hI p hp;rw[zmj,ho.1,if_pos rfl,ho.2.1,if_pos rfl]at c0;dsimp only at c0;rw[show (p.routes.map fun r=>(zao p r).1)=zby p from rfl]at c0
 simp only[zan,Bool.and_eq_true]at hb;have c1:=eqfTrk hH (caps:=[]) s.tracks p.sections (fun x _ y _=>znC hH x y) rfl (by omega)
 have c2:=eqfSwt hH (caps:=[.ip 1 [[.fn 110 []]] 0 0]) s.switches p.points (fun x _ y _=>znI hH x y) rfl (by omega)
 have c3:=eqfLck hH (caps:=[]) s.locks p.routes (fun x _ y hy=>zn9 hH x y (by have:=zeP hok hy;omega)) rfl (by omega)
 rw[hb.1]at c1;rw[hb.2.1]at c2;rw[hb.2.2]at c3;have hll:s.locks.length=p.routes.length:=zcy hb.2.2;have hwl:(zby p).length=p.routes.length:=by simp[zby]
 have hway:∀ i,i<p.routes.length->nth (zby p) i=(zao p (nth p.routes i)).1:=fun i hi=>nthm (fun r=>(zao p r).1) hi
 have hpath:∀ i,i<p.routes.length->(zao p (nth p.routes i)).1.path=(nth p.routes i).path/\(zao p (nth p.routes i)).1.over=(nth p.routes i).over:=fun i hi=>by
  have h1:=(List.all_eq_true.1 ho.2.1) _ (zac hi);have h2:=zcz (p:=p) (r:=nth p.routes i) (by simpa using h1)
  exact ⟨h2.1,h2.2.1⟩
 obtain ⟨ans,hans⟩:∃ ans,ans=zfs (zby p) (zk7 [] s.switches) 0 s.locks zea zea true:=⟨_,rfl⟩;rw[<-hans];obtain ⟨ws,hws⟩:∃ ws,ws=zby p:=⟨_,rfl⟩;rw[<-hws]at c0 hwl hway hans |-
 obtain ⟨G,Z,hg⟩:=GC.ex;rw[<-hg.z]at hans;rw[<-hg.eq];have hfold:=hg.fold;have hlen:=hg.len (.s0 4) hg.zl hg.zl;have hlen2:=hg.len (.sl 4 (ws.map Way.c)) hg.zl hg.zl;have hset:=hg.set (.s0 4) (.sl 4 (ws.map Way.c)) hg.zl hg.zl;have hbd0:=hg.bd0 Z Z;have hbd:=fun H A=>hg.bd H A (ws.map Way.c)
 have hba:=fun H A=>hg.ba H A (ws.map Way.c)
 refine wf hH cd93 fun w0 M Q hM hE hQ hR=>?_;refine wq ?_
 (have hX:=zA @hfold (zA @hlen (zA @hbd0 (zA @hbd (zA @hba (zA @hset @hlen2)))));(repeat' first|refine zaa kX fun K hK=>?_|exact wt|refine wA ?_|(refine wB ?_ ?_<;>intro h<;>first|exact wN h|subst (h:(_:Bool)=_)|skip)|(refine wQ ?_;clear hQ hR hE hM)|refine wC c1 ?_|refine wS c2 ?_|refine wC c3 ?_|refine wC c0 ?_|fail);all_goals clear hX)
 refine zaj (ι:=Nat×(List (Int×Int))) [3,4,5,7,45,46,47] (fun z=>[(47,.n z.1)]) (fun z=>[(5,.imap z.2)]) (fun z=>z.1) (s.switches.length) (fun z=>(zk7 z.2 (s.switches.drop z.1)=zk7 [] s.switches)) (0,([]:List (Int×Int))) ?_;rintro ⟨k,C⟩ ⟨hk,hm⟩;(try dsimp only at hk hm |-);rcases Nat.lt_or_ge k s.switches.length with hlt|hge
 ·rw[zae hlt,zk7]at hm
  (have hX:=@hbd;(repeat' first|refine zaa kX fun K hK=>?_|exact wt|refine wA ?_|(refine wB ?_ ?_<;>intro h<;>first|exact wN h|subst (h:(_:Bool)=_)|skip)|(refine wQ ?_;clear hQ hR hE hM)|fail);all_goals clear hX)
  exact nY (k+1,zmW C (nth s.switches k).id (nth s.switches k).call) ⟨by (try dsimp only);omega,hm⟩
 ·rw[List.drop_eq_nil_of_le hge,zk7]at hm
  rw[<-hm]at hans;clear hm;(have hX:=@hbd;(repeat' first|refine zaa kX fun K hK=>?_|exact wt|refine wA ?_|(refine wB ?_ ?_<;>intro h<;>first|exact wN h|subst (h:(_:Bool)=_)|skip)|(refine wQ ?_;clear hQ hR hE hM)|fail);all_goals clear hX)
  have hzl:Z.length=100/\Z.length=100:=⟨hg.zl,hg.zl⟩;have hans0:zfs ws C 0 (s.locks.drop 0) Z Z true=ans:=by rw[List.drop_zero];exact hans.symm
  refine zaj (ι:=Nat×(List Int)×(List Int)×Bool) [4,5,7,58,59,60] (fun z=>[(60,.n z.1)]) (fun z=>[(2,.cells (G z.2.1 z.2.2.1 (.sl 4 (ws.map Way.c))) true),(3,.cells [.b z.2.2.2] true)]) (fun z=>z.1) (s.locks.length) (fun z=>(z.2.1.length=100/\z.2.2.1.length=100)/\(zfs ws C z.1 (s.locks.drop z.1) z.2.1 z.2.2.1 z.2.2.2=ans)) (0,Z,Z,true) ?_;rintro ⟨i,H,A,t⟩ ⟨hk,hx,hgo⟩;(try dsimp only at hk hx hgo |-);rcases Nat.lt_or_ge i s.locks.length with hlt|hge
  ·rw[zae (by assumption),zfs]at hgo
   have hir:i<p.routes.length:=by omega
   have hw:=hway i hir;have hpa:=hpath i hir;have hm:=zac hir;have hls:=zeP hok hm;have hse:=(zed hok hm).1;have hwl2:=zcn hok hm;have hgn:=zpl hok hm (zfV hb.2.2 (i:=i) (by omega))
   have hap:∀ a∈(nth ws i).asks,0<=a.pnt/\a.pnt<=99:=fun a ha=>by rw[hw]at ha;have:=zdF hok hm ha;omega
   have hse2:∀ x∈(nth ws i).path++(nth ws i).over,0<=x/\x<=99:=fun x hx=>by
    rw[hw,hpa.1,hpa.2]at hx;obtain ⟨q,hq,rfl⟩:=hse x hx;have:=zeE hok hq;omega
   have hgn2:0<=(nth s.locks i).gone/\(nth s.locks i).gone<=(nth ws i).path.length:=by rw[hw,hpa.1];omega
   have hl1:(nth ws i).path.length<=1000:=by rw[hw];omega
   have hl2:(nth ws i).over.length<=1000:=by rw[hw];omega
   have hl3:(nth ws i).asks.length<=1000:=by rw[hw];omega
   have hget:=hg.get (.sl 4 (ws.map Way.c)) hx.1 hx.2;have hln:=hg.len (.sl 4 (ws.map Way.c)) hx.1 hx.2;have hh:=fun C=>held_ac3 hH hM G hg.eq p s ws C (nth s.locks i) (nth ws i) H A t hgn2 hl1 hl2 hse2 hx.1 hx.2
   have hH1:(zcc (nth s.locks i).id (zb7 (nth ws i) (nth s.locks i)) H t).1.length=100:=by rw[zgp];exact hx.1
   have hiw:i<ws.length:=by omega
   revert hh hgo hH1;generalize zcc (nth s.locks i).id (zb7 (nth ws i) (nth s.locks i)) H t=HT;intro hgo hh hH1;have hget':=hg.get (.sl 4 (ws.map Way.c)) hH1 hx.2;have hln':=hg.len (.sl 4 (ws.map Way.c)) hH1 hx.2;have ha:=fun C=>asks_ac3 hH hM G hg.eq p s ws C (nth s.locks i) (nth ws i) HT.1 A HT.2 hl3 hap hH1 hx.2
   have hA1:∀ C,(zfA (nth s.locks i) C (zcK (nth ws i) (nth s.locks i)) A HT.2).1.length=100:=fun C=>by rw[zgA];exact hx.2
   (have hX:=zA @hbd (zA @hget (zA @hln (zA @hget' (zA @hln' @stGg.eq_1))));(repeat' first|refine zaa kX fun K hK=>?_|exact wt|refine wA ?_|(refine wB ?_ ?_<;>intro h<;>first|exact wN h|subst (h:(_:Bool)=_)|skip)|(refine wQ ?_;clear hQ hR hE hM)|(refine wJ 30 (hh C) ?_;try (refine wD ?_;try exact wt))|(refine wJ 30 (ha C) ?_;try (refine wD ?_;try exact wt))|fail);all_goals clear hX)
   exact ⟨(i+1,HT.1,_,_),by dsimp only;omega,⟨by dsimp only;omega,⟨hH1,hA1 _⟩,hgo⟩,by dsimp only;omega,rfl,rfl⟩
  ·rw[List.drop_eq_nil_of_le (by assumption),zfs]at hgo
   have hln:=hg.len (.sl 4 (ws.map Way.c)) hx.1 hx.2;have hsg:=hg.sg (.sl 4 (ws.map Way.c)) hx.1 hx.2;have hov:=hg.ov (.sl 4 (ws.map Way.c)) (.sl 4 (ws.map Way.c)) hx.1 hx.2 hx.1 hx.2;have hba:=hba H A;have hsn:=hg.sn H A (ws.map Way.c);(have hX:=zA @hbd (zA @hln (zA @hsg (zA @hov @hba)));(repeat' first|refine zaa kX fun K hK=>?_|exact wt|refine wA ?_|(refine wB ?_ ?_<;>intro h<;>first|exact wN h|subst (h:(_:Bool)=_)|skip)|(refine wQ ?_;clear hQ hR hE hM)|fail);all_goals clear hX)
   refine hQ _ _ _ (zkQ rfl rfl hln hsg rfl rfl) ?_;simp only[zg7,zdH,zft,zf0,sn_b,hsn];rw[<-hgo]
def zbz (p:Pln) (s:State):List Int×List Int×Bool:=zfs (zby p) (zk7 [] s.switches) 0 s.locks zea zea true
theorem ziE (ws:List WayR) (C:List (Int×Int)):∀ (l:List Lock) (i:Nat) (H A:List Int) (t:Bool),(zfs ws C i l H A t).1.length=H.length/\(zfs ws C i l H A t).2.1.length=A.length
 |[],_,_,_,_=>⟨rfl,rfl⟩
 |l::r,i,H,A,t=>by
  rw[zfs];have:=ziE ws C r (i+1) (zcc l.id (zb7 (nth ws i) l) H t).1 (zfA l C (zcK (nth ws i) l) A (zcc l.id (zb7 (nth ws i) l) H t).2).1 (zfA l C (zcK (nth ws i) l) A (zcc l.id (zb7 (nth ws i) l) H t).2).2;rw[zgp,zgA]at this;exact this
def zav (p:Pln) (s:State):Int:=if zbk p=true then (if zan p s=true/\(zbz p s).2.2=true then 0 else 8) else 100
structure GripR where
 hold:List Int
 ask:List Int
 ways:List WayR
 err:Int
def ofR (p:Pln) (s:State):GripR:=if zav p s=0 then ⟨(zbz p s).1,(zbz p s).2.1,zby p,0⟩ else ⟨zea,zea,[],zav p s⟩
theorem zky (p:Pln) (s:State):(ofR p s).hold.length=100/\(ofR p s).ask.length=100:=by
 unfold ofR;split
 ·have:=ziE (zby p) (zk7 [] s.switches) s.locks 0 zea zea true
  exact ⟨this.1.trans zbV,this.2.trans zbV⟩
 ·exact ⟨zbV,zbV⟩
theorem zmU (p:Pln) (s:State):(ofR p s).err=zav p s:=by
 unfold ofR;split
 ·rename_i h;exact h.symm
 ·rfl
def SmS (s:State):Prop:=s.tracks.length<=1000/\s.switches.length<=1000/\s.locks.length<=1000
theorem zkP {φ:AF} {σ:AS} {t u l:Nat} {g:List AV} {e:AV} {r:Bool} {n:Int} (h1:zbl φ t=.ptr l 201 0) (h2:zah σ l=some (.cells g r)) (h3:g.length=201) (hs:List.take 201 g=g) (h4:zbl φ u=e) (h5:e=.n n):zeR φ σ [.cell t (some 201),.tmp u]=some (.tup [.agg g,.n n]):=by
 have h:zb2 g 0 (some 201)=some (.agg g):=by
  rw[al_s,if_pos (by omega),seg,List.drop_zero,hs]
 subst h5;simp only[zeR,zi1,ares,h1,h4,zds,h2,h,h3,if_true]
theorem of_pc (hH:HasAll P inv) (hI:HasIds P inv) (p:Pln) (hp:Sm p) (s:State) (hs:SmS s):PC P inv 79 [.agg p.c,.agg s.c] (·=.tup [.agg (gc (ofR p s).hold (ofR p s).ask (.sl 4 ((ofR p s).ways.map Way.c))),.n (ofR p s).err]):=by
 have c0:=zj3 hH hI p hp;have hRl:=zky p s;have c1:zbk p=true->PC P inv 93 [.agg p.c,.agg s.c] (·=.tup [.agg (gc (if zan p s=true then (zbz p s).1 else zea) (if zan p s=true then (zbz p s).2.1 else zea) (.sl 4 ((if zan p s=true then zby p else []).map Way.c))),.b (zan p s&&(zbz p s).2.2)]):=by
  intro ho;cases hb:zan p s with
  |true=>simpa [zbz] using grip_ok hH hI p hp s hs ho hb
  |false =>
   simp only[zbk,Bool.and_eq_true]at ho
   simpa using grip_bad hH hI p hp s hs (zfx ho.1) hb
 have hgl:=ziE (zby p) (zk7 [] s.switches) s.locks 0 zea zea true;have hl1:(if zan p s=true then (zbz p s).1 else zea).length=100:=by
  split
  ·exact hgl.1.trans zbV
  ·exact zbV
 have hl2:(if zan p s=true then (zbz p s).2.1 else zea).length=100:=by
  split
  ·exact hgl.2.trans zbV
  ·exact zbV
 have hR:ofR p s=if zbk p=true then (if (zan p s&&(zbz p s).2.2)=true then ⟨(if zan p s=true then (zbz p s).1 else zea),(if zan p s=true then (zbz p s).2.1 else zea),(if zan p s=true then zby p else []),0⟩ else ⟨zea,zea,[],8⟩) else ⟨zea,zea,[],100⟩:=by
  unfold ofR zav;cases zbk p<;>cases zan p s<;>cases (zbz p s).2.2<;>rfl
 clear hgl;unfold zhR at c0;revert hR c1 hl1 hl2 c0 hRl;generalize ofR p s=R;generalize (if zan p s=true then (zbz p s).1 else zea)=H
 generalize (if zan p s=true then (zbz p s).2.1 else zea)=A
 generalize (if zan p s=true then zby p else [])=ws
 generalize (zan p s&&(zbz p s).2.2)=t;generalize zbk p=o;obtain ⟨G,Z,hg⟩:=GC.ex;rw[<-hg.eq,<-hg.z];intro c0 hRl c1 hl1 hl2 hR;have hfold:=hg.fold;have hlen0:=hg.len (.s0 4) hg.zl hg.zl;have hlen:=hg.len (.sl 4 (ws.map Way.c)) hl1 hl2;have hsg0:=hg.sg (.s0 4) hg.zl hg.zl;have hsg:=hg.sg (.sl 4 (ws.map Way.c)) hl1 hl2;have hov0:=hg.ov (.s0 4) (.s0 4) hg.zl hg.zl hg.zl hg.zl;have hov:=hg.ov (.s0 4) (.sl 4 (ws.map Way.c)) hg.zl hg.zl hl1 hl2;have hbd0:=hg.bd0 Z Z;have hba0:=hg.ba0 Z Z;have hbd:=hg.bd H A (ws.map Way.c);have hba:=hg.ba H A (ws.map Way.c);have hsn0:=hg.sn0 Z Z;have hsn:=hg.sn H A (ws.map Way.c);cases o with
 |false =>
  rw[if_neg (by simp)]at hR c0
  subst hR;refine wf hH cd79 fun w0 M Q hM hE hQ hR=>?_;refine wq ?_
  (have hX:=zA @hfold (zA @hlen0 (zA @hsg0 (zA @hov0 (zA @hbd0 @hba0))));(repeat' first|refine zaa y8 fun K hK=>?_|exact wt|refine wA ?_|(refine wB ?_ ?_<;>intro h<;>first|exact wN h|subst (h:(_:Bool)=_)|skip)|(refine wQ ?_;clear hQ hR hE hM)|refine wC c0 ?_|fail);all_goals clear hX)
  all_goals first|(exfalso;contradiction)|skip
  all_goals (refine hQ _ _ _ (zkP rfl rfl hlen0 hsg0 rfl rfl) ?_;simp only[zg7,zdH,zft,zf0,sn_i,hsn0];rfl)
 |true =>
  rw[if_pos rfl]at hR c0;have c1:=c1 rfl;cases t with
  |false =>
   rw[if_neg (by simp)]at hR
   subst hR;refine wf hH cd79 fun w0 M Q hM hE hQ hR=>?_;refine wq ?_
   (have hX:=zA @hfold (zA @hlen0 (zA @hsg0 (zA @hov0 (zA @hbd0 (zA @hba0 (zA @hlen (zA @hov (zA @hbd @hba))))))));(repeat' first|refine zaa y8 fun K hK=>?_|exact wt|refine wA ?_|(refine wB ?_ ?_<;>intro h<;>first|exact wN h|subst (h:(_:Bool)=_)|skip)|(refine wQ ?_;clear hQ hR hE hM)|refine wC c0 ?_|refine wC c1 ?_|fail);all_goals clear hX)
   all_goals first|(exfalso;contradiction)|skip
   all_goals (refine hQ _ _ _ (zkP rfl rfl hlen0 hsg0 rfl rfl) ?_;simp only[zg7,zdH,zft,zf0,sn_i,hsn0];rfl)
  |true =>
   rw[if_pos rfl]at hR;subst hR;refine wf hH cd79 fun w0 M Q hM hE hQ hR=>?_;refine wq ?_
   (have hX:=zA @hfold (zA @hlen0 (zA @hsg0 (zA @hov0 (zA @hbd0 (zA @hba0 (zA @hlen (zA @hov (zA @hbd (zA @hba @hsg)))))))));(repeat' first|refine zaa y8 fun K hK=>?_|exact wt|refine wA ?_|(refine wB ?_ ?_<;>intro h<;>first|exact wN h|subst (h:(_:Bool)=_)|skip)|(refine wQ ?_;clear hQ hR hE hM)|refine wC c0 ?_|refine wC c1 ?_|fail);all_goals clear hX)
   all_goals first|(exfalso;contradiction)|skip
   all_goals (refine hQ _ _ _ (zkP rfl rfl hlen hsg rfl rfl) ?_;simp only[zg7,zdH,zft,zf0,sn_i,hsn])
theorem zoU (hH:HasAll P inv) (hI:HasIds P inv) (p:Pln) (hp:Sm p) (s:State) (hs:SmS s):PC P inv 69 [.agg p.c,.agg s.c] (·=.n (zav p s)):=by
 have c0:=of_pc hH hI p hp s hs;have hRl:=zky p s;have hRe:=zmU p s;rw[<-hRe];revert c0 hRl;generalize ofR p s=R;obtain ⟨G,Z,hg⟩:=GC.ex;rw[<-hg.eq];intro c0 hRl;have hfold:=hg.fold;have hlen0:=hg.len (.s0 4) hg.zl hg.zl;have hlen:=hg.len (.sl 4 (R.ways.map Way.c)) hRl.1 hRl.2;have hov:=hg.ov (.s0 4) (.sl 4 (R.ways.map Way.c)) hg.zl hg.zl hRl.1 hRl.2;have hbd0:=hg.bd0 Z Z;have hbd:=hg.bd R.hold R.ask (R.ways.map Way.c);have hba:=hg.ba R.hold R.ask (R.ways.map Way.c);refine wf hH cd69 fun w0 M Q hM hE hQ hR=>?_;refine wq ?_
 (have hX:=zA @hfold (zA @hlen0 (zA @hlen (zA @hov (zA @hbd0 (zA @hbd @hba)))));(repeat' first|refine zaa [0,1,2,3,4,6] fun K hK=>?_|exact wt|refine wA ?_|(refine wB ?_ ?_<;>intro h<;>first|exact wN h|subst (h:(_:Bool)=_)|skip)|(refine wQ ?_;clear hQ hR hE hM)|refine wC c0 ?_|fail);all_goals clear hX)
theorem zgX {α:Type} (q:α->Bool) (l:List α):decide (0<=za1 q 0 l)=l.any q:=by
 have:∀ (l:List α) (k:Int),0<=k->(decide (0<=za1 q k l)=l.any q):=by
  intro l
  induction l with
  |nil=>intro k _;simp[za1]
  |cons x r ih =>
   intro k hk;rw[za1,List.any_cons];cases h:q x with
   |true=>simp[hk]
   |false=>simpa using ih (k+1) (by omega)
 exact this l 0 (Int.le_refl _)
theorem hasSec (hH:HasAll P inv) {jc:Nat} {caps:List AV} {q:Section->Bool} (l:List Section) (hc:∀ x∈l,PC P inv jc ([.agg x.c]++caps) (·=.b (q x))) (hl:l.length<=1000000000):PC P inv 80 [.sl 3 (l.map Section.c),.fn jc caps] (·=.b (l.any q)):=by
 have c1:=ziB hH l hc hl;have e:=zgX q l;refine wf hH cd80 fun w0 M Q hM hE hQ hR=>?_;refine wq ?_
 (have hX:=@e;(repeat' first|refine zaa kL fun K hK=>?_|exact wt|refine wA ?_|(refine wB ?_ ?_<;>intro h<;>first|exact wN h|subst (h:(_:Bool)=_)|skip)|(refine wQ ?_;clear hQ hR hE hM)|refine wC c1 ?_|fail);all_goals clear hX)
theorem isSec81 (hH:HasAll P inv) (n:Int) (x:Section):PC P inv 81 ([.agg x.c]++[.ip 1 [[.n n]] 0 0]) (·=.b (decide (x.id=n))):=by
 refine wf hH cd81 fun w0 M Q hM hE hQ hR=>?_;refine wq ?_
 (repeat' first|refine zaa kD fun K hK=>?_|exact wt|refine wA ?_|(refine wB ?_ ?_<;>intro h<;>first|exact wN h|subst (h:(_:Bool)=_)|skip)|(refine wQ ?_;clear hQ hR hE hM)|fail)
def zkJ (p:Pln) (n:Int):Bool:=p.sections.any fun x=>decide (x.id=n)
def zri (p:Pln) (n:Int):Bool:=p.points.any fun x=>decide (x.id=n)
def zgY (p:Pln) (s:State) (n:Int):Int×Int:=if zav p s=0 then (if zkJ p n=true then (nth (zbz p s).1 n.toNat,0) else (0,6)) else (0,zav p s)
theorem zar {p:Pln} {s:State} (h:zav p s=0):OkP p:=by
 unfold zav at h;split at h
 ·rename_i ho
  simp only[zbk,Bool.and_eq_true]at ho;exact zfx ho.1
 ·cases h
theorem zm3 {p:Pln} (hok:OkP p) {n:Int} (h:zkJ p n=true):0<=n/\n<100:=by
 obtain ⟨x,hx,e⟩:=List.any_eq_true.1 h;have:=zeE hok hx;have:x.id=n:=by simpa using e
 omega
theorem GC.get1 {G:List Int->List Int->AV->List AV} {Z:List Int} (hg:GC G Z) {H A:List Int} (W:AV) (h:H.length=100) {i:Nat} (hi:i<100):(G H A W)[i]?=some (.n (nth H i)):=by rw[hg.eq];exact zrQ h hi
theorem ziD (hH:HasAll P inv) (hI:HasIds P inv) (p:Pln) (hp:Sm p) (s:State) (hs:SmS s) (n:Int):PC P inv 67 [.agg p.c,.agg s.c,.n n] (·=.tup [.n (zgY p s n).1,.n (zgY p s n).2]):=by
 have c0:=of_pc hH hI p hp s hs;have c1:=hasSec hH p.sections (fun x _=>isSec81 hH n x) (Nat.le_trans hp.sec (by omega))
 have hRl:=zky p s;have hRe:=zmU p s;have hRh:zav p s=0->(ofR p s).hold=(zbz p s).1:=fun h=>by unfold ofR;rw[if_pos h]
 have hr:zav p s=0->zkJ p n=true->0<=n/\n<100:=fun h1 h2=>zm3 (zar h1) h2
 rw[show (p.sections.any fun x=>decide (x.id=n))=zkJ p n from rfl]at c1
 unfold zgY;revert c0 c1 hRl hRe hRh hr;generalize ofR p s=R;generalize zav p s=e;generalize zkJ p n=t;generalize (zbz p s).1=H;obtain ⟨G,Z,hg⟩:=GC.ex;rw[<-hg.eq];intro c0 c1 hRl hRe hRh hr;have hfold:=hg.fold;have hlen0:=hg.len (.s0 4) hg.zl hg.zl;have hlen:=hg.len (.sl 4 (R.ways.map Way.c)) hRl.1 hRl.2;have hov:=hg.ov (.s0 4) (.sl 4 (R.ways.map Way.c)) hg.zl hg.zl hRl.1 hRl.2;have hbd0:=hg.bd0 Z Z;have hbd:=hg.bd R.hold R.ask (R.ways.map Way.c);have hba:=hg.ba R.hold R.ask (R.ways.map Way.c);by_cases he:e=0
 ·rw[if_pos he]
  rw[hRe]at c0;subst he;cases t with
  |false =>
   rw[if_neg (by simp)]
   refine wf hH cd67 fun w0 M Q hM hE hQ hR=>?_;refine wq ?_
   (have hX:=zA @hfold (zA @hlen0 (zA @hlen (zA @hov (zA @hbd0 (zA @hbd @hba)))));(repeat' first|refine zaa y9 fun K hK=>?_|exact wt|refine wA ?_|(refine wB ?_ ?_<;>intro h<;>first|exact wN h|subst (h:(_:Bool)=_)|skip)|(refine wQ ?_;clear hQ hR hE hM)|refine wC c0 ?_|refine wS c1 ?_|fail);all_goals clear hX)
   all_goals first|rfl|(exfalso;contradiction)|skip
  |true =>
   rw[if_pos rfl];have hr:=hr rfl rfl;have hget:=hg.get1 (A:=R.ask) (.sl 4 (R.ways.map Way.c)) hRl.1 (i:=n.toNat) (by omega)
   rw[hRh rfl]at hget hlen hov hbd hba c0;refine wf hH cd67 fun w0 M Q hM hE hQ hR=>?_;refine wq ?_
   (have hX:=zA @hfold (zA @hlen0 (zA @hlen (zA @hov (zA @hbd0 (zA @hbd (zA @hba @hget))))));(repeat' first|refine zaa y9 fun K hK=>?_|exact wt|refine wA ?_|(refine wB ?_ ?_<;>intro h<;>first|exact wN h|subst (h:(_:Bool)=_)|skip)|(refine wQ ?_;clear hQ hR hE hM)|refine wC c0 ?_|refine wS c1 ?_|fail);all_goals clear hX)
   all_goals first|rfl|(exfalso;contradiction)|skip
 ·rw[if_neg he]
  rw[hRe]at c0;refine wf hH cd67 fun w0 M Q hM hE hQ hR=>?_;refine wq ?_
  (have hX:=zA @hfold (zA @hlen0 (zA @hlen (zA @hov (zA @hbd0 (zA @hbd @hba)))));(repeat' first|refine zaa y9 fun K hK=>?_|exact wt|refine wA ?_|(refine wB ?_ ?_<;>intro h<;>first|exact wN h|subst (h:(_:Bool)=_)|skip)|(refine wQ ?_;clear hQ hR hE hM)|refine wC c0 ?_|fail);all_goals clear hX)
  all_goals first|rfl|(exfalso;contradiction)|skip
theorem zrx (hH:HasAll P inv) (l:List Track) (v:Track) (hl:l.length<=1000000000):PC P inv 184 [.sl 2 (l.map Track.c),.agg v.c] (·=.n (za1 (fun x=>decide (v.id=x.id)&&decide (v.is=x.is)) 0 l)):=by
 refine wf hH cd184 fun w0 M Q hM hE hQ hR=>?_;refine wq ?_
 (repeat' first|refine zaa kY fun K hK=>?_|exact wt|refine wA ?_|(refine wB ?_ ?_<;>intro h<;>first|exact wN h|subst (h:(_:Bool)=_)|skip)|(refine wQ ?_;clear hQ hR hE hM)|fail)
 refine zaj (ι:=Nat) [0,3,4,7,8] (fun z=>[(8,.n z)]) (fun _=>[]) (fun z=>z) (l.length) (fun z=>(za1 (fun x=>decide (v.id=x.id)&&decide (v.is=x.is)) z (l.drop z)=za1 (fun x=>decide (v.id=x.id)&&decide (v.is=x.is)) 0 l)) (0) ?_;rintro k ⟨hk,hg⟩;(try dsimp only at hk hg |-);rcases Nat.lt_or_ge k l.length with hlt|hge
 ·rw[zae hlt]at hg
  rw[za1]at hg;cases ht:decide (v.id=(nth l k).id)&&decide (v.is=(nth l k).is) with
  |true =>
   rw[if_pos ht]at hg;(have hX:=@ht;(repeat' first|refine zaa kY fun K hK=>?_|exact wt|refine wA ?_|(refine wB ?_ ?_<;>intro h<;>first|exact wN h|subst (h:(_:Bool)=_)|skip)|(refine wQ ?_;clear hQ hR hE hM)|fail);all_goals clear hX)
   all_goals first|exact hg|(exfalso;contradiction)
  |false =>
   rw[if_neg (by rw[ht];simp)]at hg
   (have hX:=@ht;(repeat' first|refine zaa kY fun K hK=>?_|exact wt|refine wA ?_|(refine wB ?_ ?_<;>intro h<;>first|exact wN h|subst (h:(_:Bool)=_)|skip)|(refine wQ ?_;clear hQ hR hE hM)|fail);all_goals clear hX)
   all_goals first|(exfalso;contradiction)|exact ⟨k+1,by omega,⟨by omega,hg⟩,by omega⟩
 ·rw[List.drop_eq_nil_of_le hge]at hg
  (repeat' first|refine zaa kY fun K hK=>?_|exact wt|refine wA ?_|(refine wB ?_ ?_<;>intro h<;>first|exact wN h|subst (h:(_:Bool)=_)|skip)|(refine wQ ?_;clear hQ hR hE hM)|fail)
  rw[<-hg];rfl
theorem zry (hH:HasAll P inv) (l:List Lock) (v:Lock) (hl:l.length<=1000000000):PC P inv 265 [.sl 4 (l.map Lock.c),.agg v.c] (·=.n (za1 (fun x=>decide (v.id=x.id)&&(decide (v.phase=x.phase)&&(decide (v.gone=x.gone)&&decide (v.left=x.left)))) 0 l)):=by
 refine wf hH cd265 fun w0 M Q hM hE hQ hR=>?_;refine wq ?_
 (repeat' first|refine zaa kY fun K hK=>?_|exact wt|refine wA ?_|(refine wB ?_ ?_<;>intro h<;>first|exact wN h|subst (h:(_:Bool)=_)|skip)|(refine wQ ?_;clear hQ hR hE hM)|fail)
 refine zaj (ι:=Nat) [0,3,4,7,8] (fun z=>[(8,.n z)]) (fun _=>[]) (fun z=>z) (l.length) (fun z=>(za1 (fun x=>decide (v.id=x.id)&&(decide (v.phase=x.phase)&&(decide (v.gone=x.gone)&&decide (v.left=x.left)))) z (l.drop z)=za1 (fun x=>decide (v.id=x.id)&&(decide (v.phase=x.phase)&&(decide (v.gone=x.gone)&&decide (v.left=x.left)))) 0 l)) (0) ?_;rintro k ⟨hk,hg⟩;(try dsimp only at hk hg |-);rcases Nat.lt_or_ge k l.length with hlt|hge
 ·rw[zae hlt]at hg
  rw[za1]at hg;cases ht:(decide (v.id=(nth l k).id)&&(decide (v.phase=(nth l k).phase)&&(decide (v.gone=(nth l k).gone)&&decide (v.left=(nth l k).left)))) with
  |true =>
   rw[if_pos ht]at hg;(have hX:=@ht;(repeat' first|refine zaa kY fun K hK=>?_|exact wt|refine wA ?_|(refine wB ?_ ?_<;>intro h<;>first|exact wN h|subst (h:(_:Bool)=_)|skip)|(refine wQ ?_;clear hQ hR hE hM)|fail);all_goals clear hX)
   all_goals first|exact hg|(exfalso;contradiction)
  |false =>
   rw[if_neg (by rw[ht];simp)]at hg
   (have hX:=@ht;(repeat' first|refine zaa kY fun K hK=>?_|exact wt|refine wA ?_|(refine wB ?_ ?_<;>intro h<;>first|exact wN h|subst (h:(_:Bool)=_)|skip)|(refine wQ ?_;clear hQ hR hE hM)|fail);all_goals clear hX)
   all_goals first|(exfalso;contradiction)|exact ⟨k+1,by omega,⟨by omega,hg⟩,by omega⟩
 ·rw[List.drop_eq_nil_of_le hge]at hg
  (repeat' first|refine zaa kY fun K hK=>?_|exact wt|refine wA ?_|(refine wB ?_ ?_<;>intro h<;>first|exact wN h|subst (h:(_:Bool)=_)|skip)|(refine wQ ?_;clear hQ hR hE hM)|fail)
  rw[<-hg];rfl
theorem has_trk (hH:HasAll P inv) (l:List Track) (v:Track) (hl:l.length<=1000000000):PC P inv 176 [.sl 2 (l.map Track.c),.agg v.c] (·=.b (l.any fun x=>decide (v.id=x.id)&&decide (v.is=x.is))):=by
 have c1:=zrx hH l v hl;have e:=zgX (fun x:Track=>decide (v.id=x.id)&&decide (v.is=x.is)) l
 revert c1 e;generalize za1 (fun x:Track=>decide (v.id=x.id)&&decide (v.is=x.is)) 0 l=i
 generalize (l.any fun x=>decide (v.id=x.id)&&decide (v.is=x.is))=t
 intro c1 e;refine wf hH cd176 fun w0 M Q hM hE hQ hR=>?_;refine wq ?_
 (have hX:=@e;(repeat' first|refine zaa [0,1,3,4] fun K hK=>?_|exact wt|refine wA ?_|(refine wB ?_ ?_<;>intro h<;>first|exact wN h|subst (h:(_:Bool)=_)|skip)|(refine wQ ?_;clear hQ hR hE hM)|refine wC c1 ?_|fail);all_goals clear hX)
theorem has_lck (hH:HasAll P inv) (l:List Lock) (v:Lock) (hl:l.length<=1000000000):PC P inv 241 [.sl 4 (l.map Lock.c),.agg v.c] (·=.b (l.any fun x=>decide (v.id=x.id)&&(decide (v.phase=x.phase)&&(decide (v.gone=x.gone)&&decide (v.left=x.left))))):=by
 have c1:=zry hH l v hl;have e:=zgX (fun x:Lock=>decide (v.id=x.id)&&(decide (v.phase=x.phase)&&(decide (v.gone=x.gone)&&decide (v.left=x.left)))) l
 revert c1 e;generalize za1 (fun x:Lock=>decide (v.id=x.id)&&(decide (v.phase=x.phase)&&(decide (v.gone=x.gone)&&decide (v.left=x.left)))) 0 l=i
 generalize (l.any fun x=>decide (v.id=x.id)&&(decide (v.phase=x.phase)&&(decide (v.gone=x.gone)&&decide (v.left=x.left))))=t
 intro c1 e;refine wf hH cd241 fun w0 M Q hM hE hQ hR=>?_;refine wq ?_
 (have hX:=@e;(repeat' first|refine zaa [0,1,3,4] fun K hK=>?_|exact wt|refine wA ?_|(refine wB ?_ ?_<;>intro h<;>first|exact wN h|subst (h:(_:Bool)=_)|skip)|(refine wQ ?_;clear hQ hR hE hM)|refine wC c1 ?_|fail);all_goals clear hX)
theorem hasInt (hH:HasAll P inv) {jc:Nat} {caps:List AV} {q:Int->Bool} (l:List Int) (hc:∀ x∈l,PC P inv jc ([.n x]++caps) (·=.b (q x))) (hl:l.length<=1000000000):PC P inv 177 [.sl 1 (l.map zaJ),.fn jc caps] (·=.b (l.any q)):=by
 have c1:=idx_int hH l hc hl;have e:=zgX q l;refine wf hH cd177 fun w0 M Q hM hE hQ hR=>?_;refine wq ?_
 (have hX:=@e;(repeat' first|refine zaa kL fun K hK=>?_|exact wt|refine wA ?_|(refine wB ?_ ?_<;>intro h<;>first|exact wN h|subst (h:(_:Bool)=_)|skip)|(refine wQ ?_;clear hQ hR hE hM)|refine wC c1 ?_|fail);all_goals clear hX)
theorem hasSwt (hH:HasAll P inv) {jc:Nat} {caps:List AV} {q:Switch->Bool} (l:List Switch) (hc:∀ x∈l,PC P inv jc ([.agg x.c]++caps) (·=.b (q x))) (hl:l.length<=1000000000):PC P inv 238 [.sl 3 (l.map Switch.c),.fn jc caps] (·=.b (l.any q)):=by
 have c1:=idx_swt hH l hc hl;have e:=zgX q l;refine wf hH cd238 fun w0 M Q hM hE hQ hR=>?_;refine wq ?_
 (have hX:=@e;(repeat' first|refine zaa kL fun K hK=>?_|exact wt|refine wA ?_|(refine wB ?_ ?_<;>intro h<;>first|exact wN h|subst (h:(_:Bool)=_)|skip)|(refine wQ ?_;clear hQ hR hE hM)|refine wC c1 ?_|fail);all_goals clear hX)
theorem hasAsk (hH:HasAll P inv) {jc:Nat} {caps:List AV} {q:AskR->Bool} (l:List AskR) (hc:∀ x∈l,PC P inv jc ([.agg x.c]++caps) (·=.b (q x))) (hl:l.length<=1000000000):PC P inv 247 [.sl 3 (l.map AskR.c),.fn jc caps] (·=.b (l.any q)):=by
 have c1:=idx_ask hH l hc hl;have e:=zgX q l;refine wf hH cd247 fun w0 M Q hM hE hQ hR=>?_;refine wq ?_
 (have hX:=@e;(repeat' first|refine zaa kL fun K hK=>?_|exact wt|refine wA ?_|(refine wB ?_ ?_<;>intro h<;>first|exact wN h|subst (h:(_:Bool)=_)|skip)|(refine wQ ?_;clear hQ hR hE hM)|refine wC c1 ?_|fail);all_goals clear hX)
def frT (s:State) (n:Int):Bool:=s.tracks.any fun x=>decide (n=x.id)&&decide (0=x.is)
def zmG (s:State) (n:Int):Bool:=s.locks.any fun x=>decide (n=x.id)&&(decide (1=x.phase)&&(decide (0=x.gone)&&decide (0=x.left)))
def zpM (s:State) (a:AskR):Bool:=s.switches.any fun x=>decide (x.id=a.pnt)&&decide (x.lie=a.lie)
def zik (s:State) (n:Int) (w:WayR):Bool:=zmG s n&&(!(w.path.any fun m=>!frT s m)&&(!(w.over.any fun m=>!frT s m)&&!(w.asks.any fun a=>!zpM s a)))
section
variable (hH:HasAll P inv) (s:State) (hs:SmS s)
include hH hs
theorem pr236 (m:Int):PC P inv 236 ([.n m]++[.ip 3 [s.c] 0 0]) (·=.b (frT s m)):=by
 have c1:=has_trk hH s.tracks ⟨m,0⟩ (by have:=hs.1;omega)
 rw[show (s.tracks.any fun x=>decide ((⟨m,0⟩:Track).id=x.id)&&decide ((⟨m,0⟩:Track).is=x.is))=frT s m from rfl]at c1
 refine wf hH cd236 fun w0 M Q hM hE hQ hR=>?_;refine wq ?_
 (repeat' first|refine zaa [0,1,3] fun K hK=>?_|exact wt|refine wA ?_|(refine wB ?_ ?_<;>intro h<;>first|exact wN h|subst (h:(_:Bool)=_)|skip)|(refine wQ ?_;clear hQ hR hE hM)|refine wC c1 ?_|fail)
theorem pr243 (m:Int):PC P inv 243 ([.n m]++[.ip 1 [[.fn 236 [.ip 3 [s.c] 0 0]]] 0 0]) (·=.b (!frT s m)):=by
 have c1:=pr236 hH s hs m;refine wf hH cd243 fun w0 M Q hM hE hQ hR=>?_;refine wq ?_
 (repeat' first|refine zaa [0,1,3] fun K hK=>?_|exact wt|refine wA ?_|(refine wB ?_ ?_<;>intro h<;>first|exact wN h|subst (h:(_:Bool)=_)|skip)|(refine wQ ?_;clear hQ hR hE hM)|refine wC c1 ?_|fail)
theorem pr245 (m:Int):PC P inv 245 ([.n m]++[.ip 1 [[.fn 236 [.ip 3 [s.c] 0 0]]] 0 0]) (·=.b (!frT s m)):=by
 have c1:=pr236 hH s hs m;refine wf hH cd245 fun w0 M Q hM hE hQ hR=>?_;refine wq ?_
 (repeat' first|refine zaa [0,1,3] fun K hK=>?_|exact wt|refine wA ?_|(refine wB ?_ ?_<;>intro h<;>first|exact wN h|subst (h:(_:Bool)=_)|skip)|(refine wQ ?_;clear hQ hR hE hM)|refine wC c1 ?_|fail)
omit hs in
theorem pr239 (a:AskR) (x:Switch):PC P inv 239 ([.agg x.c]++[.ip 3 [a.c] 0 0]) (·=.b (decide (x.id=a.pnt)&&decide (x.lie=a.lie))):=by
 refine wf hH cd239 fun w0 M Q hM hE hQ hR=>?_;refine wq ?_
 (repeat' first|refine zaa kD fun K hK=>?_|exact wt|refine wA ?_|(refine wB ?_ ?_<;>intro h<;>first|exact wN h|subst (h:(_:Bool)=_)|skip)|(refine wQ ?_;clear hQ hR hE hM)|fail)
 all_goals (simp[*];done)
theorem pr237 (a:AskR):PC P inv 237 ([.agg a.c]++[.ip 3 [s.c] 0 0]) (·=.b (zpM s a)):=by
 have c1:=hasSwt hH s.switches (fun x _=>pr239 hH a x) (by have:=hs.2.1;omega)
 rw[show (s.switches.any fun x=>decide (x.id=a.pnt)&&decide (x.lie=a.lie))=zpM s a from rfl]at c1
 refine wf hH cd237 fun w0 M Q hM hE hQ hR=>?_;refine wq ?_
 (repeat' first|refine zaa kD fun K hK=>?_|exact wt|refine wA ?_|(refine wB ?_ ?_<;>intro h<;>first|exact wN h|subst (h:(_:Bool)=_)|skip)|(refine wQ ?_;clear hQ hR hE hM)|refine wS c1 ?_|fail)
theorem pr248 (a:AskR):PC P inv 248 ([.agg a.c]++[.ip 1 [[.fn 237 [.ip 3 [s.c] 0 0]]] 0 0]) (·=.b (!zpM s a)):=by
 have c1:=pr237 hH s hs a;refine wf hH cd248 fun w0 M Q hM hE hQ hR=>?_;refine wq ?_
 (repeat' first|refine zaa kD fun K hK=>?_|exact wt|refine wA ?_|(refine wB ?_ ?_<;>intro h<;>first|exact wN h|subst (h:(_:Bool)=_)|skip)|(refine wQ ?_;clear hQ hR hE hM)|refine wC c1 ?_|fail)
theorem pr242 (w:WayR) (hw:w.path.length<=1000):PC P inv 242 [.ip 4 [w.c] 0 0,.ip 1 [[.fn 236 [.ip 3 [s.c] 0 0]]] 0 0] (·=.b (!(w.path.any fun m=>!frT s m))):=by
 have c1:=hasInt hH w.path (fun x _=>pr243 hH s hs x) (by omega)
 refine wf hH cd242 fun w0 M Q hM hE hQ hR=>?_;refine wq ?_
 (repeat' first|refine zaa kj fun K hK=>?_|exact wt|refine wA ?_|(refine wB ?_ ?_<;>intro h<;>first|exact wN h|subst (h:(_:Bool)=_)|skip)|(refine wQ ?_;clear hQ hR hE hM)|refine wC c1 ?_|fail)
theorem pr244 (w:WayR) (hw:w.over.length<=1000):PC P inv 244 [.ip 4 [w.c] 0 0,.ip 1 [[.fn 236 [.ip 3 [s.c] 0 0]]] 0 0] (·=.b (!(w.over.any fun m=>!frT s m))):=by
 have c1:=hasInt hH w.over (fun x _=>pr245 hH s hs x) (by omega)
 refine wf hH cd244 fun w0 M Q hM hE hQ hR=>?_;refine wq ?_
 (repeat' first|refine zaa kj fun K hK=>?_|exact wt|refine wA ?_|(refine wB ?_ ?_<;>intro h<;>first|exact wN h|subst (h:(_:Bool)=_)|skip)|(refine wQ ?_;clear hQ hR hE hM)|refine wC c1 ?_|fail)
theorem pr246 (w:WayR) (hw:w.asks.length<=1000):PC P inv 246 [.ip 4 [w.c] 0 0,.ip 1 [[.fn 237 [.ip 3 [s.c] 0 0]]] 0 0] (·=.b (!(w.asks.any fun a=>!zpM s a))):=by
 have c1:=hasAsk hH w.asks (fun x _=>pr248 hH s hs x) (by omega)
 refine wf hH cd246 fun w0 M Q hM hE hQ hR=>?_;refine wq ?_
 (repeat' first|refine zaa kj fun K hK=>?_|exact wt|refine wA ?_|(refine wB ?_ ?_<;>intro h<;>first|exact wN h|subst (h:(_:Bool)=_)|skip)|(refine wQ ?_;clear hQ hR hE hM)|refine wC c1 ?_|fail)
theorem pr240 (n:Int):PC P inv 240 [.ip 3 [s.c] 0 0,.ip 1 [[.n n]] 0 0] (·=.b (zmG s n)):=by
 have c1:=has_lck hH s.locks ⟨n,1,0,0⟩ (by have:=hs.2.2;omega)
 rw[show (s.locks.any fun x=>decide ((⟨n,1,0,0⟩:Lock).id=x.id)&&(decide ((⟨n,1,0,0⟩:Lock).phase=x.phase)&&(decide ((⟨n,1,0,0⟩:Lock).gone=x.gone)&&decide ((⟨n,1,0,0⟩:Lock).left=x.left))))=zmG s n from rfl]at c1
 refine wf hH cd240 fun w0 M Q hM hE hQ hR=>?_;refine wq ?_
 (repeat' first|refine zaa kj fun K hK=>?_|exact wt|refine wA ?_|(refine wB ?_ ?_<;>intro h<;>first|exact wN h|subst (h:(_:Bool)=_)|skip)|(refine wQ ?_;clear hQ hR hE hM)|refine wC c1 ?_|fail)
theorem zqI (n:Int) (w:WayR) (h1:w.path.length<=1000) (h2:w.over.length<=1000) (h3:w.asks.length<=1000):PC P inv 228 [.agg s.c,.n n,.agg w.c] (·=.b (zik s n w)):=by
 have c1:=pr240 hH s hs n;have c2:=pr242 hH s hs w h1;have c3:=pr244 hH s hs w h2;have c4:=pr246 hH s hs w h3;unfold zik;generalize zmG s n=b1 at *;generalize (w.path.any fun m=>!frT s m)=b2 at *
 generalize (w.over.any fun m=>!frT s m)=b3 at *
 generalize (w.asks.any fun a=>!zpM s a)=b4 at *
 refine wf hH cd228 fun w0 M Q hM hE hQ hR=>?_;refine wq ?_
 (repeat' first|refine zaa kN fun K hK=>?_|exact wt|refine wA ?_|(refine wB ?_ ?_<;>intro h<;>first|exact wN h|subst (h:(_:Bool)=_)|skip)|(refine wQ ?_;clear hQ hR hE hM)|fail)
 refine zaj (ι:=Nat) [6,17,18,19] (fun z=>[(19,.n z)]) (fun _=>[]) (fun z=>z) (4) (fun z=>((([b1,!b2,!b3,!b4]:List Bool).drop z).all id=(b1&&(!b2&&(!b3&&!b4))))) (0) ?_;rintro k ⟨hk,hg⟩;(try dsimp only at hk hg |-);rcases Nat.lt_or_ge k 4 with hlt|hge
 ·obtain rfl|rfl|rfl|rfl:k=0\/k=1\/k=2\/k=3:=by omega
  ·cases b1
   ·(repeat' first|refine zaa kN fun K hK=>?_|exact wt|refine wA ?_|(refine wB ?_ ?_<;>intro h<;>first|exact wN h|subst (h:(_:Bool)=_)|skip)|(refine wQ ?_;clear hQ hR hE hM)|refine wS c1 ?_|fail)
    all_goals first|rfl|(exfalso;contradiction)
   ·(repeat' first|refine zaa kN fun K hK=>?_|exact wt|refine wA ?_|(refine wB ?_ ?_<;>intro h<;>first|exact wN h|subst (h:(_:Bool)=_)|skip)|(refine wQ ?_;clear hQ hR hE hM)|refine wS c1 ?_|fail)
    all_goals first|exact ⟨1,by omega,⟨by omega,by simp⟩,rfl⟩|(exfalso;contradiction)
  ·cases b2
   ·(repeat' first|refine zaa kN fun K hK=>?_|exact wt|refine wA ?_|(refine wB ?_ ?_<;>intro h<;>first|exact wN h|subst (h:(_:Bool)=_)|skip)|(refine wQ ?_;clear hQ hR hE hM)|refine wS c2 ?_|fail)
    all_goals first|exact ⟨2,by omega,⟨by omega,by simpa using hg⟩,rfl⟩|(exfalso;contradiction)
   ·(repeat' first|refine zaa kN fun K hK=>?_|exact wt|refine wA ?_|(refine wB ?_ ?_<;>intro h<;>first|exact wN h|subst (h:(_:Bool)=_)|skip)|(refine wQ ?_;clear hQ hR hE hM)|refine wS c2 ?_|fail)
    all_goals first|(simpa using hg)|(exfalso;contradiction)
  ·cases b3
   ·(repeat' first|refine zaa kN fun K hK=>?_|exact wt|refine wA ?_|(refine wB ?_ ?_<;>intro h<;>first|exact wN h|subst (h:(_:Bool)=_)|skip)|(refine wQ ?_;clear hQ hR hE hM)|refine wS c3 ?_|fail)
    all_goals first|exact ⟨3,by omega,⟨by omega,by simpa using hg⟩,rfl⟩|(exfalso;contradiction)
   ·(repeat' first|refine zaa kN fun K hK=>?_|exact wt|refine wA ?_|(refine wB ?_ ?_<;>intro h<;>first|exact wN h|subst (h:(_:Bool)=_)|skip)|(refine wQ ?_;clear hQ hR hE hM)|refine wS c3 ?_|fail)
    all_goals first|(simpa using hg)|(exfalso;contradiction)
  ·cases b4
   ·(repeat' first|refine zaa kN fun K hK=>?_|exact wt|refine wA ?_|(refine wB ?_ ?_<;>intro h<;>first|exact wN h|subst (h:(_:Bool)=_)|skip)|(refine wQ ?_;clear hQ hR hE hM)|refine wS c4 ?_|fail)
    all_goals first|exact ⟨4,by omega,⟨by omega,by simpa using hg⟩,rfl⟩|(exfalso;contradiction)
   ·(repeat' first|refine zaa kN fun K hK=>?_|exact wt|refine wA ?_|(refine wB ?_ ?_<;>intro h<;>first|exact wN h|subst (h:(_:Bool)=_)|skip)|(refine wQ ?_;clear hQ hR hE hM)|refine wS c4 ?_|fail)
    all_goals first|(simpa using hg)|(exfalso;contradiction)
 ·obtain rfl:k=4:=by omega
  (repeat' first|refine zaa kN fun K hK=>?_|exact wt|refine wA ?_|(refine wB ?_ ?_<;>intro h<;>first|exact wN h|subst (h:(_:Bool)=_)|skip)|(refine wQ ?_;clear hQ hR hE hM)|fail)
  all_goals first|exact hg|(simpa using hg)
end
def bool1 (b:Bool):List AV:=[.b b]
instance:Cells bool1 1:=⟨fun _=>rfl,fun _=>rfl⟩
theorem chunks_b (l:List Bool):zbd 1 l.length (l.map AV.b)=l.map bool1:=by
 induction l with
 |nil=>rfl
 |cons x l ih =>
  simp only[List.length_cons,List.map_cons,zbd,List.take_succ_cons,List.take_zero,List.drop_succ_cons,List.drop_zero,ih];rfl
attribute [go_sem] bool1 chunks_b
def zdh (p:Pln) (s:State) (r:Rte):Bool:=zik s r.id (zao p r).1
def zkt (p:Pln) (s:State):List Bool:=p.routes.map (zdh p s)
def zks (p:Pln) (s:State):List Bool:=if zav p s=0 then zkt p s else []
theorem zmR (hH:HasAll P inv) (hI:HasIds P inv) (p:Pln) (hp:Sm p) (s:State) (hs:SmS s):PC P inv 213 [.agg p.c,.agg s.c] (·=.tup [.sl 1 ((zks p s).map bool1),.n (zav p s)]):=by
 have c0:=of_pc hH hI p hp s hs;have hRl:=zky p s;have hRe:=zmU p s;by_cases hst:zav p s=0
 ·have hok:=zar hst
  have hR:ofR p s=⟨(zbz p s).1,(zbz p s).2.1,zby p,0⟩:=by unfold ofR;rw[if_pos hst]
  rw[hR]at c0 hRl;dsimp only at c0 hRl;rw[hst,show zks p s=zkt p s by unfold zks;rw[if_pos hst]]
  have hc:∀ k,k<p.routes.length->PC P inv 228 [.agg s.c,.n (nth p.routes k).id,.agg (nth (zby p) k).c] (·=.b (zdh p s (nth p.routes k))):=fun k hk=>by
   have hl:=zcn hok (zac hk);rw[show nth (zby p) k=(zao p (nth p.routes k)).1 from nthm _ hk]
   exact zqI hH s hs _ _ hl.2.2.1 hl.2.2.2 hl.1
  have hwlen:(zby p).length=p.routes.length:=by simp[zby]
  have hrl:=hp.rte;obtain ⟨f,hf⟩:∃ f,f=zdh p s:=⟨_,rfl⟩;rw[show zkt p s=p.routes.map f by rw[hf];rfl]
  rw[<-hf]at hc;clear hf hok hst hR hRe;generalize zby p=ws at *;generalize zbz p s=GR at *;obtain ⟨H,A,B⟩:=GR;dsimp only at *;obtain ⟨G,Z,hg⟩:=GC.ex;rw[<-hg.eq]at c0;have hfold:=hg.fold;have hlen0:=hg.len (.s0 4) hg.zl hg.zl;have hlen:=hg.len (.sl 4 (ws.map Way.c)) hRl.1 hRl.2;have hov:=hg.ov (.s0 4) (.sl 4 (ws.map Way.c)) hg.zl hg.zl hRl.1 hRl.2;have hbd0:=hg.bd0 Z Z;have hbd:=hg.bd H A (ws.map Way.c);have hba:=hg.ba H A (ws.map Way.c);have hgw:=hg.get (.sl 4 (ws.map Way.c)) hRl.1 hRl.2;clear hg;refine wf hH cd213 fun w0 M Q hM hE hQ hR=>?_;refine wq ?_
  (have hX:=zA @hfold (zA @hlen0 (zA @hlen (zA @hov (zA @hbd0 (zA @hbd @hba)))));(repeat' first|refine zaa yW fun K hK=>?_|exact wt|refine wA ?_|(refine wB ?_ ?_<;>intro h<;>first|exact wN h|subst (h:(_:Bool)=_)|skip)|(refine wQ ?_;clear hQ hR hE hM)|refine wC c0 ?_|fail);all_goals clear hX)
  all_goals first|(exfalso;contradiction)|skip
  refine AWp.empty 4 3 1 rfl (Nat.zero_le _) (by simp -dsimp -implicitDefEqProofs (disch:=omega) only[go_sem,reduceIte,↓reduceIte,Nat.reduceEqDiff,Nat.reduceLT,Nat.reduceLeDiff,Nat.reduceAdd,Nat.reduceSub,Nat.reduceMul,Int.reduceToNat,Int.reduceLT,Int.reduceLE,Int.reduceEq,Int.reduceNeg,Int.reduceNe,reduceCtorEq,hlen,hbd,hba]) (by simp -dsimp -implicitDefEqProofs (disch:=omega) only[go_sem,reduceIte,↓reduceIte,Nat.reduceEqDiff,Nat.reduceLT,Nat.reduceLeDiff,Nat.reduceAdd,Nat.reduceSub,Nat.reduceMul,Int.reduceToNat,Int.reduceLT,Int.reduceLE,Int.reduceEq,Int.reduceNeg,Int.reduceNe,reduceCtorEq,hlen,hbd,hba]) ?_
  simp -dsimp -implicitDefEqProofs (disch:=omega) only[go_sem,reduceIte,↓reduceIte,Nat.reduceEqDiff,Nat.reduceLT,Nat.reduceLeDiff,Nat.reduceAdd,Nat.reduceSub,Nat.reduceMul,Int.reduceToNat,Int.reduceLT,Int.reduceLE,Int.reduceEq,Int.reduceNeg,Int.reduceNe,reduceCtorEq,hlen,hbd,hba];refine zaj (ι:=Nat×(List Bool)) [3,4,5,6,19,20,21] (fun z=>[(4,.sm 3 z.2.length 0 z.2.length 1),(21,.n z.1)]) (fun z=>[(3,.cells (z.2.map AV.b) (decide (0<z.2.length)))]) (fun z=>z.1) (p.routes.length) (fun z=>(z.2.length=z.1)/\(z.2++(p.routes.drop z.1).map f=p.routes.map f)) (0,([]:List Bool)) ?_;rintro ⟨k,bs⟩ ⟨hk,hl,hg⟩;(try dsimp only at hk hl hg |-);rcases Nat.lt_or_ge k p.routes.length with hlt|hge
  ·rw[zae hlt,List.map_cons]at hg
   have c1:=hc k hlt;(have hX:=zA @hlen (zA @hbd (zA @hba @hgw));(repeat' first|refine zaa yW fun K hK=>?_|exact wt|refine wA ?_|(refine wB ?_ ?_<;>intro h<;>first|exact wN h|subst (h:(_:Bool)=_)|skip)|(refine wQ ?_;clear hQ hR hE hM)|refine wC c1 ?_|fail);all_goals clear hX)
   refine ⟨(k+1,bs++[f (nth p.routes k)]),by dsimp only;omega,⟨by dsimp only;omega,by dsimp only;simp[hl],by dsimp only;rw[<-hg];simp⟩,⟨by dsimp only;simp,by dsimp only;omega⟩,by dsimp only;simp⟩
  ·rw[List.drop_eq_nil_of_le hge,List.map_nil,List.append_nil]at hg
   (have hX:=zA @hlen (zA @hbd @hba);(repeat' first|refine zaa yW fun K hK=>?_|exact wt|refine wA ?_|(refine wB ?_ ?_<;>intro h<;>first|exact wN h|subst (h:(_:Bool)=_)|skip)|(refine wQ ?_;clear hQ hR hE hM)|fail);all_goals clear hX)
   rw[hg]
 ·rw[show zks p s=[] by unfold zks;rw[if_neg hst]]
  rw[<-hRe]at hst |-
  revert c0 hRl hst;generalize ofR p s=R;obtain ⟨G,Z,hg⟩:=GC.ex;rw[<-hg.eq];intro c0 hRl hst;have hfold:=hg.fold;have hlen0:=hg.len (.s0 4) hg.zl hg.zl;have hlen:=hg.len (.sl 4 (R.ways.map Way.c)) hRl.1 hRl.2;have hov:=hg.ov (.s0 4) (.sl 4 (R.ways.map Way.c)) hg.zl hg.zl hRl.1 hRl.2;have hbd0:=hg.bd0 Z Z;have hbd:=hg.bd R.hold R.ask (R.ways.map Way.c);have hba:=hg.ba R.hold R.ask (R.ways.map Way.c);refine wf hH cd213 fun w0 M Q hM hE hQ hR=>?_;refine wq ?_
  (have hX:=zA @hfold (zA @hlen0 (zA @hlen (zA @hov (zA @hbd0 (zA @hbd @hba)))));(repeat' first|refine zaa yW fun K hK=>?_|exact wt|refine wA ?_|(refine wB ?_ ?_<;>intro h<;>first|exact wN h|subst (h:(_:Bool)=_)|skip)|(refine wQ ?_;clear hQ hR hE hM)|refine wC c0 ?_|fail);all_goals clear hX)
  all_goals first|rfl|(exfalso;contradiction)|skip
theorem is214_pc (hH:HasAll P inv) (n:Int) (x:Rte):PC P inv 214 ([.agg x.c]++[.ip 1 [[.n n]] 0 0]) (·=.b (decide (x.id=n))):=by
 refine wf hH cd214 fun w0 M Q hM hE hQ hR=>?_;refine wq ?_
 (repeat' first|refine zaa kD fun K hK=>?_|exact wt|refine wA ?_|(refine wB ?_ ?_<;>intro h<;>first|exact wN h|subst (h:(_:Bool)=_)|skip)|(refine wQ ?_;clear hQ hR hE hM)|fail)
def rtIx (p:Pln) (n:Int):Int:=za1 (fun x=>decide (Rte.id x=n)) 0 p.routes
def prR (p:Pln) (s:State) (n:Int):Bool:=if rtIx p n<0 then false else zdh p s (nth p.routes (rtIx p n).toNat)
def prC (p:Pln) (s:State) (n:Int):Int:=if zav p s=0 then (if rtIx p n<0 then 6 else 0) else zav p s
theorem zkr (hH:HasAll P inv) (hI:HasIds P inv) (p:Pln) (hp:Sm p) (s:State) (hs:SmS s) (n:Int):PC P inv 198 [.agg p.c,.agg s.c,.n n] (·=.tup [.b (decide (prC p s n=0)&&prR p s n),.n (prC p s n)]):=by
 have c0:=zmR hH hI p hp s hs;have c1:=zrB hH p.routes (fun x _=>is214_pc hH n x) (Nat.le_trans hp.rte (by omega))
 have hrl:=hp.rte;unfold prC prR;by_cases hst:zav p s=0
 ·rw[hst]at c0
  simp only[if_pos hst];rw[show zks p s=zkt p s by unfold zks;rw[if_pos hst]]at c0
  have hix:rtIx p n=za1 (fun x=>decide (Rte.id x=n)) 0 p.routes:=rfl
  rcases zcb Rte.id n p.routes with ⟨h4,_⟩|⟨i,hi,h4,h5⟩
  ·rw[h4]at c1 hix
   rw[hix];generalize zkt p s=bs at *;refine wf hH cd198 fun w0 M Q hM hE hQ hR=>?_;refine wq ?_
   (repeat' first|refine zaa xB fun K hK=>?_|exact wt|refine wA ?_|(refine wB ?_ ?_<;>intro h<;>first|exact wN h|subst (h:(_:Bool)=_)|skip)|(refine wQ ?_;clear hQ hR hE hM)|refine wC c0 ?_|refine wS c1 ?_|fail)
   all_goals first|rfl|(exfalso;contradiction)|skip
  ·rw[h4]at c1 hix
   rw[hix,if_neg (show ¬((i:Nat):Int)<0 by omega),if_neg (show ¬((i:Nat):Int)<0 by omega),Int.toNat_natCast]
   have hl:(zkt p s).length=p.routes.length:=by simp[zkt]
   have hn:nth (zkt p s) i=zdh p s (nth p.routes i):=nthm _ hi;rw[<-hn];generalize zkt p s=bs at *;refine wf hH cd198 fun w0 M Q hM hE hQ hR=>?_;refine wq ?_
   (repeat' first|refine zaa xB fun K hK=>?_|exact wt|refine wA ?_|(refine wB ?_ ?_<;>intro h<;>first|exact wN h|subst (h:(_:Bool)=_)|skip)|(refine wQ ?_;clear hQ hR hE hM)|refine wC c0 ?_|refine wS c1 ?_|fail)
   all_goals first|rfl|(exfalso;contradiction)|(exfalso;omega)|simp
 ·simp only[if_neg hst]
  rw[show zks p s=[] by unfold zks;rw[if_neg hst]]at c0
  generalize zav p s=e at c0 hst |-
  refine wf hH cd198 fun w0 M Q hM hE hQ hR=>?_;refine wq ?_
  (repeat' first|refine zaa xB fun K hK=>?_|exact wt|refine wA ?_|(refine wB ?_ ?_<;>intro h<;>first|exact wN h|subst (h:(_:Bool)=_)|skip)|(refine wQ ?_;clear hQ hR hE hM)|refine wC c0 ?_|fail)
  all_goals first|rfl|(exfalso;contradiction)|simp[hst]
section upd
variable {α:Type} [Inhabited α]
end upd
theorem zaC {p:Pln} {s:State} (h:zan p s=true):s.tracks.length=p.sections.length/\s.switches.length=p.points.length/\s.locks.length=p.routes.length:=by
 simp only[zan,Bool.and_eq_true]at h;exact ⟨zcy h.1,zcy h.2.1,zcy h.2.2⟩
theorem zam {p:Pln} {s:State} (h:zav p s=0):zbk p=true/\zan p s=true/\(zbz p s).2.2=true:=by
 unfold zav at h;split at h
 ·rename_i h1
  split at h
  ·rename_i h2;exact ⟨h1,h2⟩
  ·cases h
 ·cases h
abbrev WL:=WayR×Lock
def hdl (z:WL):List Int:=zb7 z.1 z.2
def asl (z:WL):List AskR:=(zcK z.1 z.2).filter (zdv z.2)
theorem zjA (n:Int) (hn:n≠0):∀ (l H:List Int) (t:Bool),H.length=100->(∀ s∈l,0<=s/\s<=99) ->
  ((zcc n l H t).2=true↔t=true/\(∀ s∈l,nth H s.toNat=0)/\l.Nodup) /\
  ((zcc n l H t).2=true->(∀ s∈l,nth (zcc n l H t).1 s.toNat=n)/\∀ k:Nat,(∀ s∈l,s.toNat≠k)->nth (zcc n l H t).1 k=nth H k)
 |[],H,t,_,_=>by simp[zcc]
 |s::r,H,t,hH,hs=>by
  rw[zcc];have h0:=hs s (by simp)
  split
  ·rename_i hc
   obtain ⟨rfl,hc⟩:=hc;have ih:=zjA n hn r (H.set s.toNat n) true (by simpa using hH) fun x hx=>hs x (by simp[hx])
   have key:(∀ x∈r,nth (H.set s.toNat n) x.toNat=0)↔(∀ x∈r,nth H x.toNat=0)/\s∉r:=by
    constructor
    ·intro h
     have hne:∀ x∈r,x≠s:=fun x hx e=>by
      have:=h x hx;rw[e,za9 _ _ _ _ (by omega),if_pos rfl]at this
      exact hn this
     refine ⟨fun x hx=>?_,fun hx=>hne s hx rfl⟩
     have h1:=h x hx;have h2:=hs x (by simp[hx])
     rw[za9 _ _ _ _ (by omega),if_neg (by have:=hne x hx;omega)]at h1
     exact h1
    ·rintro ⟨h1,h2⟩ x hx
     have h3:=hs x (by simp[hx])
     rw[za9 _ _ _ _ (by omega),if_neg (fun e=>h2 (by rw[show s=x by omega];exact hx))]
     exact h1 x hx
   refine ⟨?_, ?_⟩
   ·rw[ih.1,key]
    simp only[List.mem_cons,forall_eq_or_imp,List.nodup_cons,true_and];constructor
    ·rintro ⟨⟨h1,h2⟩,h3⟩;exact ⟨⟨hc,h1⟩,h2,h3⟩
    ·rintro ⟨⟨_,h1⟩,h2,h3⟩;exact ⟨⟨h1,h2⟩,h3⟩
   ·intro ht
    have h2:=ih.2 ht;have h3:=(ih.1.1 ht).2;rw[key]at h3;refine ⟨fun x hx=>?_,fun k hk=>?_⟩
    ·rcases List.mem_cons.1 hx with rfl|hx
     ·rw[h2.2 _ (fun y hy e=>h3.1.2 (by have:=hs y (by simp[hy]);rw[show x=y by omega];exact hy)),za9 _ _ _ _ (by omega),if_pos rfl]
     ·exact h2.1 x hx
    ·rw[h2.2 k fun y hy=>hk y (by simp[hy]),za9 _ _ _ _ (by omega),if_neg (fun e=>hk s (by simp) e.symm)]
  ·rename_i hc
   refine ⟨?_,fun h=>by cases h⟩
   simp only[Bool.false_eq_true,false_iff,not_and];intro ht h1;exact absurd ⟨ht,h1 s (by simp)⟩ hc
theorem zgz (l:Lock) (C:List (Int×Int)):∀ (q:List AskR) (A:List Int) (t:Bool),A.length=100->(∀ a∈q,0<=a.pnt/\a.pnt<=99) ->
  ((zfA l C q A t).2=true↔t=true/\∀ a∈q.filter (zdv l),zhl C a.pnt=a.lie) /\
  ((zfA l C q A t).2=true->(∀ a∈q.filter (zdv l),nth (zfA l C q A t).1 a.pnt.toNat=a.lie)/\∀ k:Nat,(∀ a∈q.filter (zdv l),a.pnt.toNat≠k)->nth (zfA l C q A t).1 k=nth A k)
 |[],A,t,_,_=>by simp[zfA]
 |a::r,A,t,hA,hs=>by
  rw[zfA];have h0:=hs a (by simp)
  by_cases ho:zdv l a=true
  ·rw[if_pos ho,List.filter_cons_of_pos ho]
   split
   ·rename_i hc
    obtain ⟨rfl,hc⟩:=hc;have ih:=zgz l C r (A.set a.pnt.toNat a.lie) true (by simpa using hA) fun x hx=>hs x (by simp[hx])
    refine ⟨?_, ?_⟩
    ·rw[ih.1]
     simp only[List.mem_cons,forall_eq_or_imp,true_and];exact ⟨fun h=>⟨hc,h⟩,fun h=>h.2⟩
    ·intro ht
     have h2:=ih.2 ht;have h3:=(ih.1.1 ht).2;refine ⟨fun x hx=>?_,fun k hk=>?_⟩
     ·rcases List.mem_cons.1 hx with rfl|hx
      ·rcases Classical.em (∃ y∈r.filter (zdv l),y.pnt.toNat=x.pnt.toNat) with ⟨y,hy,e⟩|h4
       ·have h5:=hs y (by simp[(List.mem_filter.1 hy).1])
        have h6:=h2.1 y hy;rw[e]at h6;rw[h6,<-h3 y hy,<-hc,show y.pnt=x.pnt by omega]
       ·rw[h2.2 _ (fun y hy e=>h4 ⟨y,hy,e⟩),za9 _ _ _ _ (by omega),if_pos rfl]
      ·exact h2.1 x hx
     ·rw[h2.2 k fun y hy=>hk y (by simp[hy]),za9 _ _ _ _ (by omega),if_neg (fun e=>hk a (by simp) e.symm)]
   ·rename_i hc
    refine ⟨?_,fun h=>by cases h⟩
    simp only[Bool.false_eq_true,false_iff,not_and];intro ht h1;exact absurd ⟨ht,h1 a (by simp)⟩ hc
  ·rw[if_neg ho,List.filter_cons_of_neg ho]
   exact zgz l C r A t hA fun x hx=>hs x (by simp[hx])
def zfN (C:List (Int×Int)):List WL->List Int->List Int->Bool->List Int×List Int×Bool
 |[],H,A,t=>(H,A,t)
 |z::r,H,A,t=>zfN C r (zcc z.2.id (zb7 z.1 z.2) H t).1 (zfA z.2 C (zcK z.1 z.2) A (zcc z.2.id (zb7 z.1 z.2) H t).2).1 (zfA z.2 C (zcK z.1 z.2) A (zcc z.2.id (zb7 z.1 z.2) H t).2).2
theorem zrJ (ws:List WayR) (C:List (Int×Int)):∀ (l:List Lock) (i:Nat) (H A:List Int) (t:Bool),i+l.length=ws.length->zfs ws C i l H A t=zfN C ((ws.drop i).zip l) H A t
 |[],i,H,A,t,_=>by rw[zfs,List.zip_nil_right,zfN]
 |x::r,i,H,A,t,h=>by
  simp only[List.length_cons]at h;rw[zfs,zae (show i<ws.length by omega),List.zip_cons_cons,zfN,zrJ ws C r (i+1) _ _ _ (by omega)]
structure ZOk (Z:List WL):Prop where
 id:∀ z∈Z,z.2.id≠0
 sec:∀ z∈Z,∀ n∈hdl z,0<=n/\n<=99
 pnt:∀ z∈Z,∀ a∈zcK z.1 z.2,0<=a.pnt/\a.pnt<=99
theorem zm9 (C:List (Int×Int)):∀ (Z:List WL) (H A:List Int),(zfN C Z H A false).2.2=false
 |[],H,A=>rfl
 |z::r,H,A=>by
  rw[zfN];have h1:(zcc z.2.id (zb7 z.1 z.2) H false).2=false:=by
   cases zb7 z.1 z.2 with
   |nil=>rfl
   |cons s q=>rw[zcc,if_neg (by simp)]
  have h2:∀ q:List AskR,(zfA z.2 C q A false).2=false:=by
   intro q
   induction q with
   |nil=>rfl
   |cons a q ih =>
    rw[zfA];split
    ·rw[if_neg (by simp)]
    ·exact ih
  rw[h1,h2];exact zm9 C r _ _
theorem zfi (C:List (Int×Int)):∀ (Z:List WL) (H A:List Int),ZOk Z->H.length=100->A.length=100 ->
  ((zfN C Z H A true).2.2=true↔(∀ z∈Z,(∀ n∈hdl z,nth H n.toNat=0)/\(hdl z).Nodup/\∀ a∈asl z,zhl C a.pnt=a.lie)/\Z.Pairwise fun z z'=>∀ n∈hdl z,n∉hdl z') /\
  ((zfN C Z H A true).2.2=true->(∀ z∈Z,(∀ n∈hdl z,nth (zfN C Z H A true).1 n.toNat=z.2.id)/\∀ a∈asl z,nth (zfN C Z H A true).2.1 a.pnt.toNat=a.lie) /\
   (∀ k:Nat,(∀ z∈Z,∀ n∈hdl z,n.toNat≠k)->nth (zfN C Z H A true).1 k=nth H k)/\(∀ k:Nat,(∀ z∈Z,∀ a∈asl z,a.pnt.toNat≠k)->nth (zfN C Z H A true).2.1 k=nth A k))
 |[],H,A,_,_,_=>by simp[zfN]
 |z::r,H,A,hZ,hH,hA=>by
  have hZr:ZOk r:=⟨fun y hy=>hZ.id y (by simp[hy]),fun y hy=>hZ.sec y (by simp[hy]),fun y hy=>hZ.pnt y (by simp[hy])⟩
  have hs:=zjA z.2.id (hZ.id z (by simp)) (zb7 z.1 z.2) H true hH (hZ.sec z (by simp))
  have hse:∀ n∈hdl z,0<=n/\n<=99:=hZ.sec z (by simp)
  have hlen:=zgp z.2.id (zb7 z.1 z.2) H true;rw[zfN];rw[show zb7 z.1 z.2=hdl z from rfl]at hs hlen |-
  revert hs hlen;generalize zcc z.2.id (hdl z) H true=HT;intro hs hlen;cases ht:HT.2 with
  |false =>
   have hf:(zfA z.2 C (zcK z.1 z.2) A false).2=false:=by
    have:=(zgz z.2 C (zcK z.1 z.2) A false hA (hZ.pnt z (by simp))).1
    cases h:(zfA z.2 C (zcK z.1 z.2) A false).2 with
    |false=>rfl
    |true=>have:=(this.1 h).1;cases this
   rw[hf,zm9];refine ⟨?_,fun h=>by cases h⟩
   simp only[Bool.false_eq_true,false_iff,not_and];intro h1 _;have h2:=h1 z (by simp)
   have h3:=hs.1.2 ⟨rfl,h2.1,h2.2.1⟩;rw[ht]at h3;cases h3
  |true =>
   have hs1:=(hs.1.1 ht).2;have hs2:=hs.2 ht;have ha:=zgz z.2 C (zcK z.1 z.2) A true hA (hZ.pnt z (by simp))
   have hpn:=hZ.pnt z (by simp)
   have halen:=zgA z.2 C (zcK z.1 z.2) A true;rw[show (zcK z.1 z.2).filter (zdv z.2)=asl z from rfl]at ha
   revert ha halen;generalize zfA z.2 C (zcK z.1 z.2) A true=AT;intro ha halen;cases hat:AT.2 with
   |false =>
    rw[zm9];refine ⟨?_,fun h=>by cases h⟩
    simp only[Bool.false_eq_true,false_iff,not_and];intro h1 _;have h3:=ha.1.2 ⟨rfl,(h1 z (by simp)).2.2⟩
    rw[hat]at h3;cases h3
   |true =>
    have ha1:=(ha.1.1 hat).2;have ha2:=ha.2 hat;have ih:=zfi C r HT.1 AT.1 hZr (by omega) (by omega)
    have key:∀ y∈r,((∀ n∈hdl y,nth HT.1 n.toNat=0)↔(∀ n∈hdl y,nth H n.toNat=0)/\∀ n∈hdl z,n∉hdl y):=by
     intro y hy;constructor
     ·intro h
      have hne:∀ n∈hdl z,n∉hdl y:=fun n hn hny=>by
       have:=h n hny;rw[hs2.1 n hn]at this;exact hZ.id z (by simp) this
      refine ⟨fun n hn=>?_,hne⟩
      have:=h n hn;rw[hs2.2 _ (fun m hm e=>hne m hm (by have:=hse m hm;have:=hZ.sec y (by simp[hy]) n hn;rw[show m=n by omega];exact hn))]at this
      exact this
     ·rintro ⟨h1,h2⟩ n hn
      rw[hs2.2 _ (fun m hm e=>h2 m hm (by have:=hse m hm;have:=hZ.sec y (by simp[hy]) n hn;rw[show m=n by omega];exact hn))]
      exact h1 n hn
    refine ⟨?_, ?_⟩
    ·rw[ih.1]
     simp only[List.mem_cons,forall_eq_or_imp,List.pairwise_cons];constructor
     ·rintro ⟨h1,h2⟩
      refine ⟨⟨⟨hs1.1,hs1.2,ha1⟩,fun y hy=>⟨((key y hy).1 (h1 y hy).1).1,(h1 y hy).2⟩⟩,fun y hy=>((key y hy).1 (h1 y hy).1).2,h2⟩
     ·rintro ⟨⟨_,h1⟩,h3,h2⟩
      exact ⟨fun y hy=>⟨(key y hy).2 ⟨(h1 y hy).1,h3 y hy⟩,(h1 y hy).2⟩,h2⟩
    ·intro hg
     have h1:=ih.2 hg;have h2:=ih.1.1 hg;refine ⟨?_, ?_, ?_⟩
     ·intro y hy
      rcases List.mem_cons.1 hy with rfl|hy
      ·refine ⟨fun n hn=>?_,fun a haa=>?_⟩
       ·rw[h1.2.1 n.toNat fun x hx m hm e=>?_]
        ·exact hs2.1 n hn
        ·have h5:=((key x hx).1 (h2.1 x hx).1).2 n hn
         have:=hse n hn;have:=hZ.sec x (by simp[hx]) m hm
         exact h5 (by rw[show n=m by omega];exact hm)
       ·have hpa:=hpn a (List.mem_filter.1 haa).1
        rcases Classical.em (∃ x∈r,∃ b∈asl x,b.pnt.toNat=a.pnt.toNat) with ⟨x,hx,b,hb,e⟩|h4
        ·have hpb:=hZ.pnt x (by simp[hx]) b (List.mem_filter.1 hb).1
         rw[<-e,(h1.1 x hx).2 b hb,<-(h2.1 x hx).2.2 b hb,<-ha1 a haa,show b.pnt=a.pnt by omega]
        ·rw[h1.2.2 _ fun x hx b hb e=>h4 ⟨x,hx,b,hb,e⟩]
         exact ha2.1 a haa
      ·exact h1.1 y hy
     ·intro k hk
      rw[h1.2.1 k fun y hy=>hk y (by simp[hy])]
      exact hs2.2 k fun n hn=>hk z (by simp) n hn
     ·intro k hk
      rw[h1.2.2 k fun y hy=>hk y (by simp[hy])]
      exact ha2.2 k fun a haa=>hk z (by simp) a haa
theorem ziy (C:List (Int×Int)) (k v k':Int):zhl (zmW C k v) k'=if k'=k then v else zhl C k':=by
 induction C with
 |nil=>simp[zmW,zhl]
 |cons q r ih =>
  rw[zmW];split
  ·rename_i h;subst h;simp only[zhl];split<;>rfl
  ·rename_i h
   simp only[zhl,ih];by_cases h1:k'=q.1
   ·rw[if_pos h1,if_pos h1,if_neg (by omega)]
   ·rw[if_neg h1,if_neg h1]
theorem zjx:∀ (l:List Switch) (C:List (Int×Int)) (k:Int),(∀ x∈l,x.id≠k)->zhl (zk7 C l) k=zhl C k
 |[],_,_,_=>rfl
 |x::r,C,k,h=>by
  rw[zk7,zjx r _ k fun y hy=>h y (by simp[hy]),ziy,if_neg (fun e=>h x (by simp) e.symm)]
theorem zq8:∀ (l:List Switch) (C:List (Int×Int)),(l.map Switch.id).Nodup->∀ x∈l,zhl (zk7 C l) x.id=x.call
 |[],_,_,x,h=>by cases h
 |y::r,C,hn,x,hx=>by
  simp only[List.map_cons,List.nodup_cons]at hn;rw[zk7];rcases List.mem_cons.1 hx with rfl|hx
  ·rw[zjx r _ _ fun z hz e=>hn.1 (by rw[<-e];exact List.mem_map_of_mem hz),ziy,if_pos rfl]
  ·exact zq8 r _ hn.2 x hx
def zdq (s:State) (n:Int):Int:=zhl (zk7 [] s.switches) n
def zof (p:Pln) (s:State):List WL:=(zby p).zip s.locks
theorem zeZ {α β:Type} {q:α->β->Bool} {f:α->Int} {g:β->Int} (hq:∀ x y,q x y=true->f x=g y):∀ {a:List α} {b:List β},zaW q a b=true->a.map f=b.map g
 |[],[],_=>rfl
 |[],_::_,h=>by simp[zaW]at h
 |_::_,[],h=>by simp[zaW]at h
 |x::xs,y::ys,h=>by
  simp only[zaW,Bool.and_eq_true]at h;simp only[List.map_cons,zeZ hq h.2,hq x y h.1]
theorem zmq {p:Pln} {s:State} (h:zan p s=true):s.tracks.map Track.id=p.sections.map Section.id:=by
 simp only[zan,Bool.and_eq_true]at h;exact zeZ (fun x y h=>by simp only[zgH,Bool.and_eq_true,decide_eq_true_eq]at h;exact h.1) h.1
theorem zfB {p:Pln} {s:State} (h:zan p s=true):s.switches.map Switch.id=p.points.map Pnt.id:=by
 simp only[zan,Bool.and_eq_true]at h;exact zeZ (fun x y h=>by simp only[zjb,Bool.and_eq_true,decide_eq_true_eq]at h;exact h.1) h.2.1
theorem zrc {p:Pln} {s:State} (h:zan p s=true):s.locks.map Lock.id=p.routes.map Rte.id:=by
 simp only[zan,Bool.and_eq_true]at h;exact zeZ (fun x y h=>by simp only[zev,Bool.and_eq_true,decide_eq_true_eq]at h;exact h.1) h.2.2
theorem zeM {p:Pln} (h:OkP p):(p.points.map Pnt.id).Nodup:=by
 have hp:=h.pts;simp only[points,Bool.and_eq_true]at hp;exact zkg hp.1
theorem zf9 {p:Pln} (h:OkP p):(p.routes.map Rte.id).Nodup:=zkg h.rise
theorem zlm {p:Pln} (h:OkP p):(p.sections.map Section.id).Nodup:=zfc (zlo h.sec)
theorem zf8 {p:Pln} (h:OkP p) {r:Rte} (hr:r∈p.routes):1<=r.id/\r.id<=99:=((zdA _ _).1 h.rise).1 r.id (List.mem_map_of_mem hr)
theorem zbc {p:Pln} (h:zbk p=true):OkP p/\(∀ r∈p.routes,(zao p r).2.2=0)/\∀ r∈p.routes,zbW p r=true:=by
 simp only[zbk,Bool.and_eq_true]at h;refine ⟨zfx h.1,fun r hr=>?_,fun r hr=>?_⟩
 ·simpa using (List.all_eq_true.1 h.2.1) r hr
 ·exact (List.all_eq_true.1 h.2.2) r hr
theorem zmd {p:Pln} {s:State} (ho:OkP p) (h:zan p s=true) {x:Switch} (hx:x∈s.switches):zdq s x.id=x.call :=
 zq8 _ _ (by rw[zfB h];exact zeM ho) x hx
theorem zgE {p:Pln} {s:State} (h:zan p s=true) {z:WL} (hz:z∈zof p s):∃ i,∃ r∈p.routes,i<p.routes.length/\nth p.routes i=r/\nth s.locks i=z.2/\z.2∈s.locks/\z.1=(zao p r).1/\zev z.2 r=true:=by
 have hl:=zaC h;simp only[zan,Bool.and_eq_true]at h;obtain ⟨i,hi,e⟩:=List.mem_iff_getElem.1 hz;have hi1:i<p.routes.length:=by simp only[zof,List.length_zip,zby,List.length_map]at hi;omega
 have hi2:i<s.locks.length:=by omega
 have e1:z.1=(zao p (nth p.routes i)).1:=by
  rw[<-e];simp[zof,zby,zay hi1]
 have e2:nth s.locks i=z.2:=by
  rw[<-e];simp[zof,zay hi2]
 refine ⟨i,nth p.routes i,zac hi1,hi1,rfl,e2,by rw[<-e2];exact zac hi2,e1, ?_⟩
 rw[<-e2];exact zfV h.2.2 hi2
theorem zof_at {p:Pln} {s:State} (h:zan p s=true) {i:Nat} (hi:i<p.routes.length):((zao p (nth p.routes i)).1,nth s.locks i)∈zof p s:=by
 have hl:=zaC h;have hi2:i<s.locks.length:=by omega
 rw[List.mem_iff_getElem];refine ⟨i,by simp[zof,zby];omega, ?_⟩
 simp[zof,zby,zay hi,zay hi2]
theorem znz {p:Pln} {s:State} (ho:zbk p=true) (h:zan p s=true):ZOk (zof p s):=by
 obtain ⟨hok,hw,_⟩:=zbc ho;refine ⟨fun z hz=>?_,fun z hz n hn=>?_,fun z hz a ha=>?_⟩
 ·obtain ⟨i,r,hr,_,_,_,_,_,hl⟩:=zgE h hz
  simp only[zev,Bool.and_eq_true,decide_eq_true_eq]at hl;have:=zf8 hok hr;omega
 ·obtain ⟨i,r,hr,_,_,_,_,e,hl⟩:=zgE h hz
  have hp:=zcz (hw r hr);unfold hdl zb7 at hn;split at hn
  ·simp at hn
  ·have h1:n∈r.path++r.over:=by
    rw[e,hp.1,hp.2.1]at hn;rcases List.mem_append.1 hn with h2|h2
    ·exact List.mem_append.2 (.inl (List.mem_of_mem_drop h2))
    ·exact List.mem_append.2 (.inr h2)
   obtain ⟨q,hq,rfl⟩:=(zed hok hr).1 n h1;have:=zeE hok hq;omega
 ·obtain ⟨i,r,hr,_,_,_,_,e,hl⟩:=zgE h hz
  unfold zcK at ha;split at ha
  ·simp at ha
  ·rw[e]at ha
   have:=zdF hok hr ha;omega
theorem zrH {p:Pln} {s:State} (ho:zbk p=true) (h:zan p s=true) {z:WL} (hz:z∈zof p s):(hdl z).Nodup:=by
 obtain ⟨hok,hw,_⟩:=zbc ho;obtain ⟨i,r,hr,_,_,_,_,e,_⟩:=zgE h hz;have hp:=zcz (hw r hr);unfold hdl zb7;split
 ·simp
 ·rw[e,hp.1,hp.2.1]
  have:=(zed hok hr).2;exact List.Nodup.sublist (List.Sublist.append (List.drop_sublist _ _) (List.Sublist.refl _)) this
theorem zm8 {p:Pln} {s:State} (h:zan p s=true):zbz p s=zfN (zk7 [] s.switches) (zof p s) zea zea true:=by
 unfold zbz zof;rw[zrJ _ _ _ _ _ _ _ (by have:=zaC h;simp[zby];omega),List.drop_zero]
theorem zjU (k:Nat):nth zea k=0:=by
 rcases Nat.lt_or_ge k 100 with h|h
 ·exact zdL _ _ _ h
 ·unfold zea nth;rw[getElem!_neg _ _ (by simp;omega)];rfl
def znx (Z:List WL):Prop:=Z.Pairwise fun z z'=>∀ n∈hdl z,n∉hdl z'
def zoK (s:State) (Z:List WL):Prop:=∀ z∈Z,∀ a∈asl z,zdq s a.pnt=a.lie
theorem zoT (p:Pln) (s:State):zav p s=0↔zbk p=true/\zan p s=true/\znx (zof p s)/\zoK s (zof p s):=by
 constructor
 ·intro h
  obtain ⟨h1,h2,h3⟩:=zam h;rw[zm8 h2]at h3;have:=((zfi _ _ _ _ (znz h1 h2) zbV zbV).1).1 h3;exact ⟨h1,h2,this.2,fun z hz a ha=>(this.1 z hz).2.2 a ha⟩
 ·rintro ⟨h1,h2,h3,h4⟩
  unfold zav;have h5:(zbz p s).2.2=true:=by
   rw[zm8 h2];exact ((zfi _ _ _ _ (znz h1 h2) zbV zbV).1).2 ⟨fun z hz=>⟨fun n _=>zjU _,zrH h1 h2 hz,h4 z hz⟩,h3⟩
  rw[if_pos h1,if_pos ⟨h2,h5⟩]
section
variable {p:Pln} {s:State} (h:zav p s=0)
include h
theorem zlQ:(∀ z∈zof p s,(∀ n∈hdl z,nth (zbz p s).1 n.toNat=z.2.id)/\∀ a∈asl z,nth (zbz p s).2.1 a.pnt.toNat=a.lie) /\
  (∀ k:Nat,(∀ z∈zof p s,∀ n∈hdl z,n.toNat≠k)->nth (zbz p s).1 k=0)/\(∀ k:Nat,(∀ z∈zof p s,∀ a∈asl z,a.pnt.toNat≠k)->nth (zbz p s).2.1 k=0):=by
 obtain ⟨h1,h2,h3⟩:=zam h;rw[zm8 h2]at h3 |-
 have:=(zfi _ _ _ _ (znz h1 h2) zbV zbV).2 h3;refine ⟨this.1,fun k hk=>?_,fun k hk=>?_⟩
 ·rw[this.2.1 k hk];exact zjU k
 ·rw[this.2.2 k hk];exact zjU k
theorem zrE {z:WL} (hz:z∈zof p s) {n:Int} (hn:n∈hdl z):nth (zbz p s).1 n.toNat=z.2.id:=((zlQ h).1 z hz).1 n hn
theorem hold_no {n:Int} (h0:0<=n) (hn:∀ z∈zof p s,n∉hdl z):nth (zbz p s).1 n.toNat=0:=(zlQ h).2.1 _ fun z hz m hm e=>by
 have:=(znz (zam h).1 (zam h).2.1).sec z hz m hm;exact hn z hz (by rw[show n=m by omega];exact hm)
theorem zjz {n:Int} (h0:0<=n):(∃ z∈zof p s,n∈hdl z/\nth (zbz p s).1 n.toNat=z.2.id)\/((∀ z∈zof p s,n∉hdl z)/\nth (zbz p s).1 n.toNat=0):=by
 rcases Classical.em (∃ z∈zof p s,n∈hdl z) with ⟨z,hz,hn⟩|h1
 ·exact .inl ⟨z,hz,hn,zrE h hz hn⟩
 ·exact .inr ⟨fun z hz hn=>h1 ⟨z,hz,hn⟩,hold_no h h0 fun z hz hn=>h1 ⟨z,hz,hn⟩⟩
end
theorem prC_at {p:Pln} {t:State} {n:Int} {i:Nat} (h:zav p t=0) (hi:rtIx p n=(i:Int)):prC p t n=0/\prR p t n=zdh p t (nth p.routes i):=by
 unfold prC prR;rw[if_pos h,hi,if_neg (by omega),if_neg (by omega),Int.toNat_natCast]
 exact ⟨rfl,rfl⟩
theorem zrg {p:Pln} (ho:OkP p) {m:Nat} (hm:m<p.routes.length):za1 (fun x=>decide (Rte.id x=(nth p.routes m).id)) 0 p.routes=(m:Int):=by
 rcases zcb Rte.id (nth p.routes m).id p.routes with ⟨_,h4⟩|⟨k,hk,h4,h5⟩
 ·exact absurd rfl (h4 _ (zac hm))
 ·rw[h4,zkz Rte.id (zf9 ho) hk hm h5]
theorem zcq {l:List Int} {k:Nat} (h:k<l.length):(l.map zaJ).flatten[k]?=some (.n (nth l k)):=by
 have:=zc7 (c:=zaJ) (l:=l) (k:=k) (i:=0) h (by omega)
 rw[Nat.mul_one,Nat.add_zero]at this;rw[this];rfl
end Go.Lev
namespace Go.Eng
structure TrainD where
 id:Int
 secs:List Int
 fr:Int
 ed:Int
 rt:Int
 pl:Int
 may:Int
 nx:Int
 deriving DecidableEq,Inhabited
def TrainD.c (t:TrainD):List AV:=[.n t.id,.sl 1 (t.secs.map zaJ),.n t.fr,.n t.ed,.n t.rt,.n t.pl,.n t.may,.n t.nx]
instance:Cells TrainD.c 8:=⟨fun _=>rfl,fun _=>rfl⟩
structure MoveD where
 kind:Int
 tr:Int
 sec:Int
 ed:Int
 deriving DecidableEq,Inhabited
def MoveD.c (m:MoveD):List AV:=[.i .u8 m.kind,.n m.tr,.n m.sec,.n m.ed]
instance:Cells MoveD.c 4:=⟨fun _=>rfl,fun _=>rfl⟩
attribute [go_sem] TrainD.c MoveD.c
end Go.Eng
namespace Go.Lev
open Go.Eng
def stn (p:Pln) (s:State):List AV:=p.c++s.c
def wld (l:List TrainD):List AV:=[.sl 8 (l.map TrainD.c)]
def zdk (p:Pln) (a b:Int):Bool:=decide ((zaz p.sections a).2=0)&&(zaz p.sections a).1.ends.any (fun j=>decide (j.to=b))
def sgL (a b:Int):List Sgn->Int->Int
 |[],v=>v
 |x::r,v=>sgL a b r (if x.sec=a/\x.ed=b then x.id else v)
def stC (p:Pln) (a b:Int):Int:=if zbx p=true then (za0 p.sections a b).2 else 8
def zhQ (p:Pln) (a b:Int):Int:=if stC p a b=0 then sgL a b p.signals 0 else 0
def prId (p:Pln) (s:State) (n:Int):Int:=if goX p (zdh p s) n<0 then 0 else (nth p.routes (goX p (zdh p s) n).toNat).id
def trE (p:Pln) (t:TrainD):Bool :=
 cond (decide (t.may=0)) (decide (t.nx=0)) (cond (decide ((zdJ p t.nx).2=0)) (decide (zhQ p (nth t.secs 0) t.ed=(zdJ p t.nx).1.entry)) false)
def trG (p:Pln) (t:TrainD):Bool:=cond (!decide (t.rt=0)) false (cond (!decide (t.pl=0)) false (trE p t))
def trF (p:Pln) (s:State) (t:TrainD):Bool :=
 cond (decide ((t.secs.length:Int)<1)) false (cond (decide (4<(t.secs.length:Int))) false (cond (decide (t.may<0)) false (cond (decide (9<t.may)) false
 (zaZ (fun i (_:Unit) za0=>cond (!decide ((zaz p.sections (nth t.secs i)).2=0)) false (cond (decide (zd2 s (nth t.secs i)=0)) false (cond (decide (0<(i:Int))) (cond (!zdk p (nth t.secs (i-1)) (nth t.secs i)) false (za0 ())) (za0 ()))))
  (fun _=>cond (!decide ((zb5 (zaz p.sections (nth t.secs 0)).1 t.fr t.ed).2=0)) false
   (cond (decide ((ofW p t.rt).2=0)) (cond (decide (0<=t.pl)) (cond (decide (t.pl<((ofW p t.rt).1.path.length:Int))) (cond (!decide (nth (ofW p t.rt).1.path t.pl.toNat=nth t.secs 0)) (trG p t) (trE p t)) (trG p t)) (trG p t)) (trG p t)))
  t.secs.length 0 ()))))
def zeu (s:State) (n:Int):Int:=match s.switches.find? fun t=>decide (t.id=n) with|some t=>t.lie|none=>0
set_option maxRecDepth 10000
set_option maxHeartbeats 4000000
variable {P:Program} {inv:Nat->Option Nat} {w0:World} {M:Nat->Prop}
theorem isOf_at2 {p:Pln} {s:State} (ho:OkP p) (h:zan p s=true) {k:Nat} (hk:k<s.tracks.length):zd2 s (nth s.tracks k).id=(nth s.tracks k).is:=by
 unfold zd2;rw[zhE Track.id (by rw[zmq h];exact zlm ho) hk rfl]
def ckM (t:TrainD) (m:List (Int×Int)) (za0:List (Int×Int)->Int):Int :=
 zaZ (fun k (m:List (Int×Int)) next2=>cond (decide (0<zhl m (nth t.secs k))) 8 (next2 (zmW m (nth t.secs k) 1))) (fun m=>za0 m) t.secs.length 0 m
def ckT (p:Pln) (s:State) (t:TrainD) (m:List (Int×Int)) (za0:List (Int×Int)->Int):Int:=cond (!trF p s t) 8 (ckM t m za0)
def ckF (p:Pln) (s:State) (l:List TrainD):Int :=
 zaZ (fun i (m:List (Int×Int)) za0=>cond (decide ((nth l i).id<1)) 8 (cond (decide (99<(nth l i).id)) 8
   (cond (decide (0<(i:Int))) (cond (decide ((nth l i).id<=(nth l (i-1)).id)) 8 (ckT p s (nth l i) m za0)) (ckT p s (nth l i) m za0))))
  (fun _=>cond (decide (8<(l.length:Int))) 8 0) l.length 0 []
def ckC (p:Pln) (s:State) (l:List TrainD):Int:=if zav p s=0 then ckF p s l else zav p s
def zcB (l:List TrainD) (n:Int):Int:=za1 (fun t=>decide (t.id=n)) 0 l
def zla (a:Int×Int):List AV:=[.i .u8 1,.n a.1,.n a.2,.s0 1]
def zfe (l:List TrainD) (t:TrainD):List TrainD:=l.takeWhile (fun x=>decide (x.id<t.id))++t::l.dropWhile (fun x=>decide (x.id<t.id))
def znY (m:MoveD) (S:Section):TrainD:=⟨m.tr,[S.id],1-m.ed,m.ed,0,0,0,0⟩
def zmv (t:TrainD):TrainD:={ t with secs:=t.secs.take (t.secs.length-1) }
def zjV (t:TrainD):TrainD:=⟨t.id,t.secs,t.ed,t.fr,0,0,0,0⟩
def zbT (l:List TrainD):List Int:=l.flatMap (·.secs)
theorem zf6 (a b:List TrainD):zbT (a++b)=zbT a++zbT b:=List.flatMap_append
theorem zfF {l:List TrainD} {k:Nat} (h:k<l.length):zbT (l.take (k+1))=zbT (l.take k)++(nth l k).secs:=by
 rw[List.take_add_one,List.getElem?_eq_getElem h,zf6,<-zay h];simp[zbT]
structure TrsOk (p:Pln) (s:State) (l:List TrainD):Prop where
 len:l.length<=8
 id:∀ t∈l,1<=t.id/\t.id<=99
 may:∀ t∈l,trF p s t=true
 up:(l.map (·.id)).Pairwise (· < ·)
 own:(zbT l).Nodup
def Mrk (m:List (Int×Int)) (a:List Int):Prop:=∀ n,0<zhl m n↔n∈a
theorem Mrk.set {m:List (Int×Int)} {a:List Int} (h:Mrk m a) (n:Int):Mrk (zmW m n 1) (a++[n]):=by
 intro x;rw[ziy,List.mem_append,List.mem_singleton];by_cases e:x=n
 ·rw[if_pos e];simp[e]
 ·rw[if_neg e,h x];simp[e]
theorem zqP {l:List TrainD} {k:Nat} (h:(zbT l).Nodup) (hk:k<l.length):(zbT (l.take k)++(nth l k).secs).Nodup:=by
 rw[<-zfF hk];have e:zbT l=zbT (l.take (k+1))++zbT (l.drop (k+1)):=by rw[<-zf6,List.take_append_drop]
 rw[e]at h;exact (List.nodup_append.1 h).1
theorem zlN {a:List Int} {j:Nat} (h:j<a.length):a.take (j+1)=a.take j++[nth a j]:=by
 rw[List.take_add_one,List.getElem?_eq_getElem h,<-zay h];rfl
theorem zse (p:Pln) (s:State) (l:List TrainD):ckF p s l=0↔TrsOk p s l:=by
 unfold ckF;have bad:∀ {P9:Prop},¬P9->(TrsOk p s l->P9)->((8:Int)=0↔TrsOk p s l):=fun a b=>⟨fun e=>by omega,fun c=>absurd (b c) a⟩
 refine zaE (fun r=>r=0↔TrsOk p s l) (fun k m=>(∀ i,i<k->(1<=(nth l i).id/\(nth l i).id<=99)/\(0<i->(nth l (i-1)).id<(nth l i).id)/\trF p s (nth l i)=true)/\Mrk m (zbT (l.take k))/\(zbT (l.take k)).Nodup) ⟨fun i hi=>absurd hi (by omega),fun n=>by simp[zbT,zhl],by simp[zbT]⟩ ?_ ?_
 ·rintro k m za0 hk ⟨h1,h2,h3⟩ hn
  (try dsimp only)
  have hmem:=zac hk;by_cases a1:(nth l k).id<1
  ·rw[decide_eq_true a1]
   exact bad (P9:=1<=(nth l k).id) (by omega) fun c=>(c.id _ hmem).1
  rw[decide_eq_false a1];by_cases a2:99<(nth l k).id
  ·rw[decide_eq_true a2]
   exact bad (P9:=(nth l k).id<=99) (by omega) fun c=>(c.id _ hmem).2
  rw[decide_eq_false a2];have key:(0<k->(nth l (k-1)).id<(nth l k).id)->(ckT p s (nth l k) m za0=0↔TrsOk p s l):=by
   intro a3;unfold ckT;cases a4:trF p s (nth l k) with
   |false=>exact bad (P9:=trF p s (nth l k)=true) (by rw[a4];simp) fun c=>c.may _ hmem
   |true =>
    unfold ckM;refine zaE (fun r=>r=0↔TrsOk p s l) (fun j m'=>Mrk m' (zbT (l.take k)++(nth l k).secs.take j)/\(zbT (l.take k)++(nth l k).secs.take j).Nodup) ⟨by simpa using h2,by simpa using h3⟩ ?_ ?_
    ·rintro j m' next2 hj ⟨g1,g2⟩ gn
     (try dsimp only)
     have hsp:=zlN hj;by_cases a5:0<zhl m' (nth (nth l k).secs j)
     ·rw[decide_eq_true a5]
      refine bad (P9:=(zbT (l.take k)++(nth l k).secs).Nodup) (fun c=>?_) fun c=>zqP c.own hk
      have hin:=(g1 _).1 a5;have e:(nth l k).secs=(nth l k).secs.take (j+1)++(nth l k).secs.drop (j+1):=(List.take_append_drop _ _).symm;rw[e,hsp,<-List.append_assoc,<-List.append_assoc]at c;have c2:=(List.nodup_append.1 c).1;exact (List.nodup_append.1 c2).2.2 _ hin _ (by simp) rfl
     ·rw[decide_eq_false a5]
      refine gn _ ⟨?_, ?_⟩
      ·rw[hsp,<-List.append_assoc];exact g1.set _
      ·rw[hsp,<-List.append_assoc]
       refine List.nodup_append.2 ⟨g2,by simp,fun x hx y hy e=>?_⟩
       rw[List.mem_singleton]at hy;rw[e,hy]at hx;exact a5 ((g1 _).2 hx)
    ·rintro m' ⟨g1,g2⟩
     rw[List.take_length,<-zfF hk]at g1 g2;refine hn m' ⟨fun i hi=>?_,g1,g2⟩
     by_cases e:i=k
     ·subst e;exact ⟨⟨by omega,by omega⟩,a3,a4⟩
     ·exact h1 i (by omega)
  by_cases a0:0<(k:Int)
  ·rw[decide_eq_true a0]
   by_cases a3:(nth l k).id<=(nth l (k-1)).id
   ·rw[decide_eq_true a3]
    refine bad (P9:=(nth l (k-1)).id<(nth l k).id) (by omega) fun c=>?_
    exact (zee TrainD.id l).1 c.up k (by omega) hk
   ·rw[decide_eq_false a3]
    exact key fun _=>by omega
  ·rw[decide_eq_false a0]
   exact key fun h=>by omega
 ·rintro m ⟨h1,h2,h3⟩
  (try dsimp only)
  by_cases a:8<(l.length:Int)
  ·rw[decide_eq_true a]
   exact bad (P9:=l.length<=8) (by omega) fun c=>c.len
  ·rw[decide_eq_false a]
   refine ⟨fun _=>⟨by omega,fun t ht=>?_,fun t ht=>?_, ?_,by rw[List.take_length]at h3;exact h3⟩,fun _=>rfl⟩
   ·obtain ⟨i,hi,rfl⟩:=List.getElem_of_mem ht
    rw[<-zay hi];exact (h1 i hi).1
   ·obtain ⟨i,hi,rfl⟩:=List.getElem_of_mem ht
    rw[<-zay hi];exact (h1 i hi).2.2
   ·exact (zee TrainD.id l).2 fun i h0 hi=>(h1 i hi).2.1 h0
theorem zbH (p:Pln) (s:State) (l:List TrainD):ckC p s l=0↔zav p s=0/\TrsOk p s l:=by
 unfold ckC;by_cases h:zav p s=0
 ·rw[if_pos h,zse];simp[h]
 ·rw[if_neg h];simp[h]
theorem ze0 {α β:Type} [Inhabited α] [Inhabited β] (q:α->β->Bool):∀ (a:List α) (b:List β),zaW q a b=true↔a.length=b.length/\∀ i,i<a.length->q (nth a i) (nth b i)=true
 |[],[]=>by simp[zaW]
 |[],_::_=>by simp[zaW]
 |_::_,[]=>by simp[zaW]
 |x::xs,y::ys=>by
  simp only[zaW,Bool.and_eq_true,ze0 q xs ys,List.length_cons,Nat.add_right_cancel_iff];constructor
  ·rintro ⟨h1,h2,h3⟩
   refine ⟨h2,fun i hi=>?_⟩
   cases i with
   |zero=>exact h1
   |succ i=>exact h3 i (by omega)
  ·rintro ⟨h2,h3⟩
   exact ⟨h3 0 (by omega),h2,fun i hi=>h3 (i+1) (by omega)⟩
theorem zn8 {p:Pln} {s:State} (h:zan p s=true) {i:Nat} (hi:i<s.locks.length):zev (nth s.locks i) (nth p.routes i)=true:=by
 simp only[zan,Bool.and_eq_true]at h;exact zfV h.2.2 hi
end Go.Lev
