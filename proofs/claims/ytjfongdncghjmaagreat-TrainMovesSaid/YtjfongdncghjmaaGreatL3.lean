/-
  Contracts of functions. Conditions: those that each theorem names.
-/
import Derived.Test.YtjfongdncghjmaaGreatL2
set_option linter.unusedSimpArgs false
set_option linter.unusedVariables false
set_option linter.unusedSectionVars false
namespace Go.Lev
open Go.Eng
set_option maxRecDepth 10000
set_option maxHeartbeats 4000000
variable {P:Program} {inv:Nat->Option Nat}
def SecOK (l:List Section):Prop:=∀ s∈l,1<=s.id/\s.id<=99/\0<=s.pt/\s.pt<=99/\s.ends.length<=3
theorem zrV {φ:AF} {σ:AS} {t l ver:Nat} {cs:List AV} {b:Bool} (hf:zbl φ t=.ptr l ver 0) (hs:zah σ l=some (.cells cs b)) (hl:cs.length=ver) (hv:0<ver):zeR φ σ [.cell t (some ver)]=some (.agg cs):=by
 subst hl;have h:zb2 cs 0 (some cs.length)=some (.agg cs):=by
  rw[al_s,if_pos (by omega)]
  simp[seg]
 simp[zeR,zi1,ares,hf,zds,hs,h]
def ziQ:List Int->List Section->List Int
 |a,[]=>a
 |a,s::r=>ziQ (a.set s.id.toNat s.ends.length) r
theorem zl4:∀ (l:List Section) (a:List Int),(ziQ a l).length=a.length
 |[],a=>rfl
 |s::r,a=>by rw[ziQ,zl4 r];simp
def ends (l:List Section):List Int:=ziQ (List.replicate 100 0) l
theorem zov (l:List Section):(ends l).length=100:=by rw[ends,zl4];simp
theorem ends_pc (hH:HasAll P inv) (l:List Section) (hl:l.length<=1000000000) (hs:SecOK l):PC P inv 122 [.sl 3 (l.map Section.c)] (·=.agg ((ends l).map AV.n)):=by
 refine wf hH cd122 fun w0 M Q hM hE hQ hR=>?_;refine wq ?_
 (repeat' first|refine zaa [0,2,4,5,6,7,8] fun K hK=>?_|exact wt|refine wA ?_|(refine wB ?_ ?_<;>intro h<;>first|exact wN h|subst (h:(_:Bool)=_)|skip)|(refine wQ ?_;clear hQ hR hE hM)|fail)
 refine zaj (ι:=Nat×(List Int)) [2,5,6,7] (fun z=>[(7,.n z.1)]) (fun z=>[(0,.cells (z.2.map AV.n) true)]) (fun z=>z.1) (l.length) (fun z=>(z.2.length=100)/\(ziQ z.2 (l.drop z.1)=ends l)) (0,List.replicate 100 0) ?_;rintro ⟨k,a⟩ ⟨hk,hp,hg⟩;(try dsimp only at hk hp hg |-);rcases Nat.lt_or_ge k l.length with hlt|hge
 ·rw[zae hlt]at hg
  rw[ziQ]at hg;have hb:=hs _ (zac hlt);(have hX:=@hp;(repeat' first|refine zaa [0,2,4,5,6,7,8] fun K hK=>?_|exact wt|refine wA ?_|(refine wB ?_ ?_<;>intro h<;>first|exact wN h|subst (h:(_:Bool)=_)|skip)|(refine wQ ?_;clear hQ hR hE hM)|fail);all_goals clear hX)
  exact nY (k+1,a.set (nth l k).id.toNat (nth l k).ends.length) ⟨by (try dsimp only);omega,by (try dsimp only);simp[hp],hg⟩
 ·rw[List.drop_eq_nil_of_le hge,ziQ]at hg
  (have hX:=@hp;(repeat' first|refine zaa [0,2,4,5,6,7,8] fun K hK=>?_|exact wt|refine wA ?_|(refine wB ?_ ?_<;>intro h<;>first|exact wN h|subst (h:(_:Bool)=_)|skip)|(refine wQ ?_;clear hQ hR hE hM)|fail);all_goals clear hX)
  subst hg;refine hQ _ _ (.agg ((ends l).map AV.n)) (zrV (l:=0) (b:=true) rfl rfl (by simp[hp]) (by omega)) ?_
  simp only[zf0,zj4]
def zmn:List Int->Int->List Section->List Int×Int
 |a,m,[]=>(a,m)
 |a,m,s::r=>if 0<s.pt then zmn (a.set s.pt.toNat s.id) (m+1) r else zmn a m r
def zkq (a:List Int) (x:Pnt):Bool:=decide (x.sec=0)||!decide (nth a x.id.toNat=x.sec)
def pts (l:List Section):List Int×Int:=zmn (List.replicate 100 0) 0 l
def points (p:Pln):Bool:=rise (p.points.map Pnt.id) 6&&(decide ((pts p.sections).2=p.points.length)&&!p.points.any (zkq (pts p.sections).1))
theorem ptBad_pc (hH:HasAll P inv) (a:List Int) (ha:a.length=100) (x:Pnt) (hx:0<=x.id/\x.id<=99):PC P inv 132 ([.agg x.c]++[.ip 100 [a.map AV.n] 0 0]) (·=.b (zkq a x)):=by
 refine wf hH cd132 fun w0 M Q hM hE hQ hR=>?_;refine wq ?_
 (have hX:=@ha;(repeat' first|refine zaa kD fun K hK=>?_|exact wt|refine wA ?_|(refine wB ?_ ?_<;>intro h<;>first|exact wN h|subst (h:(_:Bool)=_)|skip)|(refine wQ ?_;clear hQ hR hE hM)|fail);all_goals clear hX)
 all_goals (first|rfl|(grind[zkq])|(simp[zkq, *];done)|(simp_all [zkq];done)|(simp_all [zkq]<;>first|omega|((repeat' split)<;>first|rfl|(exfalso;omega))))
theorem znV:∀ {l:List Int} {p:Option Int},zef p l=true->∀ x∈l,1<=x/\x<=99
 |[],_,_,_,h=>by cases h
 |y::r,p,hr,x,hx=>by
  simp only[zef,Bool.and_eq_true,Bool.not_eq_true',decide_eq_false_iff_not]at hr;rcases List.mem_cons.1 hx with rfl|hx
  ·omega
  ·exact znV hr.2 x hx
theorem zqK (hH:HasAll P inv) (hI:HasIds P inv) (p:Pln) (h1:p.sections.length<=1000000000) (h2:p.points.length<=1000000000) (hs:SecOK p.sections):PC P inv 123 [.agg p.c] (·=.b (points p)):=by
 have c1:=zo2 hH hI p.points 6 h2;cases hr:rise (p.points.map Pnt.id) 6 with
 |false =>
  rw[hr]at c1;refine wf hH cd123 fun w0 M Q hM hE hQ hR=>?_;refine wq ?_
  (repeat' first|refine zaa yU fun K hK=>?_|exact wt|refine wA ?_|(refine wB ?_ ?_<;>intro h<;>first|exact wN h|subst (h:(_:Bool)=_)|skip)|(refine wQ ?_;clear hQ hR hE hM)|refine wC c1 ?_|fail)
  all_goals simp[points,hr]
 |true =>
  rw[hr]at c1;have hid:∀ x∈p.points,0<=x.id/\x.id<=99:=fun x hx=>by
   simp only[rise,Bool.and_eq_true]at hr;have:=znV hr.1 x.id (List.mem_map_of_mem hx);omega
  refine wf hH cd123 fun w0 M Q hM hE hQ hR=>?_;refine wq ?_
  (repeat' first|refine zaa yU fun K hK=>?_|exact wt|refine wA ?_|(refine wB ?_ ?_<;>intro h<;>first|exact wN h|subst (h:(_:Bool)=_)|skip)|(refine wQ ?_;clear hQ hR hE hM)|refine wC c1 ?_|fail)
  refine zaj (ι:=Nat×(List Int)×Int) [1,2,3,4,12,13,14] (fun z=>[(4,.n z.2.2),(14,.n z.1)]) (fun z=>[(1,.cells (z.2.1.map AV.n) true)]) (fun z=>z.1) (p.sections.length) (fun z=>(z.2.1.length=100)/\(0<=z.2.2/\z.2.2<=z.1)/\(zmn z.2.1 z.2.2 (p.sections.drop z.1)=pts p.sections)) (0,List.replicate 100 0,0) ?_;rintro ⟨k,a,m⟩ ⟨hk,hp,hm,hg⟩;(try dsimp only at hk hp hm hg |-);rcases Nat.lt_or_ge k p.sections.length with hlt|hge
  ·rw[zae hlt]at hg
   rw[zmn]at hg;have hb:=hs _ (zac hlt);(have hX:=@hp;(repeat' first|refine zaa yU fun K hK=>?_|exact wt|refine wA ?_|(refine wB ?_ ?_<;>intro h<;>first|exact wN h|subst (h:(_:Bool)=_)|skip)|(refine wQ ?_;clear hQ hR hE hM)|fail);all_goals clear hX)
   ·rw[if_pos (by assumption)]at hg
    exact nY (k+1,a.set (nth p.sections k).pt.toNat (nth p.sections k).id,m+1) ⟨by (try dsimp only);omega,by (try dsimp only);simp[hp],by (try dsimp only);omega,hg⟩
   ·rw[if_neg (by assumption)]at hg
    exact nY (k+1,a,m) ⟨by (try dsimp only);omega,hp,by (try dsimp only);omega,hg⟩
  ·rw[List.drop_eq_nil_of_le hge,zmn]at hg
   have c2:=any_pnt hH p.points (fun x hx=>ptBad_pc hH a hp x (hid x hx)) h2
   (have hX:=@hp;(repeat' first|refine zaa yU fun K hK=>?_|exact wt|refine wA ?_|(refine wB ?_ ?_<;>intro h<;>first|exact wN h|subst (h:(_:Bool)=_)|skip)|(refine wQ ?_;clear hQ hR hE hM)|refine wS c2 ?_|fail);all_goals clear hX)
   all_goals (simp only[points,hr,<-hg];clear hg hr;simp[*])
def zpL (sec:List Int):List Bool->List Int->Bool
 |_,[]=>true
 |m,x::r=>!(!zcl sec x||nth m x.toNat)&&zpL sec (m.set x.toNat true) r
def zlW (pts:List Pnt) (pr:Option Int) (f:Flk):Bool:=!(pts.find? fun x=>decide (x.id=f.pnt)).isSome||((match pr with|some y=>decide (f.pnt<=y)|none=>false)||(!decide (f.lie=1)&&!decide (f.lie=2)))
def zpu (pts:List Pnt):Option Int->List Flk->Bool
 |_,[]=>true
 |pr,f::r=>!zlW pts pr f&&zpu pts (some f.pnt) r
def zkd (p:Pln) (r:Rte):Bool:=(p.signals.find? fun x=>decide (x.id=r.entry)).isSome&&(!(!decide (r.exit=0)&&(!(p.signals.find? fun x=>decide (x.id=r.exit)).isSome||decide (r.exit=r.entry)))&&!(decide (r.exit=0)&&decide (0<(r.over.length:Int))))
def zfH (r:Rte):Bool:=!decide ((r.path.length:Int)<1)&&(!decide (6<(r.path.length:Int))&&(!decide (2<(r.over.length:Int))&&!decide (3<(r.flanks.length:Int))))
def zga (r:Rte):Bool:=!decide (r.timer<1)&&!decide (9<r.timer)
def zh6 (p:Pln) (r:Rte) (sec:List Int):Bool:=zpL sec ((List.replicate 100 false).set ((p.signals.find? fun x=>decide (x.id=r.entry)).getD Sgn.z).sec.toNat true) (r.path++r.over)
def zc0 (p:Pln) (r:Rte) (sec:List Int):Bool:=zkd p r&&(zfH r&&(zga r&&(zh6 p r sec&&zpu p.points none r.flanks)))
def lst (l:List Int):List AV:=[.sl 1 (l.map zaJ)]
theorem find_mem {α:Type} {q:α->Bool} {l:List α} {x:α} (h:l.find? q=some x):x∈l:=List.mem_of_find?_eq_some h
theorem route_pc (hH:HasAll P inv) (hI:HasIds P inv) (p:Pln) (r:Rte) (h1:p.signals.length<=1000000000) (h2:p.points.length<=1000000000) (hf:r.flanks.length<=9223372036854775807) (hpa:r.path.length<=9223372036854775807) (hov:r.over.length<=9223372036854775807) (sec:List Int) (hs:sec.length=100) (hsig:∀ x∈p.signals,0<=x.sec/\x.sec<=99):PC P inv 126 [.agg p.c,.agg r.c,.agg (sec.map AV.n)] (·=.b (zc0 p r sec)):=by
 have c1:=zoq hH hI p.signals h1 r.entry;have c2:=zoq hH hI p.signals h1 r.exit;have ht:(sec.map AV.n).take 100=sec.map AV.n:=List.take_of_length_le (by simp[hs])
 have he:0<=((p.signals.find? fun x=>decide (x.id=r.entry)).getD Sgn.z).sec/\((p.signals.find? fun x=>decide (x.id=r.entry)).getD Sgn.z).sec<=99:=by
  cases ha:(p.signals.find? fun x=>decide (x.id=r.entry)) with
  |none=>simp[Sgn.z]
  |some x=>exact hsig x (find_mem ha)
 have hr:zc0 p r sec=(zkd p r&&(zfH r&&(zga r&&(zh6 p r sec&&zpu p.points none r.flanks)))):=rfl;revert hr;generalize zc0 p r sec=ans;unfold zh6 zkd;revert c1 c2 he;generalize (p.signals.find? fun x=>decide (x.id=r.entry)).isSome=ia
 generalize (p.signals.find? fun x=>decide (x.id=r.entry)).getD Sgn.z=e
 generalize (p.signals.find? fun x=>decide (x.id=r.exit)).isSome=ib
 generalize (p.signals.find? fun x=>decide (x.id=r.exit)).getD Sgn.z=e'
 intro c1 c2 he hr;refine wf hH cd126 fun w0 M Q hM hE hQ hR=>?_;refine wq ?_
 repeat' (first|(refine zaa kH fun K hK=>cnd2 rfl (fun h=>?_) (fun h=>?_)<;>(try first|exact h.elim|obtain rfl:(_:Bool)=_:=h)<;>first|(exfalso;omega)|skip)|refine AWp.block ?_|refine Cont.go (by assumption) ?_|(refine cnd2 rfl (fun h=>?_) (fun h=>?_)<;>(try first|exact h.elim|obtain rfl:(_:Bool)=_:=h)<;>first|(exfalso;omega)|skip)|((first|refine zaa kH fun K hK=>AWp.reg hE hM ?_|refine zaa kH fun K hK=>AWp.regd hE hM ?_|refine AWp.reg hE hM ?_|refine AWp.regd hE hM ?_|refine AWp.ret ?_|refine AWp.skip ?_|refine AWp.exit ?_|(refine pk2 (fun h=>?_) (fun h=>?_)<;>(try first|exact h.elim|obtain rfl:(_:Bool)=_:=h))|refine zmV (fun h=>?_) ?_|refine zak hM (c1) ?_|refine zak hM (c2) ?_|(refine hQ _ _ _ rfl ?_;clear hQ hR hE hM)|(refine hR _ _ (hQ _ _ _ rfl ?_);clear hQ hR hE hM)|(refine ob_mk ?_ ?_;focus first|omega|(refine SLe_of ?_;(refine wD ?_;try exact wt);done)))<;>try simp -dsimp -implicitDefEqProofs (disch:=omega) only[go_sem,reduceIte,↓reduceIte,Nat.reduceEqDiff,Nat.reduceLT,Nat.reduceLeDiff,Nat.reduceAdd,Nat.reduceSub,Nat.reduceMul,Int.reduceToNat,Int.reduceLT,Int.reduceLE,Int.reduceEq,Int.reduceNeg,Int.reduceNe,reduceCtorEq,ht]))
 refine AWp.mid [0,1,2,3,4,5,6,7] (ans=(zpL sec ((List.replicate 100 false).set e.sec.toNat true) (r.path++r.over)&&zpu p.points none r.flanks)) ?_ fun hr=>?_
 ·(repeat' first|refine zaa kH fun K hK=>?_|exact wt|refine wA ?_|(refine wB ?_ ?_<;>intro h<;>first|exact wN h|subst (h:(_:Bool)=_)|skip)|(refine wQ ?_;clear hQ hR hE hM)|fail)
  all_goals (first|(grind[zfH,zga])|(refine ⟨?_, ?_⟩<;>first|(grind[zfH,zga])|(simp;done)))
 ·clear c1 c2
  (have hX:=@ht;(repeat' first|refine zaa kH fun K hK=>?_|exact wt|refine wA ?_|(refine wB ?_ ?_<;>intro h<;>first|exact wN h|subst (h:(_:Bool)=_)|skip)|(refine wQ ?_;clear hQ hR hE hM)|fail);all_goals clear hX)
  obtain ⟨L,hL⟩:∃ L,L=[r.path,r.over]:=⟨_,rfl⟩;have hLl:L.length=2:=by rw[hL];rfl
  have hLf:L.flatten=r.path++r.over:=by rw[hL];simp
  rw[show [[AV.sl 1 (r.path.map zaJ)],[AV.sl 1 (r.over.map zaJ)]]=L.map lst by rw[hL];rfl]
  rw[<-hLf]at hr;have hLb:∀ i,i<2->(nth L i).length<=9223372036854775807:=by
   intro i hi;rcases (show i=0\/i=1 by omega) with rfl|rfl<;>(rw[hL];simpa [nth] using by omega)
  clear hL hLf;rw[show (List.replicate 100 (AV.b false)).set e.sec.toNat (AV.b true)=((List.replicate 100 false).set e.sec.toNat true).map AV.b by rw[List.map_set,List.map_replicate]]
  have hp0:((List.replicate 100 false).set e.sec.toNat true).length=100:=by simp
  revert hr hp0;generalize (List.replicate 100 false).set e.sec.toNat true=m0;intro hr hp0;refine zaj (ι:=Nat×(List Bool)) [3,4,5,6,11,93,94,95] (fun z=>[(95,.n z.1)]) (fun z=>[(5,.cells (z.2.map AV.b) true)]) (fun z=>z.1) (2) (fun z=>(z.2.length=100)/\(zpL sec z.2 (L.drop z.1).flatten=zpL sec m0 L.flatten)) (0,m0) ?_;rintro ⟨k,m⟩ ⟨hk,hp,hg⟩;(try dsimp only at hk hp hg |-);rcases Nat.lt_or_ge k 2 with hlt|hge
  ·rw[zae (by omega),List.flatten_cons]at hg
   have hb:=hLb k hlt;(have hX:=zA @ht @lst.eq_1;(repeat' first|refine zaa kH fun K hK=>?_|exact wt|refine wA ?_|(refine wB ?_ ?_<;>intro h<;>first|exact wN h|subst (h:(_:Bool)=_)|skip)|(refine wQ ?_;clear hQ hR hE hM)|fail);all_goals clear hX)
   refine zaj (ι:=Nat×(List Bool)) [3,4,5,6,11,93,94,95,99,100,101] (fun z=>[(101,.n z.1)]) (fun z=>[(5,.cells (z.2.map AV.b) true)]) (fun z=>z.1) ((nth L k).length) (fun z=>(z.2.length=100)/\(zpL sec z.2 ((nth L k).drop z.1++(L.drop (k+1)).flatten)=zpL sec m0 L.flatten)) (0,m) ?_;rintro ⟨i,q⟩ ⟨hk,hq,hf'⟩;(try dsimp only at hk hq hf' |-);rcases Nat.lt_or_ge i (nth L k).length with hlt|hge
   ·rw[zae (by assumption),List.cons_append,zpL]at hf'
    have c2:=znD hH sec hs (nth (nth L k) i);cases hth:zcl sec (nth (nth L k) i) with
    |false =>
     rw[hth]at c2 hf';(have hX:=zA @hs (zA @ht @hq);(repeat' first|refine zaa kH fun K hK=>?_|exact wt|refine wA ?_|(refine wB ?_ ?_<;>intro h<;>first|exact wN h|subst (h:(_:Bool)=_)|skip)|(refine wQ ?_;clear hQ hR hE hM)|refine wC c2 ?_|fail);all_goals clear hX)
     all_goals (rw[hr,<-hf'];simp)
    |true =>
     rw[hth]at c2 hf';have h0:0<=nth (nth L k) i/\nth (nth L k) i<=99:=by simp only[zcl,Bool.and_eq_true,decide_eq_true_eq]at hth;omega
     (have hX:=zA @hs (zA @ht @hq);(repeat' first|refine zaa kH fun K hK=>?_|exact wt|refine wA ?_|(refine wB ?_ ?_<;>intro h<;>first|exact wN h|subst (h:(_:Bool)=_)|skip)|(refine wQ ?_;clear hQ hR hE hM)|refine wC c2 ?_|fail);all_goals clear hX)
     ·rw[hr,<-hf'];simp[*]
     ·exact nY (i+1,q.set (nth (nth L k) i).toNat true) ⟨by (try dsimp only);omega,by (try dsimp only);simp[hq],by (try dsimp only);rw[<-hf'];simp[*]⟩
   ·rw[List.drop_eq_nil_of_le (by assumption),List.nil_append]at hf'
    (have hX:=zA @hs (zA @ht @hq);(repeat' first|refine zaa kH fun K hK=>?_|exact wt|refine wA ?_|(refine wB ?_ ?_<;>intro h<;>first|exact wN h|subst (h:(_:Bool)=_)|skip)|(refine wQ ?_;clear hQ hR hE hM)|fail);all_goals clear hX)
    exact nY (k+1,q) ⟨by (try dsimp only);omega,hq,hf'⟩
  ·rw[List.drop_eq_nil_of_le (by omega)]at hg
   rw[<-hg]at hr;clear hg hp0;simp only[List.flatten_nil,zpL,Bool.true_and]at hr
   (repeat' first|refine zaa kH fun K hK=>?_|exact wt|refine wA ?_|(refine wB ?_ ?_<;>intro h<;>first|exact wN h|subst (h:(_:Bool)=_)|skip)|(refine wQ ?_;clear hQ hR hE hM)|fail)
   refine zaj (ι:=Nat) [3,4,6,119,120,121] (fun z=>[(121,.n z)]) (fun _=>[]) (fun z=>z) (r.flanks.length) (fun z=>(zpu p.points (zlx (r.flanks.map Flk.pnt) z) (r.flanks.drop z)=zpu p.points none r.flanks)) (0) ?_;rintro k2 ⟨hk,hf'⟩;(try dsimp only at hk hf' |-);rcases Nat.lt_or_ge k2 r.flanks.length with hlt|hge
   ·rw[zae (by assumption),zpu,<-zlw Flk.pnt (by assumption)]at hf'
    have c3:=find_pnt hH hI p.points h2 (nth r.flanks k2).pnt;unfold zlW at hf';rw[zqJ Flk.pnt (by assumption)]at hf'
    revert c3 hf';generalize (p.points.find? fun x=>decide (x.id=(nth r.flanks k2).pnt)).isSome=ic
    generalize (p.points.find? fun x=>decide (x.id=(nth r.flanks k2).pnt)).getD Pnt.z=y
    intro hf' c3
    (repeat' first|refine zaa kH fun K hK=>?_|exact wt|refine wA ?_|(refine wB ?_ ?_<;>intro h<;>first|exact wN h|subst (h:(_:Bool)=_)|skip)|(refine wQ ?_;clear hQ hR hE hM)|refine wC c3 ?_|fail)
    all_goals first|(first|rw[if_pos (show 0<(k2:Int) by assumption)]at hf'|rw[if_neg (show ¬0<(k2:Int) by assumption)]at hf'|skip)
    all_goals (clear c3;(try clear hQ hR);(try generalize (nth r.flanks ((k2:Int)-1).toNat).pnt=y0 at *))
    all_goals first|(rw[hr,<-hf'];clear hr hf';simp[*];done)|(refine ⟨k2+1,by omega,⟨by omega, ?_⟩,by omega⟩;rw[<-hf'];clear hf' hr;simp[*];done)
   ·rw[List.drop_eq_nil_of_le (by assumption),zpu]at hf'
    (repeat' first|refine zaa kH fun K hK=>?_|exact wt|refine wA ?_|(refine wB ?_ ?_<;>intro h<;>first|exact wN h|subst (h:(_:Bool)=_)|skip)|(refine wQ ?_;clear hQ hR hE hM)|fail)
    rw[hr,<-hf']
def zcZ (x:Sgn):Nat:=x.sec.toNat*3+x.ed.toNat
def zdy (sec:List Int) (at_:List Bool) (x:Sgn):Bool:=!zcl sec x.sec||(decide (x.ed<0)||(decide (nth sec x.sec.toNat<=x.ed)||nth at_ (zcZ x)))
def zhV (sec:List Int):List Bool->List Sgn->Bool
 |_,[]=>true
 |a,x::r=>!zdy sec a x&&zhV sec (a.set (zcZ x) true) r
def signals (p:Pln) (sec:List Int):Bool:=rise (p.signals.map Sgn.id) 10&&zhV sec (List.replicate 300 false) p.signals
theorem zoV (hH:HasAll P inv) (hI:HasIds P inv) (p:Pln) (h2:p.signals.length<=1000000000) (sec:List Int) (hs:sec.length=100) (hs3:∀ i,nth sec i<=3):PC P inv 124 [.agg p.c,.agg (sec.map AV.n)] (·=.b (signals p sec)):=by
 have c1:=zo0 hH hI p.signals 10 h2;have ht:(sec.map AV.n).take 100=sec.map AV.n:=List.take_of_length_le (by simp[hs])
 cases hr:rise (p.signals.map Sgn.id) 10 with
 |false =>
  rw[hr]at c1;refine wf hH cd124 fun w0 M Q hM hE hQ hR=>?_;refine wq ?_
  (repeat' first|refine zaa yF fun K hK=>?_|exact wt|refine wA ?_|(refine wB ?_ ?_<;>intro h<;>first|exact wN h|subst (h:(_:Bool)=_)|skip)|(refine wQ ?_;clear hQ hR hE hM)|refine wC c1 ?_|fail)
  all_goals simp[signals,hr]
 |true =>
  rw[hr]at c1;refine wf hH cd124 fun w0 M Q hM hE hQ hR=>?_;refine wq ?_
  (have hX:=zA @hs @ht;(repeat' first|refine zaa yF fun K hK=>?_|exact wt|refine wA ?_|(refine wB ?_ ?_<;>intro h<;>first|exact wN h|subst (h:(_:Bool)=_)|skip)|(refine wQ ?_;clear hQ hR hE hM)|refine wC c1 ?_|fail);all_goals clear hX)
  refine zaj (ι:=Nat×(List Bool)) [3,4,5,13,14,15] (fun z=>[(15,.n z.1)]) (fun z=>[(2,.cells (z.2.map AV.b) true)]) (fun z=>z.1) (p.signals.length) (fun z=>(z.2.length=300)/\(zhV sec z.2 (p.signals.drop z.1)=zhV sec (List.replicate 300 false) p.signals)) (0,List.replicate 300 false) ?_;rintro ⟨k,a⟩ ⟨hk,hp,hg⟩;(try dsimp only at hk hp hg |-);rcases Nat.lt_or_ge k p.signals.length with hlt|hge
  ·rw[zae hlt]at hg
   rw[zhV]at hg;have c2:=znD hH sec hs (nth p.signals k).sec;have hb:=hs3 (nth p.signals k).sec.toNat;cases hth:zcl sec (nth p.signals k).sec with
   |false =>
    rw[hth]at c2;rw[show zdy sec a (nth p.signals k)=true by simp[zdy,hth]]at hg
    (have hX:=zA @hp (zA @hs @ht);(repeat' first|refine zaa yF fun K hK=>?_|exact wt|refine wA ?_|(refine wB ?_ ?_<;>intro h<;>first|exact wN h|subst (h:(_:Bool)=_)|skip)|(refine wQ ?_;clear hQ hR hE hM)|refine wC c2 ?_|fail);all_goals clear hX)
    all_goals simp only[signals,hr,<-hg,Bool.and_false,Bool.not_true,Bool.false_and]
   |true =>
    rw[hth]at c2;have h0:0<=(nth p.signals k).sec/\(nth p.signals k).sec<=99:=by simp only[zcl,Bool.and_eq_true,decide_eq_true_eq]at hth;omega
    (have hX:=zA @hp (zA @hs @ht);(repeat' first|refine zaa yF fun K hK=>?_|exact wt|refine wA ?_|(refine wB ?_ ?_<;>intro h<;>first|exact wN h|subst (h:(_:Bool)=_)|skip)|(refine wQ ?_;clear hQ hR hE hM)|refine wC c2 ?_|fail);all_goals clear hX)
    ·rw[show zdy sec a (nth p.signals k)=true by simp[zdy,zcZ,hth, *]]at hg
     simp only[signals,hr,<-hg,Bool.and_false,Bool.not_true,Bool.false_and]
    ·rw[show zdy sec a (nth p.signals k)=true by simp[zdy,zcZ,hth, *]]at hg
     simp only[signals,hr,<-hg,Bool.and_false,Bool.not_true,Bool.false_and]
    ·rw[show zdy sec a (nth p.signals k)=true by simp[zdy,zcZ,hth, *]]at hg
     simp only[signals,hr,<-hg,Bool.and_false,Bool.not_true,Bool.false_and]
    ·rw[show zdy sec a (nth p.signals k)=false by simp[zdy,zcZ,hth, *]]at hg
     exact nY (k+1,a.set (zcZ (nth p.signals k)) true) ⟨by (try dsimp only);omega,by (try dsimp only);simp[hp],hg⟩
  ·rw[List.drop_eq_nil_of_le hge,zhV]at hg
   (have hX:=@hp;(repeat' first|refine zaa yF fun K hK=>?_|exact wt|refine wA ?_|(refine wB ?_ ?_<;>intro h<;>first|exact wN h|subst (h:(_:Bool)=_)|skip)|(refine wQ ?_;clear hQ hR hE hM)|fail);all_goals clear hX)
   all_goals simp only[signals,hr,<-hg,Bool.and_self]
end Go.Lev
namespace Go.Eng
open Go.RowKit
section
variable {P:Program} {inv:Nat->Option Nat} {w0:World} {M:Nat->Prop} {N:Nat} {φ:AF} {σ:AS}
variable {K:AF->AS->Prop} {tk:Tok K}
theorem op_mksr (d sz len:Nat) (zero:List (Nat×AV)) (parts:List (Nat×Nat×Opd)):opT P inv w0 M N (.mksr d sz len zero parts) φ σ K tk=zcR (zdn φ (List.replicate len (zc3 zero)).flatten parts) fun cs =>
  K (zbq φ d (.sm (zaw N φ σ) (len*sz) 0 len sz)) (sput σ (zaw N φ σ) (.cells cs true)):=rfl
theorem od_mksr (d sz len:Nat) (zero:List (Nat×AV)) (parts:List (Nat×Nat×Opd)):opD P inv w0 M N (.mksr d sz len zero parts) φ σ K tk=opT P inv w0 M N (.mksr d sz len zero parts) φ σ K .mk:=rfl
theorem op_callA (d:Option Nat) (j:Nat) (args pts:List Opd):opT P inv w0 M N (.callA d j args pts) φ σ K tk=CallK P inv w0 M N φ σ j (args.map (ev φ)) fun r σ'=>ob (farP φ σ σ' pts) (K (zcu φ d r) σ'):=rfl
theorem od_callA (d:Option Nat) (j:Nat) (args pts:List Opd):opD P inv w0 M N (.callA d j args pts) φ σ K tk=opT P inv w0 M N (.callA d j args pts) φ σ K .mk:=rfl
def crT (σ:AS) (sz:Nat) (zs:List AV) (x:AV) (K:AS->Prop) (_:Tok K):Prop:=match x with
  |.s0 _=>K σ
  |.sm l ver off n sz'=>ob (sz'=sz) <| ob (off+n*sz<=ver) (match zah σ l with
   |some (.cells cs r)=>ob (cs.length=ver) (K (sput σ l (.cells (ovl cs off (List.replicate n zs).flatten) r)))
   |_=>False)
  |_=>False
theorem op_clr (s:Opd) (zero:List (Nat×AV)) (sz:Nat):opT P inv w0 M N (.clr s zero sz) φ σ K tk=crT σ sz (zc3 zero) (ev φ s) (fun σ'=>K φ σ') .mk:=by unfold opT aop crT;rfl
end
theorem cr_m (σ:AS) (sz l ver off n sz':Nat) (zs:List AV) (K:AS->Prop) (tk:Tok K):crT σ sz zs (.sm l ver off n sz') K tk=ob (sz'=sz) (ob (off+n*sz<=ver) (clT (zah σ l) (fun cs r=>ob (cs.length=ver) (K (sput σ l (.cells (ovl cs off (List.replicate n zs).flatten) r)))) .mk)):=by unfold crT clT;rfl
theorem fp_nil (φ:AF) (σ σ':AS):farP φ σ σ' []=True:=rfl
theorem fp_cons (φ:AF) (σ σ':AS) (p:Opd) (r:List Opd):farP φ σ σ' (p::r)=(zrd σ σ' (ev φ p)/\farP φ σ σ' r):=rfl
theorem kv_p (σ σ':AS) (l v o:Nat):zrd σ σ' (.ptr l v o)=(zah σ' l=zah σ l):=rfl
attribute [go_sem] op_mksr od_mksr op_callA od_callA op_clr cr_m fp_nil fp_cons kv_p true_and
def tl (τ r:List (Nat×AO)):List (Nat×AO):=τ++r
structure Mid (τ:List (Nat×AO)) (lo hi:Nat):Prop where
 keys:∀ p∈τ,lo<=p.1/\p.1<hi
 bd:zax τ<=hi
theorem zf5:∀ (τ r:List (Nat×AO)) (k:Nat),zah (τ++r) k=match zah τ k with|some o=>some o|none=>zah r k
 |[],r,k=>rfl
 |(j,o)::τ,r,k=>by
  simp only[List.cons_append,zah];by_cases h:k=j
  ·rw[if_pos h,if_pos h]
  ·rw[if_neg h,if_neg h];exact zf5 τ r k
theorem zf4:∀ {τ:List (Nat×AO)} {k:Nat},(∀ p∈τ,p.1≠k)->zah τ k=none
 |[],_,_=>rfl
 |(j,o)::τ,k,h=>by
  rw[zah,if_neg (fun e=>h (j,o) (by simp) e.symm)]
  exact zf4 fun p hp=>h p (by simp[hp])
section
variable {τ:List (Nat×AO)} {lo hi:Nat}
theorem Mid.get (h:Mid τ lo hi) (r:List (Nat×AO)) {k:Nat} (hk:k<lo\/hi<=k):zah (tl τ r) k=zah r k:=by
 unfold tl;rw[zf5,zf4 fun p hp=>by have:=h.keys p hp;omega]
theorem zbK {k:Nat} {o:AO} (h:zah τ k=some o) (r:List (Nat×AO)):zah (tl τ r) k=some o:=by
 unfold tl;rw[zf5,h]
theorem zhw:∀ (τ r:List (Nat×AO)) (k:Nat) (x:AO),(∀ p∈τ,p.1<k)->sput (τ++r) k x=τ++sput r k x
 |[],r,k,x,_=>rfl
 |(j,o)::τ,r,k,x,h=>by
  have h1:=h (j,o) (by simp)
  simp only at h1;simp only[List.cons_append,sput];rw[if_neg (by omega),if_neg (by omega),zhw τ r k x fun p hp=>h p (by simp[hp])]
theorem Mid.put (h:Mid τ lo hi) (r:List (Nat×AO)) {k:Nat} (hk:hi<=k) (x:AO):sput (tl τ r) k x=tl τ (sput r k x) :=
 zhw τ r k x fun p hp=>by have:=h.keys p hp;omega
theorem zgM:∀ (τ r:List (Nat×AO)),zax τ<=zax (τ++r)/\zax r<=zax (τ++r)/\∀ n,zax τ<=n->zax r<=n->zax (τ++r)<=n
 |[],r=>⟨by simp[zax],Nat.le_refl _,fun n _ h=>h⟩
 |(j,o)::τ,r=>by
  obtain ⟨h1,h2,h3⟩:=zgM τ r;simp only[List.cons_append,zax];unfold mx;refine ⟨?_, ?_,fun n h4 h5=>?_⟩
  ·repeat' split
   all_goals omega
  ·repeat' split
   all_goals omega
  ·have h6:zax τ<=n/\j+1<=n/\o.bound<=n:=by
    revert h4
    repeat' split
    all_goals (intro h4;omega)
   have:=h3 n h6.1 h5
   repeat' split
   all_goals omega
theorem Mid.bound (h:Mid τ lo hi) {j:Nat} (o:AO) (r:List (Nat×AO)) (hj:hi<=j+1):zax (tl τ ((j,o)::r))=zax ((j,o)::r):=by
 obtain ⟨h1,h2,h3⟩:=zgM τ ((j,o)::r);have h4:j+1<=zax ((j,o)::r):=by simp only[zax];exact zaQ _ _
 have h5:=h.bd;exact Nat.le_antisymm (h3 _ (by omega) (Nat.le_refl _)) h2
theorem zmE (b:Nat):∀ τ r:List (Nat×AO),shS b (τ++r)=shS b τ++shS b r
 |[],_=>rfl
 |(_,_)::τ,r=>by simp only[List.cons_append,shS,zmE b τ r]
theorem shS_tl (b:Nat) (τ r:List (Nat×AO)):shS b (tl τ r)=tl (shS b τ) (shS b r):=zmE b τ r
theorem zj8 (b:Nat):∀ (τ:List (Nat×AO)),(∀ p∈τ,lo<=p.1/\p.1<hi)->∀ p∈shS b τ,lo+b<=p.1/\p.1<hi+b
 |[],_,p,hp=>nomatch hp
 |(j,o)::τ,h,p,hp=>by
  simp only[shS,List.mem_cons]at hp;rcases hp with rfl|hp
  ·have:=h (j,o) (by simp)
   simp only at this |-
   omega
  ·exact zj8 b τ (fun q hq=>h q (by simp[hq])) p hp
theorem zmH:∀ σ x:List (Nat×AO),zg9 σ x=σ++x
 |[],_=>rfl
 |_::σ,x=>by simp only[zg9,List.cons_append,zmH σ x]
theorem zqo (τ r x:List (Nat×AO)):zg9 (tl τ r) x=tl τ (zg9 r x):=by rw[zmH,zmH];unfold tl;rw[List.append_assoc]
theorem SLe_app (σ x:List (Nat×AO)):SLe σ (σ++x):=fun l o e _=>by rw[zf5,e]
theorem SLe_1 (a b c d e f:Nat×AO) (τ:List (Nat×AO)):SLe (a::b::c::tl τ [d,e]) (a::b::c::tl τ [d,e,f]):=by
 have:=SLe_app (a::b::c::tl τ [d,e]) [f]
 simpa [tl] using this
end
section
variable {sz:Nat} {CL:List (List AV)}
theorem zdp (h:∀ c∈CL,c.length=sz):CL.flatten.length=CL.length*sz:=by
 induction CL with
 |nil=>simp
 |cons c r ih =>
  rw[List.flatten_cons,List.length_append,h c (by simp),ih fun c hc=>h c (by simp[hc]),List.length_cons,Nat.add_mul]
  omega
theorem znk (h:∀ c∈CL,c.length=sz) (k:Nat) (hk:k<=CL.length):CL.flatten.drop (k*sz)=(CL.drop k).flatten:=by
 induction CL generalizing k with
 |nil=>simp
 |cons c r ih =>
  cases k with
  |zero=>simp
  |succ k =>
   have hc:=h c (by simp)
   rw[List.flatten_cons,List.drop_succ_cons,<-ih (fun c hc=>h c (by simp[hc])) k (by simpa using hk)]
   have:(k+1)*sz=sz+k*sz:=by rw[Nat.add_mul];omega
   rw[this,<-hc,List.drop_append];simp
theorem zsc (h:∀ c∈CL,c.length=sz) (k:Nat) (hk:k<=CL.length):CL.flatten.take (k*sz)=(CL.take k).flatten:=by
 have e:CL.flatten=(CL.take k).flatten++(CL.drop k).flatten:=by rw[<-List.flatten_append,List.take_append_drop]
 rw[e];refine List.take_left' ?_;rw[zdp fun c hc=>h c (List.mem_of_mem_take hc),List.length_take,Nat.min_eq_left hk]
theorem zhI {k:Nat} (hk:k<CL.length):CL.flatten=(CL.take k).flatten++(CL[k]++(CL.drop (k+1)).flatten):=by
 have e:CL=CL.take k++CL[k]::CL.drop (k+1):=by rw[<-List.drop_eq_getElem_cons hk,List.take_append_drop]
 exact (congrArg List.flatten e).trans (by rw[List.flatten_append,List.flatten_cons])
theorem cl_get (h:∀ c∈CL,c.length=sz) {k i:Nat} (hk:k<CL.length) (hi:i<sz):CL.flatten[k*sz+i]?=CL[k][i]?:=by
 have h1:(CL.take k).flatten.length=k*sz:=by rw[zdp fun c hc=>h c (List.mem_of_mem_take hc),List.length_take,Nat.min_eq_left (by omega)]
 have h2:=h CL[k] (List.getElem_mem hk);rw[zhI hk,List.getElem?_append_right (by omega),h1,Nat.add_sub_cancel_left,List.getElem?_append_left (by omega)]
theorem cl_seg (h:∀ c∈CL,c.length=sz) {k:Nat} (hk:k<CL.length):seg CL.flatten (k*sz) sz=CL[k]:=by
 unfold seg;rw[znk h k (by omega),List.drop_eq_getElem_cons hk,List.flatten_cons]
 exact List.take_left' (h _ (List.getElem_mem hk))
theorem zoB (h:∀ c∈CL,c.length=sz) (h0:0<sz) {k:Nat} (hk:k<CL.length):zb2 CL.flatten (k*sz) (some sz)=some (.agg CL[k]):=by
 have h1:(k+1)*sz<=CL.length*sz:=Nat.mul_le_mul_right _ hk;have h2:(k+1)*sz=k*sz+sz:=by rw[Nat.add_mul,Nat.one_mul]
 show (if 0<sz/\k*sz+sz<=CL.flatten.length then some (AV.agg (seg CL.flatten (k*sz) sz)) else none)=_
 rw[if_pos ⟨h0,by rw[zdp h];omega⟩,cl_seg h hk]
theorem cl_set (h:∀ c∈CL,c.length=sz) {k i:Nat} (hk:k<CL.length) (hi:i<sz) (x:AV):CL.flatten.set (k*sz+i) x=(CL.set k (CL[k].set i x)).flatten:=by
 have h1:(CL.take k).flatten.length=k*sz:=by rw[zdp fun c hc=>h c (List.mem_of_mem_take hc),List.length_take,Nat.min_eq_left (by omega)]
 have h2:=h CL[k] (List.getElem_mem hk);have hk':k<(CL.set k (CL[k].set i x)).length:=by rw[List.length_set];exact hk
 rw[zhI hk,zhI hk',List.set_append_right _ _ (by omega),h1,Nat.add_sub_cancel_left,List.set_append_left _ _ (by omega),List.take_set_of_le (Nat.le_refl k),List.getElem_set_self,List.drop_set_of_lt (by omega)]
theorem zoA (h:∀ c∈CL,c.length=sz) {k:Nat} (hk:k<CL.length) {c:List AV} (hc:c.length=sz):ovl CL.flatten (k*sz) c=(CL.set k c).flatten:=by
 have h1:(CL.take k).flatten.length=k*sz:=by rw[zdp fun c hc=>h c (List.mem_of_mem_take hc),List.length_take,Nat.min_eq_left (by omega)]
 have h2:=h CL[k] (List.getElem_mem hk);have h3:(k+1)*sz<=CL.length*sz:=Nat.mul_le_mul_right _ hk;have h4:(k+1)*sz=k*sz+sz:=by rw[Nat.add_mul,Nat.one_mul]
 have hk':k<(CL.set k c).length:=by rw[List.length_set];exact hk
 rw[zir _ _ _ (by rw[zdp h,hc];omega),zhI hk',List.take_set_of_le (Nat.le_refl k),List.getElem_set_self,List.drop_set_of_lt (by omega),hc,zsc h k (by omega),List.append_assoc,<-h4,znk h (k+1) (by omega)]
theorem zkY (f:Nat->Option (List AV)):∀ CL:List (List AV),zaT f CL.flatten=(CL.map (zaT f)).flatten
 |[]=>rfl
 |c::r=>by
  have ha:∀ xs ys:List AV,zaT f (xs++ys)=zaT f xs++zaT f ys:=fun xs ys=>by
   induction xs with
   |nil=>simp only[zaT,List.nil_append]
   |cons x xs ih=>simp only[zaT,List.cons_append,ih]
  rw[List.flatten_cons,ha,zkY f r,List.map_cons,List.flatten_cons]
end
def Srt (τ:List (Nat×AO)):Prop:=τ.Pairwise fun p q=>p.1<q.1
theorem zgk {k:Nat} {x:AO} {p:Nat×AO}:∀ {τ:List (Nat×AO)},p∈sput τ k x->p=(k,x)\/p∈τ
 |[],h=>by simp[sput]at h;exact .inl h
 |(j,o)::τ,h=>by
  simp only[sput]at h;split at h
  ·rcases List.mem_cons.1 h with h|h
   ·exact .inl h
   ·exact .inr (by simp[h])
  ·split at h
   ·rcases List.mem_cons.1 h with h|h
    ·exact .inl h
    ·exact .inr h
   ·rcases List.mem_cons.1 h with h|h
    ·exact .inr (by simp[h])
    ·rcases zgk h with h|h
     ·exact .inl h
     ·exact .inr (by simp[h])
theorem Srt.put {k:Nat} {x:AO}:∀ {τ:List (Nat×AO)},Srt τ->Srt (sput τ k x)
 |[],_=>by simp[sput,Srt]
 |(j,o)::τ,h=>by
  have h1:=List.pairwise_cons.1 h;simp only[sput];split
  ·rename_i e
   subst e;exact List.pairwise_cons.2 ⟨h1.1,h1.2⟩
  ·split
   ·refine List.pairwise_cons.2 ⟨fun p hp=>?_,h⟩
    rcases List.mem_cons.1 hp with e|e
    ·subst e;assumption
    ·have:=h1.1 p e
     simp only at this |-
     omega
   ·refine List.pairwise_cons.2 ⟨fun p hp=>?_,Srt.put h1.2⟩
    rcases zgk hp with e|e
    ·subst e;simp only;omega
    ·exact h1.1 p e
theorem Srt.get {p:Nat×AO}:∀ {τ:List (Nat×AO)},Srt τ->p∈τ->zah τ p.1=some p.2
 |[],_,h=>nomatch h
 |(j,o)::τ,h,hp=>by
  have h1:=List.pairwise_cons.1 h;rcases List.mem_cons.1 hp with e|e
  ·subst e;simp[zah]
  ·have:=h1.1 p e
   simp only at this;rw[zah,if_neg (by omega)]
   exact Srt.get h1.2 e
theorem zh2 {n:Nat}:∀ {τ:List (Nat×AO)},(∀ p∈τ,p.1<n/\p.2.bound<=n)->zax τ<=n
 |[],_=>Nat.zero_le _
 |(j,o)::τ,h=>by
  have h1:=h (j,o) (by simp)
  have h2:=zh2 (τ:=τ) (n:=n) fun p hp=>h p (by simp[hp])
  simp only[zax]at h1 |-
  unfold mx
  repeat' split
  all_goals omega
theorem Mid.sput {τ:List (Nat×AO)} {lo hi k:Nat} {x:AO} (h:Mid τ lo hi) (hs:Srt τ) (h1:lo<=k) (h2:k<hi) (hx:x.bound<=hi):Mid (sput τ k x) lo hi :=
 ⟨fun p hp=>by
  rcases zgk hp with e|e
  ·subst e;exact ⟨h1,h2⟩
  ·exact h.keys p e,zh2 fun p hp=>by
  rcases zgk hp with e|e
  ·subst e;exact ⟨h2,hx⟩
  ·exact ⟨(h.keys p e).2,Nat.le_trans (zau τ p.1 p.2 (hs.get e)).2 h.bd⟩⟩
theorem zp9 {k:Nat} {x:AO} (r:List (Nat×AO)):∀ {τ:List (Nat×AO)},(∃ o,zah τ k=some o)->sput (tl τ r) k x=tl (sput τ k x) r
 |[],⟨o,h⟩=>by simp[zah]at h
 |(j,y)::τ,⟨o,h⟩=>by
  simp only[tl,List.cons_append,sput];split
  ·rfl
  ·rename_i e
   rw[zah,if_neg e]at h;split
   ·rfl
   ·have:=zp9 (x:=x) r (τ:=τ) ⟨o,h⟩
    simp only[tl]at this;rw[this,List.cons_append]
theorem Srt.sh (c:Nat):∀ {τ:List (Nat×AO)},Srt τ->Srt (shS c τ)
 |[],_=>List.Pairwise.nil
 |(j,o)::τ,h=>by
  have h1:=List.pairwise_cons.1 h;simp only[shS];refine List.pairwise_cons.2 ⟨fun p hp=>?_,Srt.sh c h1.2⟩
  have:=zj8 (lo:=j+1) (hi:=zax τ+j+2) c τ (fun q hq=>⟨h1.1 q hq,by have:=(zau τ q.1 q.2 (Srt.get h1.2 hq)).1;omega⟩) p hp
  simp only;omega
section
variable {φ:List (Nat×AV)} {σ:List (Nat×AO)} {K:AV->Prop} {tk:Tok K}
def cpT (x:AV) (K:AV->Prop) (_:Tok K):Prop:=match x with|.s0 _=>K (.i .i64 0)|_=>False
theorem av_cap (x:Opd):avT φ σ (.cap x) K tk=cpT (ev φ x) K .mk:=rfl
theorem cp_0 (sz:Nat):cpT (.s0 sz) K tk=K (.i .i64 0):=rfl
theorem av_look (m k:Opd):avT φ σ (.look m k) K tk=zcR (zmi σ (ev φ m) (ev φ k)) K:=rfl
def lkR (o:Option AO) (a:Int):Option AV:=match o with|some (.imap kvs)=>some (.i .i64 (zhl kvs a))|_=>none
theorem lk_m (l:Nat) (a:Int):zmi σ (.mp l) (.i .i64 a)=lkR (zah σ l) a:=by unfold zmi lkR;rfl
theorem lkR_m (kvs:List (Int×Int)) (a:Int):lkR (some (.imap kvs)) a=some (.i .i64 (zhl kvs a)):=rfl
theorem s0_01 (sz sz':Nat) (k:IntKind) (h:Int):scT σ (.s0 sz') none (some (.i k h)) none sz K tk=ob (h=0) (K (.s0 sz)):=rfl
theorem zd8:∀ (xs ys:List AV),zab (xs++ys)=mx (zab xs) (zab ys)
 |[],ys=>by
  simp only[List.nil_append,zab];unfold mx;split<;>omega
 |x::xs,ys=>by
  simp only[List.cons_append,zab,zd8 xs ys];unfold mx;split<;>split<;>(try split)<;>(try split)<;>omega
attribute [go_sem] zd8 av_cap cp_0 av_look lk_m lkR_m s0_01
end
end Go.Eng
namespace Go.Lev
open Go.Eng
theorem zkz {α:Type} [Inhabited α] (f:α->Int) {l:List α} (hn:(l.map f).Nodup) {i j:Nat} (hi:i<l.length) (hj:j<l.length) (e:f (nth l i)=f (nth l j)):i=j:=by
 have:=List.nodup_iff_pairwise_ne.1 hn;rcases Nat.lt_trichotomy i j with hlt|he|hlt
 ·have:=List.pairwise_iff_getElem.1 this i j (by simpa using hi) (by simpa using hj) hlt
  simp only[List.getElem_map]at this;rw[<-zay hi,<-zay hj]at this;exact absurd e this
 ·exact he
 ·have:=List.pairwise_iff_getElem.1 this j i (by simpa using hj) (by simpa using hi) hlt
  simp only[List.getElem_map]at this;rw[<-zay hi,<-zay hj]at this;exact absurd e.symm this
theorem zbN {α:Type} [Inhabited α] {l:List α} {x:α} (h:x∈l):∃ k,k<l.length/\nth l k=x:=by
 obtain ⟨k,hk,e⟩:=List.mem_iff_getElem.1 h;exact ⟨k,hk,by rw[zay hk];exact e⟩
def zjT:List AV:=[.n 0,.s0 1,.n 0,.n 0,.n 0,.n 0,.n 0,.n 0]
theorem of_ar {n:Nat} {e:Sh} {d:D} (h:Sh.ok (.ar n e) d):∃ l,d=.l l/\l.length=n/\∀ x∈l,Sh.ok e x:=by
 cases d with
 |l l=>exact ⟨l,rfl,by simpa only[Sh.ok] using h⟩
 |t _=>exact h.elim
 |n _=>exact h.elim
theorem arg_arr2 {d:D} (h:Sh.ok (.ar 2 (.i .i64)) d):∃ a b:Int,Sh.arg (.ar 2 (.i .i64)) d=.agg [.n a,.n b]:=by
 obtain ⟨l,rfl,hl,h⟩:=of_ar h
 match l,hl,h with
 |[x,y],_,h =>
  obtain ⟨a,rfl,_⟩:=zbI (h x (by simp))
  obtain ⟨b,rfl,_⟩:=zbI (h y (by simp))
  exact ⟨a,b,rfl⟩
theorem arg_bool {d:D} (h:Sh.ok .b d):∃ t,Sh.arg .b d=.b t:=by
 cases d with
 |t t=>exact ⟨t,rfl⟩
 |l _=>exact h.elim
 |n _=>exact h.elim
set_option maxRecDepth 10000
set_option maxHeartbeats 4000000
variable {P:Program} {inv:Nat->Option Nat}
def kept (a b:State):Bool:=zaW keptSw a.switches b.switches&&zaW keptLk a.locks b.locks
end Go.Lev
