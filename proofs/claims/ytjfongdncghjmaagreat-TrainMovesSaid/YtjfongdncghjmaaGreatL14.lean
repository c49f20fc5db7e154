/-
  Contracts of functions. Conditions: those that each theorem names.
-/
import Derived.Test.YtjfongdncghjmaaGreatL11
set_option linter.unusedSimpArgs false
set_option linter.unusedVariables false
set_option linter.unusedSectionVars false
namespace Go.Lev
open Go.Eng
set_option maxRecDepth 10000
set_option maxHeartbeats 4000000
variable {P:Program} {inv:Nat->Option Nat} {w0:World} {M:Nat->Prop}
theorem is267_pc (hH:HasAll P inv) (n:Int) (x:Track):PC P inv 267 ([.agg x.c]++[.ip 1 [[.n n]] 0 0]) (·=.b (decide (x.id=n))):=by
 refine wf hH cd267 fun w0 M Q hM hE hQ hR=>?_;refine wq ?_
 (repeat' first|refine zaa kD fun K hK=>?_|exact wt|refine wA ?_|(refine wB ?_ ?_<;>intro h<;>first|exact wN h|subst (h:(_:Bool)=_)|skip)|(refine wQ ?_;clear hQ hR hE hM)|fail)
theorem is269_pc (hH:HasAll P inv) (n:Int) (x:Join):PC P inv 269 ([.agg x.c]++[.ip 1 [[.n n]] 0 0]) (·=.b (decide (x.to=n))):=by
 refine wf hH cd269 fun w0 M Q hM hE hQ hR=>?_;refine wq ?_
 (repeat' first|refine zaa kD fun K hK=>?_|exact wt|refine wA ?_|(refine wB ?_ ?_<;>intro h<;>first|exact wN h|subst (h:(_:Bool)=_)|skip)|(refine wQ ?_;clear hQ hR hE hM)|fail)
theorem zrj {s:State} {n:Int} (h:∀ x∈s.tracks,x.id≠n):zd2 s n=2:=by
 unfold zd2;rw[List.find?_eq_none.2 fun x hx=>by simpa using h x hx]
theorem zfd (hH:HasAll P inv) (p:Pln) (s:State) (hs:SmS s) (hst:zav p s=0) (n:Int):PC P inv 249 [.agg (stn p s),.n n] (·=.i .u8 (zd2 s n)):=by
 have c1:=idx_trk hH s.tracks (fun x _=>is267_pc hH n x) (by have:=hs.1;omega)
 have hl1:=hs.1;unfold stn;rcases zcb Track.id n s.tracks with ⟨h4,hno⟩|⟨m,hm,h4,h5⟩
 ·rw[h4]at c1
  rw[zrj hno];refine wf hH cd249 fun w0 M Q hM hE hQ hR=>?_;refine wq ?_
  (repeat' first|refine zaa [0,1,2,3,4,5,12] fun K hK=>?_|exact wt|refine wA ?_|(refine wB ?_ ?_<;>intro h<;>first|exact wN h|subst (h:(_:Bool)=_)|skip)|(refine wQ ?_;clear hQ hR hE hM)|refine wS c1 ?_|fail)
  all_goals first|rfl|(exfalso;contradiction)
 ·rw[h4]at c1
  rw[<-h5,isOf_at2 (zar hst) (zam hst).2.1 hm];rw[<-h5]at c1;refine wf hH cd249 fun w0 M Q hM hE hQ hR=>?_;refine wq ?_
  (have hX:=zA @h5 @Int.toNat_natCast;(repeat' first|refine zaa [0,1,2,3,4,5,12] fun K hK=>?_|exact wt|refine wA ?_|(refine wB ?_ ?_<;>intro h<;>first|exact wN h|subst (h:(_:Bool)=_)|skip)|(refine wQ ?_;clear hQ hR hE hM)|refine wS c1 ?_|fail);all_goals clear hX)
  all_goals first|rfl|(exfalso;contradiction)|(exfalso;omega)
theorem zn7 (hH:HasAll P inv) (p:Pln) (s:State) (hs:SmS s) (n:Int):PC P inv 261 [.agg (stn p s),.n n] (·=.n (zeu s n)):=by
 have hl2:=hs.2.1;unfold stn zeu;refine wf hH cd261 fun w0 M Q hM hE hQ hR=>?_;refine wq ?_
 (repeat' first|refine zaa yX fun K hK=>?_|exact wt|refine wA ?_|(refine wB ?_ ?_<;>intro h<;>first|exact wN h|subst (h:(_:Bool)=_)|skip)|(refine wQ ?_;clear hQ hR hE hM)|fail)
 refine zaj (ι:=Nat) [1,4,9,10,11] (fun z=>[(11,.n z)]) (fun _=>[]) (fun z=>z) (s.switches.length) (fun z=>((s.switches.drop z).find? (fun t=>decide (t.id=n))=s.switches.find? (fun t=>decide (t.id=n)))) (0) ?_;rintro k ⟨hk,hg⟩;(try dsimp only at hk hg |-);rcases Nat.lt_or_ge k s.switches.length with hlt|hge
 ·rw[zae hlt,List.find?_cons]at hg
  by_cases h1:(nth s.switches k).id=n
  ·rw[decide_eq_true h1]at hg
   have h2:decide ((nth s.switches k).id=n)=true:=decide_eq_true h1;(have hX:=@h2;(repeat' first|refine zaa yX fun K hK=>?_|exact wt|refine wA ?_|(refine wB ?_ ?_<;>intro h<;>first|exact wN h|subst (h:(_:Bool)=_)|skip)|(refine wQ ?_;clear hQ hR hE hM)|fail);all_goals clear hX)
   all_goals first|(exfalso;contradiction)|(rw[<-hg];done)|(rw[<-hg];rfl)
  ·rw[decide_eq_false h1]at hg
   have h2:decide ((nth s.switches k).id=n)=false:=decide_eq_false h1;(have hX:=@h2;(repeat' first|refine zaa yX fun K hK=>?_|exact wt|refine wA ?_|(refine wB ?_ ?_<;>intro h<;>first|exact wN h|subst (h:(_:Bool)=_)|skip)|(refine wQ ?_;clear hQ hR hE hM)|fail);all_goals clear hX)
   all_goals first|(exfalso;contradiction)|exact ⟨k+1,by omega,⟨by omega,hg⟩,by omega⟩
 ·rw[List.drop_eq_nil_of_le hge,List.find?_nil]at hg
  (repeat' first|refine zaa yX fun K hK=>?_|exact wt|refine wA ?_|(refine wB ?_ ?_<;>intro h<;>first|exact wN h|subst (h:(_:Bool)=_)|skip)|(refine wQ ?_;clear hQ hR hE hM)|fail)
  all_goals first|(rw[<-hg];done)|(rw[<-hg];rfl)
theorem zpk (hH:HasAll P inv) (p:Pln) (hp:Sm p) (ho:OkP p) (s:State) (a b:Int):PC P inv 250 [.agg (stn p s),.n a,.n b] (·=.b (zdk p a b)):=by
 have hen:∀ x∈p.sections,x.ends.length<=3:=fun x hx=>(zaP ho.sec x hx).2.2.2.2
 have c1:=zdC hH p.sections a (Nat.le_trans hp.sec (by omega)) (fun x hx=>Nat.le_trans (hen x hx) (by omega))
 unfold stn zdk;have hel:(zaz p.sections a).1.ends.length<=1000000000:=by
  unfold zaz
  repeat' split
  ·simp[zbf]
  ·by_cases h:(zdd a 0 p.sections).toNat<p.sections.length
   ·exact Nat.le_trans (hen _ (zac h)) (by omega)
   ·rw[show nth p.sections (zdd a 0 p.sections).toNat=default by unfold nth;simp[h]];decide
  ·simp[zbf]
 have c2:=any_jon hH (zaz p.sections a).1.ends (fun x _=>is269_pc hH b x) hel
 generalize (zaz p.sections a).2=e at *;generalize (zaz p.sections a).1=S at *;generalize (S.ends.any fun j=>decide (j.to=b))=t at *
 by_cases he:e=0
 ·subst he
  refine wf hH cd250 fun w0 M Q hM hE hQ hR=>?_;refine wq ?_
  (repeat' first|refine zaa [0,1,2,3,5,6,7,8] fun K hK=>?_|exact wt|refine wA ?_|(refine wB ?_ ?_<;>intro h<;>first|exact wN h|subst (h:(_:Bool)=_)|skip)|(refine wQ ?_;clear hQ hR hE hM)|refine wC c1 ?_|refine wS c2 ?_|fail)
  all_goals first|rfl|(exfalso;contradiction)|(simp;done)
 ·have z:=decide_eq_false he
  rw[z,Bool.false_and];refine wf hH cd250 fun w0 M Q hM hE hQ hR=>?_;refine wq ?_
  (have hX:=@z;(repeat' first|refine zaa [0,1,2,3,5,6,7,8] fun K hK=>?_|exact wt|refine wA ?_|(refine wB ?_ ?_<;>intro h<;>first|exact wN h|subst (h:(_:Bool)=_)|skip)|(refine wQ ?_;clear hQ hR hE hM)|refine wC c1 ?_|fail);all_goals clear hX)
  all_goals first|rfl|(exfalso;contradiction)
theorem zp6 (hH:HasAll P inv) (hI:HasIds P inv) (p:Pln) (hp:Sm p) (a b:Int):PC P inv 270 [.agg p.c,.n a,.n b] (·=.tup [.n (zhQ p a b),.n (stC p a b)]):=by
 have c1:=zeN hH hI p hp;have hsl:=hp.sgn;unfold zci at c1;unfold zhQ stC;cases ho:zbx p with
 |false =>
  rw[ho]at c1;simp only[Bool.false_eq_true,if_false]at c1 |-
  rw[if_neg (by decide)]
  refine wf hH cd270 fun w0 M Q hM hE hQ hR=>?_;refine wq ?_
  (repeat' first|refine zaa km fun K hK=>?_|exact wt|refine wA ?_|(refine wB ?_ ?_<;>intro h<;>first|exact wN h|subst (h:(_:Bool)=_)|skip)|(refine wQ ?_;clear hQ hR hE hM)|refine wC c1 ?_|fail)
  all_goals first|rfl|(exfalso;contradiction)
 |true =>
  have c2:=ziw hH p.sections a b (Nat.le_trans hp.sec (by omega)) (fun x hx=>Nat.le_trans (zaP (zfx ho).sec x hx).2.2.2.2 (by omega))
  rw[ho]at c1;rw[if_pos rfl];rw[if_pos rfl]at c1;generalize (za0 p.sections a b).2=e at *;by_cases he:e=0
  ·subst he
   rw[if_pos rfl];refine wf hH cd270 fun w0 M Q hM hE hQ hR=>?_;refine wq ?_
   (repeat' first|refine zaa km fun K hK=>?_|exact wt|refine wA ?_|(refine wB ?_ ?_<;>intro h<;>first|exact wN h|subst (h:(_:Bool)=_)|skip)|(refine wQ ?_;clear hQ hR hE hM)|refine wC c1 ?_|refine wC c2 ?_|fail)
   all_goals first|(exfalso;contradiction)|skip
   refine zaj (ι:=Nat×Int) [1,2,6,7,25,26,27] (fun z=>[(6,.n z.2),(27,.n z.1)]) (fun _=>[]) (fun z=>z.1) (p.signals.length) (fun z=>(sgL a b (p.signals.drop z.1) z.2=sgL a b p.signals 0)) (0,(0:Int)) ?_;rintro ⟨k,v⟩ ⟨hk,hg⟩;(try dsimp only at hk hg |-);rcases Nat.lt_or_ge k p.signals.length with hlt|hge
   ·rw[zae hlt,sgL]at hg
    by_cases h1:(nth p.signals k).sec=a/\(nth p.signals k).ed=b
    ·obtain ⟨w1,w2⟩:=h1
     rw[if_pos ⟨w1,w2⟩]at hg;(have hX:=zA @w1 @w2;(repeat' first|refine zaa km fun K hK=>?_|exact wt|refine wA ?_|(refine wB ?_ ?_<;>intro h<;>first|exact wN h|subst (h:(_:Bool)=_)|skip)|(refine wQ ?_;clear hQ hR hE hM)|fail);all_goals clear hX)
     all_goals first|(exfalso;contradiction)|exact ⟨(k+1,(nth p.signals k).id),by dsimp only;omega,⟨by dsimp only;omega,hg⟩,by dsimp only;omega,rfl⟩|exact ⟨(k+1,(nth p.signals k).id),by dsimp only;omega,⟨by dsimp only;omega,hg⟩,rfl,by dsimp only;omega⟩
    ·rw[if_neg h1]at hg
     by_cases w1:(nth p.signals k).sec=a
     ·have z:=decide_eq_false (fun w2=>h1 ⟨w1,w2⟩)
      (have hX:=zA @w1 @z;(repeat' first|refine zaa km fun K hK=>?_|exact wt|refine wA ?_|(refine wB ?_ ?_<;>intro h<;>first|exact wN h|subst (h:(_:Bool)=_)|skip)|(refine wQ ?_;clear hQ hR hE hM)|fail);all_goals clear hX)
      all_goals first|(exfalso;contradiction)|exact ⟨(k+1,v),by dsimp only;omega,⟨by dsimp only;omega,hg⟩,by dsimp only;omega,rfl⟩|exact ⟨(k+1,v),by dsimp only;omega,⟨by dsimp only;omega,hg⟩,by dsimp only;omega⟩
     ·have z:=decide_eq_false w1
      (have hX:=@z;(repeat' first|refine zaa km fun K hK=>?_|exact wt|refine wA ?_|(refine wB ?_ ?_<;>intro h<;>first|exact wN h|subst (h:(_:Bool)=_)|skip)|(refine wQ ?_;clear hQ hR hE hM)|fail);all_goals clear hX)
      all_goals first|(exfalso;contradiction)|exact ⟨(k+1,v),by dsimp only;omega,⟨by dsimp only;omega,hg⟩,by dsimp only;omega,rfl⟩|exact ⟨(k+1,v),by dsimp only;omega,⟨by dsimp only;omega,hg⟩,by dsimp only;omega⟩
   ·rw[List.drop_eq_nil_of_le hge,sgL]at hg
    (repeat' first|refine zaa km fun K hK=>?_|exact wt|refine wA ?_|(refine wB ?_ ?_<;>intro h<;>first|exact wN h|subst (h:(_:Bool)=_)|skip)|(refine wQ ?_;clear hQ hR hE hM)|fail)
    all_goals first|(rw[<-hg];done)|(rw[<-hg];rfl)
  ·rw[if_neg he]
   refine wf hH cd270 fun w0 M Q hM hE hQ hR=>?_;refine wq ?_
   (repeat' first|refine zaa km fun K hK=>?_|exact wt|refine wA ?_|(refine wB ?_ ?_<;>intro h<;>first|exact wN h|subst (h:(_:Bool)=_)|skip)|(refine wQ ?_;clear hQ hR hE hM)|refine wC c1 ?_|refine wC c2 ?_|fail)
   all_goals first|rfl|(exfalso;contradiction)
theorem zhT (hH:HasAll P inv) (hI:HasIds P inv) (p:Pln) (hp:Sm p) (s:State) (a b:Int):PC P inv 251 [.agg (stn p s),.n a,.n b] (·=.n (zhQ p a b)):=by
 have c1:=zp6 hH hI p hp a b;have hz:¬stC p a b=0->zhQ p a b=0:=fun h9=>by unfold zhQ;rw[if_neg h9]
 unfold stn;generalize zhQ p a b=v at *;generalize stC p a b=e at *;by_cases he:e=0
 ·subst he
  clear hz;refine wf hH cd251 fun w0 M Q hM hE hQ hR=>?_;refine wq ?_
  (repeat' first|refine zaa [0,1,2,3,6,7,8,18] fun K hK=>?_|exact wt|refine wA ?_|(refine wB ?_ ?_<;>intro h<;>first|exact wN h|subst (h:(_:Bool)=_)|skip)|(refine wQ ?_;clear hQ hR hE hM)|refine wC c1 ?_|fail)
  all_goals first|rfl|(exfalso;contradiction)
 ·rw[hz he]at *
  refine wf hH cd251 fun w0 M Q hM hE hQ hR=>?_;refine wq ?_
  (repeat' first|refine zaa [0,1,2,3,6,7,8,18] fun K hK=>?_|exact wt|refine wA ?_|(refine wB ?_ ?_<;>intro h<;>first|exact wN h|subst (h:(_:Bool)=_)|skip)|(refine wQ ?_;clear hQ hR hE hM)|refine wC c1 ?_|fail)
  all_goals first|rfl|(exfalso;contradiction)
theorem zmQ (hH:HasAll P inv) (hI:HasIds P inv) (p:Pln) (hp:Sm p) (s:State) (hs:SmS s) (hst:zav p s=0) (n:Int):PC P inv 275 [.agg (stn p s),.n n] (·=.n (prId p s n)):=by
 have ho:=zar hst;have hrl:=hp.rte;have dR:∀ i,i<p.routes.length->PC P inv 198 [.agg p.c,.agg s.c,.n (nth p.routes i).id] (·=.tup [.b (zdh p s (nth p.routes i)),.n 0]):=fun i hi=>by
  have h1:=zkr hH hI p hp s hs (nth p.routes i).id;have h2:=prC_at hst (zrg ho hi:rtIx p (nth p.routes i).id=(i:Int));rw[h2.1,h2.2]at h1;exact h1
 unfold stn prId goX;clear hst ho;refine wf hH cd275 fun w0 M Q hM hE hQ hR=>?_;refine wq ?_
 (repeat' first|refine zaa yJ fun K hK=>?_|exact wt|refine wA ?_|(refine wB ?_ ?_<;>intro h<;>first|exact wN h|subst (h:(_:Bool)=_)|skip)|(refine wQ ?_;clear hQ hR hE hM)|fail)
 refine zaj (ι:=Nat) [1,2,4,11,12,13] (fun z=>[(13,.n z)]) (fun _=>[]) (fun z=>z) (p.routes.length) (fun z=>(za1 (fun r=>decide (r.entry=n)&&zdh p s r) z (p.routes.drop z)=za1 (fun r=>decide (r.entry=n)&&zdh p s r) 0 p.routes)) (0) ?_;rintro k ⟨hk,hg⟩;(try dsimp only at hk hg |-);rcases Nat.lt_or_ge k p.routes.length with hlt|hge
 ·have hk9:k<p.routes.length:=by assumption
  rw[zae hlt,za1]at hg;have d1:=dR k hk9;by_cases h1:(nth p.routes k).entry=n
  ·rw[decide_eq_true h1,Bool.true_and]at hg
   cases hv:zdh p s (nth p.routes k) with
   |true =>
    rw[hv]at hg d1;simp only[if_true]at hg;(have hX:=@h1;(repeat' first|refine zaa yJ fun K hK=>?_|exact wt|refine wA ?_|(refine wB ?_ ?_<;>intro h<;>first|exact wN h|subst (h:(_:Bool)=_)|skip)|(refine wQ ?_;clear hQ hR hE hM)|refine wC d1 ?_|fail);all_goals clear hX)
    all_goals first|(exfalso;contradiction)|(rw[<-hg,if_neg (by omega),Int.toNat_natCast];done)|(rw[<-hg,if_neg (by omega),Int.toNat_natCast];rfl)
   |false =>
    rw[hv]at hg d1;simp only[Bool.false_eq_true,if_false]at hg;(have hX:=@h1;(repeat' first|refine zaa yJ fun K hK=>?_|exact wt|refine wA ?_|(refine wB ?_ ?_<;>intro h<;>first|exact wN h|subst (h:(_:Bool)=_)|skip)|(refine wQ ?_;clear hQ hR hE hM)|refine wC d1 ?_|fail);all_goals clear hX)
    all_goals first|(exfalso;contradiction)|exact ⟨k+1,by omega,⟨by omega,hg⟩,by omega⟩
  ·have z:=decide_eq_false h1
   rw[z,Bool.false_and]at hg;simp only[Bool.false_eq_true,if_false]at hg;(have hX:=@z;(repeat' first|refine zaa yJ fun K hK=>?_|exact wt|refine wA ?_|(refine wB ?_ ?_<;>intro h<;>first|exact wN h|subst (h:(_:Bool)=_)|skip)|(refine wQ ?_;clear hQ hR hE hM)|fail);all_goals clear hX)
   all_goals first|(exfalso;contradiction)|exact ⟨k+1,by omega,⟨by omega,hg⟩,by omega⟩
 ·rw[List.drop_eq_nil_of_le hge,za1]at hg
  (repeat' first|refine zaa yJ fun K hK=>?_|exact wt|refine wA ?_|(refine wB ?_ ?_<;>intro h<;>first|exact wN h|subst (h:(_:Bool)=_)|skip)|(refine wQ ?_;clear hQ hR hE hM)|fail)
  all_goals first|(exfalso;contradiction)|(rw[<-hg,if_pos (by decide)];done)|(rw[<-hg,if_pos (by decide)];rfl)
set_option maxHeartbeats 8000000
theorem zoP (hH:HasAll P inv) (hI:HasIds P inv) (p:Pln) (hp:Sm p) (s:State) (hs:SmS s) (hst:zav p s=0) (t:TrainD):PC P inv 229 [.agg (stn p s),.agg t.c] (·=.b (trF p s t)):=by
 have ho:=zar hst;have hen:∀ x∈p.sections,x.ends.length<=3:=fun x hx=>(zaP ho.sec x hx).2.2.2.2
 have cf:=fun n=>zdC hH p.sections n (Nat.le_trans hp.sec (by omega)) (fun x hx=>Nat.le_trans (hen x hx) (by omega))
 have ck:=fun n=>zfd hH p s hs hst n
 have cl:=fun a b=>zpk hH p hp ho s a b
 have c1:=zhN hH (zaz p.sections (nth t.secs 0)).1 t.fr t.ed;have c2:=zk9 hH hI p hp t.rt;have c3:=zhi hH hI p hp t.nx;have c4:=zhT hH hI p hp s (nth t.secs 0) t.ed;obtain ⟨X,hF⟩:∃ X,trF p s t=X:=⟨_,rfl⟩;rw[hF];unfold trF trG trE at hF;unfold stn at ck cl c4 |-
 generalize ofW p t.rt=W at *;generalize zdJ p t.nx=R at *;generalize zhQ p (nth t.secs 0) t.ed=sg at *;clear hst ho hen;refine wf hH cd229 fun w0 M Q hM hE hQ hR=>?_;refine wq ?_
 skip
 (repeat' first|refine zaa yY fun K hK=>?_|exact wt|refine wA ?_|(refine wE ?_ ?_<;>intro h0 h<;>first|exact wN h|((try replace hF:=wX hF);clear h0;first|exact hF.elim|((try subst (h:(_:Bool)=_));try replace hF:=wX hF)))|(refine wQ ?_;clear hQ hR hE hM)|fail)
 all_goals first|(exfalso;contradiction)|exact hF|exact congrArg AV.b hF|skip
 refine zaI hF fun Bd Ed hBd hEd hF=>?_;refine zaj (ι:=Nat) [2,3,4,39,40,41] (fun z=>[(41,.n z)]) (fun _=>[]) (fun z=>z) (t.secs.length) (fun z=>(zaZ Bd Ed (t.secs.length-z) z ()=X)) (0) ?_;rintro i ⟨hk,hF⟩;(try dsimp only at hk hF |-);rcases Nat.lt_or_ge i t.secs.length with hlt|hge
 ·rw[zas hBd hlt]at hF;(try dsimp only at hF)
  have hi9:i<t.secs.length:=by assumption
  have d1:=cf (nth t.secs i);have d2:=ck (nth t.secs i);have d3:=cl (nth t.secs (i-1)) (nth t.secs i);have x0:=zcq hi9;have x1:=zcq (show i-1<t.secs.length by omega)
  have x2:((i:Int)-1).toNat=i-1:=by omega
  (have hX:=zA @x0 (zA @x1 @x2);(repeat' first|refine zaa yY fun K hK=>?_|exact wt|refine wA ?_|(refine wE ?_ ?_<;>intro h0 h<;>first|exact wN h|((try replace hF:=wX hF);clear h0;first|exact hF.elim|((try subst (h:(_:Bool)=_));try replace hF:=wX hF)))|(refine wQ ?_;clear hQ hR hE hM)|refine wC d1 ?_|refine wC d2 ?_|refine wC d3 ?_|fail);all_goals clear hX)
  all_goals first|(exfalso;contradiction)|exact hF|exact congrArg AV.b hF|exact nX (i+1)
 ·rw[zaH hge,hEd]at hF;(try dsimp only at hF)
  have hl0:0<t.secs.length:=by omega
  have d1:=cf (nth t.secs 0);have x0:=zcq hl0;by_cases hpl:0<=t.pl/\t.pl<(W.1.path.length:Int)
  ·have x1:=zcq (show t.pl.toNat<W.1.path.length by omega)
   (have hX:=zA @x0 @x1;(repeat' first|refine zaa yY fun K hK=>?_|exact wt|refine wA ?_|(refine wE ?_ ?_<;>intro h0 h<;>first|exact wN h|((try replace hF:=wX hF);clear h0;first|exact hF.elim|((try subst (h:(_:Bool)=_));try replace hF:=wX hF)))|(refine wQ ?_;clear hQ hR hE hM)|refine wC d1 ?_|refine wC c1 ?_|refine wC c2 ?_|refine wC c3 ?_|refine wC c4 ?_|fail);all_goals clear hX)
   all_goals first|(exfalso;contradiction)|(exfalso;omega)|exact hF|exact congrArg AV.b hF
  ·(have hX:=@x0;(repeat' first|refine zaa yY fun K hK=>?_|exact wt|refine wA ?_|(refine wE ?_ ?_<;>intro h0 h<;>first|exact wN h|((try replace hF:=wX hF);clear h0;first|exact hF.elim|((try subst (h:(_:Bool)=_));try replace hF:=wX hF)))|(refine wQ ?_;clear hQ hR hE hM)|refine wC d1 ?_|refine wC c1 ?_|refine wC c2 ?_|refine wC c3 ?_|refine wC c4 ?_|fail);all_goals clear hX)
   all_goals first|(exfalso;contradiction)|(exfalso;omega)|exact hF|exact congrArg AV.b hF
theorem zgf {l:List Section} {n:Int} (h:(zaz l n).2=0):(zaz l n).1∈l/\(zaz l n).1.id=n:=by
 unfold zaz at h |-
 split at h
 ·rename_i hm
  rw[if_pos hm];split at h
  ·simp at h
  ·rename_i hn
   rw[if_neg hn];rcases zcr n l 0 with ⟨e,_⟩|⟨q,hq,e,hid⟩
   ·exact absurd (by rw[e];decide) hn
   ·rw[e]
    have:((0:Nat):Int)+(q:Int)=(q:Int):=by omega
    rw[this,Int.toNat_natCast];exact ⟨zac hq,hid⟩
 ·simp at h
theorem zoR {S:Section} {a b:Int}:(zb5 S a b).2=0↔zcF S=true/\(0<=a/\a<=2)/\(0<=b/\b<=2)/\¬zbE S.pt a b=0:=by
 unfold zb5;by_cases h:zcF S=true
 ·rw[if_pos h]
  by_cases h2:a<0\/2<a\/b<0\/2<b\/zbE S.pt a b=0
  ·rw[if_pos h2]
   exact ⟨fun e=>absurd e (by decide),fun c=>absurd h2 (by rintro (q|q|q|q|q)<;>first|omega|exact c.2.2.2 q)⟩
  ·rw[if_neg h2]
   exact ⟨fun _=>⟨h,by omega,by omega,fun e=>h2 (by simp[e])⟩,fun _=>rfl⟩
 ·rw[if_neg h]
  exact ⟨fun e=>absurd e (by decide),fun c=>absurd c.1 h⟩
theorem zgn (x:TrainD) (r:List TrainD) (t:TrainD):zfe (x::r) t=if x.id<t.id then x::zfe r t else t::x::r:=by
 unfold zfe;by_cases h:x.id<t.id
 ·rw[if_pos h];simp[h]
 ·rw[if_neg h];simp[h]
theorem zog (t:TrainD):∀ (l:List TrainD),(zfe l t).length=l.length+1
 |[]=>by simp[zfe]
 |y::r=>by rw[zgn];split<;>simp[zog t r]
theorem zku {p:Pln} {s:State} (h:zav p s=0):zbx p=true:=by
 unfold zav at h;split at h
 ·rename_i h1
  simp only[zbk,Bool.and_eq_true]at h1;exact h1.1
 ·exact absurd h (by decide)
theorem zkC {p:Pln} {n a b:Int} (hf:(zaz p.sections n).2=0) (h:(zb5 (zaz p.sections n).1 a b).2=0):(za0 p.sections n a).2=0:=by
 obtain ⟨h1,h2,h3,h4⟩:=zoR.1 h;unfold za0 nextS;rw[if_pos hf];have key:¬(a<0\/((zaz p.sections n).1.ends.length:Int)<=a):=by
  rintro (h5|h5)
  ·omega
  ·rw[zdZ]at h1
   unfold zbh at h1;by_cases hp:(zaz p.sections n).1.pt=0
   ·rw[if_pos hp]at h1
    simp only[decide_eq_true_eq]at h1;unfold zbE at h4;rw[if_pos hp]at h4;apply h4;rw[if_neg];rintro (⟨q,_⟩|⟨q,_⟩)<;>omega
   ·rw[if_neg hp]at h1
    simp only[Bool.and_eq_true,decide_eq_true_eq]at h1;omega
 rw[if_neg key]
theorem ofW0 {p:Pln} (h:zbx p=true):¬(ofW p 0).2=0:=by
 unfold ofW;rw[if_pos h];cases e:p.routes.find? fun x=>decide (x.id=0) with
 |none=>(show ¬(6:Int)=0;decide)
 |some r =>
  have h1:=List.mem_of_find?_eq_some e;have h2:=List.find?_some e;simp only[decide_eq_true_eq]at h2;have h3:=((zdA _ _).1 (zfx h).rise).1 r.id (List.mem_map_of_mem h1);omega
def insW (t:TrainD):Bool->List TrainD->List TrainD
 |d,[]=>if d=true then [] else [t]
 |d,x::r=>if d=false/\t.id<x.id then t::x::insW t true r else x::insW t d r
theorem zlO (t:TrainD):∀ l:List TrainD,insW t true l=l
 |[]=>rfl
 |x::r=>by rw[insW,if_neg (by simp),zlO t r]
theorem zrt (t:TrainD):∀ l:List TrainD,(∀ x∈l,x.id≠t.id)->insW t false l=zfe l t
 |[],_=>rfl
 |x::r,h=>by
  have h1:=h x (by simp)
  rw[insW,zgn];by_cases h2:t.id<x.id
  ·rw[if_pos ⟨rfl,h2⟩,if_neg (by omega),zlO]
  ·rw[if_neg (by simp[h2]),if_pos (by omega),zrt t r fun y hy=>h y (by simp[hy])]
def bsT (l:List TrainD) (n:Int) (i j:Nat):Nat :=
 if _h:i<j then if (nth l ((i+j) / 2)).id-n<0 then bsT l n ((i+j) / 2+1) j else bsT l n i ((i+j) / 2) else i
termination_by j-i
theorem zoD {l:List TrainD} {n:Int} {i j:Nat} (h:i<j):bsT l n i j=if (nth l ((i+j) / 2)).id-n<0 then bsT l n ((i+j) / 2+1) j else bsT l n i ((i+j) / 2):=by
 rw[bsT,dif_pos h]
theorem zk2 {l:List TrainD} {n:Int} {i:Nat}:bsT l n i i=i:=by rw[bsT,dif_neg (by omega)]
theorem zrD {l:List TrainD} (h:(l.map (·.id)).Pairwise (· < ·)) {i k:Nat} (hik:i<k) (hk:k<l.length):(nth l i).id<(nth l k).id:=by
 rw[List.pairwise_map]at h;exact (zek.1 h) k hk i hik
theorem bsT_spec {l:List TrainD} (h:(l.map (·.id)).Pairwise (· < ·)) (n:Int):∀ (m i j:Nat),j-i<=m->i<=j->j<=l.length->(∀ q,q<i->(nth l q).id<n)->(∀ q,j<=q->q<l.length->n<=(nth l q).id) ->
  bsT l n i j<=l.length/\(∀ q,q<bsT l n i j->(nth l q).id<n)/\∀ q,bsT l n i j<=q->q<l.length->n<=(nth l q).id:=by
 intro m
 induction m with
 |zero =>
  intro i j hm hij hj h1 h2;obtain rfl:i=j:=by omega
  rw[zk2];exact ⟨hj,h1,h2⟩
 |succ m ih =>
  intro i j hm hij hj h1 h2;rcases Nat.lt_or_ge i j with hlt|hge
  ·rw[zoD hlt]
   split
   ·rename_i hc
    refine ih _ _ (by omega) (by omega) hj (fun q hq=>?_) h2
    rcases Nat.lt_or_ge q ((i+j) / 2) with h3|h3
    ·have:=zrD h h3 (show (i+j) / 2<l.length by omega);omega
    ·obtain rfl:q=(i+j) / 2:=by omega
     omega
   ·rename_i hc
    refine ih _ _ (by omega) (by omega) (by omega) h1 (fun q hq hql=>?_)
    rcases Nat.lt_or_ge ((i+j) / 2) q with h3|h3
    ·have:=zrD h h3 hql;omega
    ·obtain rfl:q=(i+j) / 2:=by omega
     omega
  ·obtain rfl:i=j:=by omega
   rw[zk2];exact ⟨hj,h1,h2⟩
theorem zru {t:TrainD}:∀ (l:List TrainD) (k:Nat),k<=l.length->(∀ q,q<k->(nth l q).id<t.id)->(∀ q,k<=q->q<l.length->t.id<=(nth l q).id)->zfe l t=l.take k++t::l.drop k
 |[],k,hk,_,_=>by
  obtain rfl:k=0:=by simpa using hk
  simp[zfe]
 |x::r,0,_,_,h2=>by
  rw[zgn,if_neg]
  ·rfl
  ·have:t.id<=x.id:=h2 0 (Nat.le_refl _) (by simp)
   omega
 |x::r,k+1,hk,h1,h2=>by
  have h0:x.id<t.id:=h1 0 (by omega)
  rw[zgn,if_pos h0,zru r k (by simpa using hk) (fun q hq=>h1 (q+1) (by omega)) (fun q hq hql=>h2 (q+1) (by omega) (by simpa using hql))]
  rfl
theorem insT_bs {l:List TrainD} (h:(l.map (·.id)).Pairwise (· < ·)) (t:TrainD):bsT l t.id 0 l.length<=l.length/\zfe l t=l.take (bsT l t.id 0 l.length)++t::l.drop (bsT l t.id 0 l.length):=by
 have:=bsT_spec h t.id l.length 0 l.length (by omega) (by omega) (Nat.le_refl _) (fun q hq=>absurd hq (by omega)) (fun q hq hql=>by omega)
 exact ⟨this.1,zru l _ this.1 this.2.1 this.2.2⟩
theorem zm4 {p:Pln} {s:State} (ho:OkP p) (h:zan p s=true) {k:Nat} (hk:k<s.tracks.length):zd2 s (nth s.tracks k).id=(nth s.tracks k).is:=by
 unfold zd2;rw[zhE Track.id (by rw[zmq h];exact zlm ho) hk rfl]
theorem zoa {p:Pln} {n:Int} (h:zri p n=true):∃ k,k<p.points.length/\(nth p.points k).id=n:=by
 obtain ⟨x,hx,e⟩:=List.any_eq_true.1 h;obtain ⟨k,hk,rfl⟩:=zbN hx;exact ⟨k,hk,by simpa using e⟩
theorem zrU {p:Pln} {s:State} (ho:OkP p) (h:zan p s=true) (n:Int):frT s n=decide (zd2 s n=0):=by
 rw[Bool.eq_iff_iff,decide_eq_true_eq];constructor
 ·intro h1
  obtain ⟨x,hx,e⟩:=List.any_eq_true.1 h1;simp only[Bool.and_eq_true,decide_eq_true_eq]at e;obtain ⟨k,hk,rfl⟩:=zbN hx;rw[e.1,zm4 ho h hk];exact e.2.symm
 ·intro h1
  unfold zd2 at h1;cases e:s.tracks.find? fun t=>decide (t.id=n) with
  |none=>rw[e]at h1;exact absurd h1 (by decide)
  |some t =>
   rw[e]at h1;have h2:=List.find?_some e;exact List.any_eq_true.2 ⟨t,List.mem_of_find?_eq_some e,by
    simp only[Bool.and_eq_true,decide_eq_true_eq];exact ⟨(show t.id=n by simpa using h2).symm,h1.symm⟩⟩
theorem zj0 {p:Pln} {s:State} (h:zan p s=true) {k:Nat} (hk:k<s.switches.length):(nth s.switches k).id=(nth p.points k).id:=by
 have:=(ze0 _ _ _).1 (by simp only[zan,Bool.and_eq_true]at h;exact h.2.1)
 have:=this.2 k hk;simp only[zjb,Bool.and_eq_true,decide_eq_true_eq]at this;exact this.1
theorem ofW_at {p:Pln} {s:State} (h:zav p s=0) {i:Nat} (hi:i<s.locks.length):ofW p (nth s.locks i).id=((zao p (nth p.routes i)).1,0):=by
 obtain ⟨h1,h2,_⟩:=zam h;obtain ⟨hok,hw,_⟩:=zbc h1;have hl:=zaC h2;have hr:nth p.routes i∈p.routes:=zac (by omega)
 have hl2:=zn8 h2 hi;simp only[zev,Bool.and_eq_true,decide_eq_true_eq]at hl2;have hp:zbx p=true:=by simp only[zbk,Bool.and_eq_true]at h1;exact h1.1
 unfold ofW;rw[if_pos hp,hl2.1,ziJ Rte.id (zf9 hok) hr];dsimp only;rw[hw _ hr]
theorem zrb {p:Pln} {s:State} (h:zav p s=0) {i j:Nat} (hi:i<s.locks.length) (hj:j<s.locks.length) (e:(nth s.locks i).id=(nth s.locks j).id):i=j:=by
 obtain ⟨h1,h2,_⟩:=zam h;have hn:(s.locks.map Lock.id).Nodup:=by rw[zrc h2];exact zf9 (zbc h1).1
 have:=(List.nodup_iff_pairwise_ne.1 hn);rcases Nat.lt_trichotomy i j with hlt|he|hlt
 ·have:=List.pairwise_iff_getElem.1 this i j (by simpa using hi) (by simpa using hj) hlt
  simp only[List.getElem_map]at this;rw[<-zay hi,<-zay hj]at this;exact absurd e this
 ·exact he
 ·have:=List.pairwise_iff_getElem.1 this j i (by simpa using hj) (by simpa using hi) hlt
  simp only[List.getElem_map]at this;rw[<-zay hi,<-zay hj]at this;exact absurd e.symm this
theorem lck_pos {p:Pln} {s:State} (h:zav p s=0) {i:Nat} (hi:i<s.locks.length):1<=(nth s.locks i).id/\(nth s.locks i).id<=99:=by
 obtain ⟨h1,h2,_⟩:=zam h;have hl:=zaC h2;have hl2:=zn8 h2 hi;simp only[zev,Bool.and_eq_true,decide_eq_true_eq]at hl2;rw[hl2.1];exact zf8 (zbc h1).1 (zac (by omega))
def zd3 (p:Pln) (s:State) (i:Nat):List Int:=zb7 (zao p (nth p.routes i)).1 (nth s.locks i)
def zgD (p:Pln) (s:State) (i:Nat):List AskR:=(zcK (zao p (nth p.routes i)).1 (nth s.locks i)).filter (zdv (nth s.locks i))
theorem zk8 {p:Pln} {s:State} (h:zav p s=0) {z:WL} (hz:z∈zof p s):∃ i,i<s.locks.length/\z=((zao p (nth p.routes i)).1,nth s.locks i):=by
 have h2:=(zam h).2.1;have hl:=zaC h2;obtain ⟨i,r,hr,hi,e1,e2,_,e3,_⟩:=zgE h2 hz;refine ⟨i,by omega, ?_⟩
 rw[e1,e2,<-e3]
theorem zqM {p:Pln} {s:State} (h:zav p s=0) {i:Nat} (hi:i<s.locks.length):((zao p (nth p.routes i)).1,nth s.locks i)∈zof p s:=by
 have h2:=(zam h).2.1;have hl:=zaC h2;exact zof_at h2 (by omega)
theorem hold_iff {p:Pln} {s:State} (h:zav p s=0) {i:Nat} (hi:i<s.locks.length) {n:Int} (hn:0<=n):nth (zbz p s).1 n.toNat=(nth s.locks i).id↔n∈zd3 p s i:=by
 constructor
 ·intro e
  rcases zjz h hn with ⟨z,hz,hm,e2⟩|⟨_,e2⟩
  ·obtain ⟨j,hj,rfl⟩:=zk8 h hz
   rw[e2]at e;obtain rfl:=zrb h hj hi e;exact hm
  ·have:=lck_pos h hi
   omega
 ·intro hm
  exact zrE h (zqM h hi) hm
variable {p:Pln} {s:State}
theorem zh0 (hs:zbR p.sections=true) {n:Int} (h:(zaz p.sections n).2=0):∃ q:Nat,q<p.sections.length/\zdd n 0 p.sections=(q:Int)/\(zaz p.sections n).1=nth p.sections q/\(nth p.sections q).id=n:=by
 have hid:=(zgf h).2;unfold zaz at h hid |-
 rw[if_pos hs]at h hid |-
 rcases zg6 n p.sections 0 with e|⟨h1,h2⟩
 ·rw[e,if_pos (by omega)]at h;cases h
 ·refine ⟨(zdd n 0 p.sections).toNat,by omega,by omega, ?_, ?_⟩
  ·rw[if_neg (by omega)]
  ·rw[if_neg (by omega)]at hid;exact hid
theorem sec_no (hs:zbR p.sections=true) {n:Int} (h:¬(zaz p.sections n).2=0):zdd n 0 p.sections<0/\(zaz p.sections n).2=6:=by
 unfold zaz at h |-
 rw[if_pos hs]at h |-
 by_cases e:zdd n 0 p.sections<0
 ·rw[if_pos e];exact ⟨e,rfl⟩
 ·rw[if_neg e]at h;exact absurd rfl h
theorem zrk (ho:OkP p) (h:zan p s=true) {q:Nat} (hq:q<p.sections.length) {n:Int} (hid:(nth p.sections q).id=n):q<s.tracks.length/\zd2 s n=(nth s.tracks q).is:=by
 have hl:=(zaC h).1;have hq':q<s.tracks.length:=by omega
 refine ⟨hq', ?_⟩;have e:(nth s.tracks q).id=n:=by
  have e1:=congrArg (fun l:List Int=>l[q]?) (zmq h)
  simp only[List.getElem?_map,List.getElem?_eq_getElem hq',List.getElem?_eq_getElem hq,Option.map_some,Option.some.injEq]at e1;rw[zay hq',e1,<-zay hq,hid]
 rw[<-e];exact zm4 ho h hq'
theorem zdw {S:Section} {a b:Int} (h:(zb5 S a b).2=0):(zb5 S b a).2=0:=by
 rw[zgI]at h |-
 have e:zeK S a b=zeK S b a:=by
  unfold zeK;split
  ·by_cases h1:a=0/\b=1\/a=1/\b=0
   ·rw[if_pos h1,if_pos (by omega)]
   ·rw[if_neg h1,if_neg (by omega)]
  ·by_cases h1:a=0/\(b=1\/b=2)
   ·rw[if_pos h1,if_neg (by omega),if_pos h1]
   ·rw[if_neg h1]
    by_cases h2:b=0/\(a=1\/a=2)
    ·rw[if_pos h2,if_pos h2]
    ·rw[if_neg h2,if_neg h2,if_neg h1]
 unfold za8 at h |-
 rw[<-e];split at h
 ·rename_i hs
  rw[if_pos hs];split at h
  ·cases h
  ·rename_i h2
   rw[if_neg h2]
 ·cases h
theorem lie_iff {S:Section} (h:zbh S=true) (a b:Int):zeK S a b<0↔¬(zb5 S a b).2=0:=by
 rw[zgI];unfold za8;rw[if_pos h];split<;>simp_all
theorem sgL_no (a b:Int):∀ (l:List Sgn) (v:Int),(∀ x∈l,¬(x.sec=a/\x.ed=b))->sgL a b l v=v
 |[],_,_=>rfl
 |x::r,v,h=>by
  rw[sgL,if_neg (h x (by simp))]
  exact sgL_no a b r v fun y hy=>h y (by simp[hy])
theorem znQ (a b:Int):∀ (l:List Sgn) (v:Int),(l.Pairwise fun x y=>¬(x.sec=y.sec/\x.ed=y.ed))->sgL a b l v=match l.find? (fun x=>decide (x.sec=a)&&decide (x.ed=b)) with|some x=>x.id|none=>v
 |[],_,_=>rfl
 |x::r,v,h=>by
  rw[List.pairwise_cons]at h;by_cases e:x.sec=a/\x.ed=b
  ·rw[sgL,if_pos e,List.find?_cons_of_pos (by simp[e])]
   exact sgL_no a b r _ fun y hy e2=>h.1 y hy ⟨e.1.trans e2.1.symm,e.2.trans e2.2.symm⟩
  ·rw[sgL,if_neg e,List.find?_cons_of_neg (by simpa using e)]
   exact znQ a b r v h.2
theorem sg_eq (ho:OkP p) (hpl:zbx p=true) {a b:Int} (hn:(za0 p.sections a b).2=0):znS p a b=zhQ p a b:=by
 have hg:=(zdT ho.sec).1 ho.sgn;have e:stC p a b=0:=by unfold stC;rw[if_pos hpl];exact hn
 unfold zhQ;rw[if_pos e,znQ a b p.signals 0 (zek.2 fun i hi m hm=>hg.apart i hi m hm)]
 rfl
theorem zjr (hpl:zbx p=true) (n:Int):(za1 (fun x=>decide (Rte.id x=n)) 0 p.routes=-1/\¬(zdJ p n).2=0/\¬(ofW p n).2=0) \/
  ∃ i:Nat,i<p.routes.length/\za1 (fun x=>decide (Rte.id x=n)) 0 p.routes=(i:Int)/\(nth p.routes i).id=n/\zdJ p n=(nth p.routes i,0)/\ofW p n=((zao p (nth p.routes i)).1,(zao p (nth p.routes i)).2.2):=by
 rcases zfh Rte.id n Rte.z p.routes with ⟨h1,h2⟩|⟨i,h1,h2,h3,h4⟩
 ·refine .inl ⟨h1, ?_, ?_⟩
  ·unfold zdJ;rw[if_pos hpl,h2];simp
  ·unfold ofW;rw[if_pos hpl,h2];simp
 ·refine .inr ⟨i,h1,h2,h3, ?_, ?_⟩
  ·unfold zdJ;rw[if_pos hpl,h4]
  ·unfold ofW;rw[if_pos hpl,h4]
theorem zpT (hst:zav p s=0) {i:Nat} (hi:i<p.routes.length) {n:Int} (hid:(nth p.routes i).id=n):ofW p n=((zao p (nth p.routes i)).1,0)/\(zao p (nth p.routes i)).1.path=(nth p.routes i).path:=by
 have hpa:=(zam hst).2.1;have hlk:i<s.locks.length:=by rw[(zaC hpa).2.2];exact hi
 have e1:=congrArg (fun l:List Int=>l[i]?) (zrc hpa)
 simp only[List.getElem?_map,List.getElem?_eq_getElem hlk,List.getElem?_eq_getElem hi,Option.map_some,Option.some.injEq]at e1;rw[<-zay hlk,<-zay hi,hid]at e1;have h1:=ofW_at hst hlk;rw[e1]at h1;refine ⟨h1, ?_⟩;rcases zjr (zku hst) n with ⟨_,_,h2⟩|⟨m,hm,_,h3,_,h4⟩
 ·rw[h1]at h2;exact absurd rfl h2
 ·rw[h1]at h4
  have e2:(zao p (nth p.routes m)).2.2=0:=(congrArg Prod.snd h4).symm;have e3:m=i:=by
   have ho:=zar hst;have a1:=zrg ho hm;have a2:=zrg ho hi;rw[h3]at a1;rw[hid]at a2;omega
  rw[e3]at e2;exact (zcz e2).1
theorem zpP {p:Pln} {s:State} (h:zan p s=true):(zof p s).length=s.locks.length:=by
 have:=zaC h;simp only[zof,List.length_zip,zby,List.length_map];omega
theorem zgF {p:Pln} {s:State} (h:zan p s=true) {i:Nat} (hi:i<(zof p s).length):(zof p s)[i]=((zao p (nth p.routes i)).1,nth s.locks i):=by
 have h1:=zpP h;have h2:=zaC h;simp[zof,zby,zay (show i<p.routes.length by omega),zay (show i<s.locks.length by omega)]
theorem zmh {p:Pln} {s:State} (h:zan p s=true):znx (zof p s)↔∀ i j,i<s.locks.length->j<s.locks.length->i≠j->∀ m∈zd3 p s i,m∉zd3 p s j:=by
 have hl:=zpP h;unfold znx;rw[List.pairwise_iff_getElem];constructor
 ·intro hp i j hi hj hne m hm hm'
  rcases Nat.lt_trichotomy i j with hlt|e|hlt
  ·have:=hp i j (by omega) (by omega) hlt
   rw[zgF h,zgF h]at this;exact this m hm hm'
  ·exact hne e
  ·have:=hp j i (by omega) (by omega) hlt
   rw[zgF h,zgF h]at this;exact this m hm' hm
 ·intro hp i j hi hj hlt
  rw[zgF h,zgF h];exact hp i j (by omega) (by omega) (by omega)
theorem zhn {p:Pln} {s:State} (h:zan p s=true):zoK s (zof p s)↔∀ i,i<s.locks.length->∀ a∈zgD p s i,zdq s a.pnt=a.lie:=by
 have h2:=zaC h;constructor
 ·intro hp i hi a ha
  exact hp _ (zof_at h (by omega)) a ha
 ·intro hp z hz a ha
  obtain ⟨i,r,_,hi,e1,e2,_,e3,_⟩:=zgE h hz;refine hp i (by omega) a ?_
  unfold zgD;rw[e1,e2,<-e3];exact ha
theorem zp8 {p:Pln} {s:State}:zav p s=0↔zbk p=true/\zan p s=true/\(∀ i j,i<s.locks.length->j<s.locks.length->i≠j->∀ m∈zd3 p s i,m∉zd3 p s j)/\∀ i,i<s.locks.length->∀ a∈zgD p s i,zdq s a.pnt=a.lie:=by
 rw[zoT];constructor
 ·rintro ⟨h1,h2,h3,h4⟩;exact ⟨h1,h2,(zmh h2).1 h3,(zhn h2).1 h4⟩
 ·rintro ⟨h1,h2,h3,h4⟩;exact ⟨h1,h2,(zmh h2).2 h3,(zhn h2).2 h4⟩
section
variable {p:Pln} {s:State} {i:Nat} (h:zav p s=0) (hi:i<s.locks.length) (hph:(nth s.locks i).phase=0)
include h hi
include hph
end
def mayF (s:State) (hd:Nat->List Int) (as:Nat->List AskR):Bool :=
 zaZ (fun i (st:List Bool×List Int) za0 =>
   zaZ (fun k (H:List Bool) next2=>cond (nth H (nth (hd i) k).toNat) false (next2 (H.set (nth (hd i) k).toNat true)))
    (fun H=>zaZ (fun k (A:List Int) next3 =>
      cond (!decide (nth A (nth (as i) k).pnt.toNat=0)&&!decide (nth A (nth (as i) k).pnt.toNat=(nth (as i) k).lie)||!decide (zdq s (nth (as i) k).pnt=(nth (as i) k).lie)) false (next3 (A.set (nth (as i) k).pnt.toNat (nth (as i) k).lie)))
     (fun A=>za0 (H,A)) (as i).length 0 st.2) (hd i).length 0 st.1)
  (fun _=>true) s.locks.length 0 (List.replicate 100 false,List.replicate 100 0)
theorem mayF_eq {p:Pln} {s:State} (ho:zbk p=true) (hpa:zan p s=true):mayF s (zd3 p s) (zgD p s)=decide (zav p s=0):=by
 have hok:=(zbc ho).1;have hpl:=zaC hpa;have hdr:∀ i,i<s.locks.length->∀ m∈zd3 p s i,0<=m/\m<=99:=fun i hi m hm=>by
  have hr:nth p.routes i∈p.routes:=zac (by omega)
  have hwp:=zcz ((zbc ho).2.1 _ hr);have h1:m∈(nth p.routes i).path++(nth p.routes i).over:=by
   unfold zd3 zb7 at hm;split at hm
   ·cases hm
   ·rw[hwp.1,hwp.2.1]at hm
    rcases List.mem_append.1 hm with h|h
    ·exact List.mem_append.2 (.inl (List.mem_of_mem_drop h))
    ·exact List.mem_append.2 (.inr h)
  obtain ⟨q,hq,e⟩:=(zed hok hr).1 m h1;have:=zeE hok hq;omega
 have hdn:∀ i,i<s.locks.length->(zd3 p s i).Nodup:=fun i hi=>by
  have hr:nth p.routes i∈p.routes:=zac (by omega)
  have hwp:=zcz ((zbc ho).2.1 _ hr);unfold zd3 zb7;split
  ·exact List.nodup_nil
  ·rw[hwp.1,hwp.2.1]
   exact (zed hok hr).2.sublist ((List.drop_sublist _ _).append (List.Sublist.refl _))
 have har:∀ i,i<s.locks.length->∀ a∈zgD p s i,(1<=a.pnt/\a.pnt<=99)/\(a.lie=1\/a.lie=2):=fun i hi a ha=>by
  have hr:nth p.routes i∈p.routes:=zac (by omega)
  have h1:a∈(zao p (nth p.routes i)).1.asks:=by
   unfold zgD at ha;have:=(List.mem_filter.1 ha).1;unfold zcK at this;split at this
   ·cases this
   ·exact this
  exact (zdF hok hr h1).2
 generalize hX:decide (zav p s=0)=X;have hiff:X=true↔(∀ i j,i<s.locks.length->j<s.locks.length->i≠j->∀ m∈zd3 p s i,m∉zd3 p s j)/\∀ i,i<s.locks.length->∀ a∈zgD p s i,zdq s a.pnt=a.lie:=by
  rw[<-hX,decide_eq_true_eq,zp8];exact ⟨fun h=>h.2.2,fun h=>⟨ho,hpa,h⟩⟩
 have bad:¬((∀ i j,i<s.locks.length->j<s.locks.length->i≠j->∀ m∈zd3 p s i,m∉zd3 p s j)/\∀ i,i<s.locks.length->∀ a∈zgD p s i,zdq s a.pnt=a.lie)->false=X:=fun h=>by
  cases X with
  |false=>rfl
  |true=>exact absurd (hiff.1 rfl) h
 unfold mayF;refine zaE (·=X) (fun i (st:List Bool×List Int)=>(st.1.length=100/\st.2.length=100)/\(∀ m:Int,0<=m->m<=99->(nth st.1 m.toNat=true↔∃ j,j<i/\m∈zd3 p s j))/\(∀ m:Int,0<=m->m<=99->nth st.2 m.toNat=0\/zdq s m=nth st.2 m.toNat) /\
   (∀ j k,j<i->k<i->j≠k->∀ m∈zd3 p s j,m∉zd3 p s k)/\∀ j,j<i->∀ a∈zgD p s j,zdq s a.pnt=a.lie) ?_ ?_ ?_
 ·refine ⟨⟨by simp,by simp⟩,fun m h1 h2=>?_,fun m h1 h2=>.inl (zdL _ _ _ (by omega)),fun j k hj=>by omega,fun j hj=>by omega⟩
  rw[zdL _ _ _ (by omega)]
  exact ⟨fun h=>(by cases h),fun ⟨j,hj,_⟩=>by omega⟩
 ·rintro i ⟨H,A⟩ za0 hi ⟨⟨hHl,hAl⟩,hH,hA,hap,hca⟩ hn
  dsimp only at hHl hAl hH hA |-
  refine zaE (·=X) (fun k (H:List Bool)=>H.length=100/\(∀ m:Int,0<=m->m<=99->(nth H m.toNat=true↔(∃ j,j<i/\m∈zd3 p s j)\/∃ q,q<k/\nth (zd3 p s i) q=m))/\∀ q,q<k->∀ j,j<i->nth (zd3 p s i) q∉zd3 p s j) ?_ ?_ ?_
  ·exact ⟨hHl,fun m h1 h2=>(hH m h1 h2).trans ⟨fun h=>.inl h,fun h=>h.elim id fun ⟨q,hq,_⟩=>by omega⟩,fun q hq=>by omega⟩
  ·rintro k H next2 hk ⟨hHl,hH,hno⟩ hn2
   have hm:=hdr i hi _ (zac hk);have hHk:=hH _ hm.1 hm.2;cases hb:nth H (nth (zd3 p s i) k).toNat with
   |true =>
    rw[cond_true];refine bad fun h=>?_
    rcases hHk.1 hb with ⟨j,hj,hmj⟩|⟨q,hq,e⟩
    ·exact h.1 i j hi (by omega) (by omega) _ (zac hk) hmj
    ·have:=ziv.1 (hdn i hi) k hk q hq
     exact this e
   |false =>
    rw[cond_false];refine hn2 _ ⟨by simpa using hHl,fun m h1 h2=>?_,fun q hq j hj=>?_⟩
    ·rw[za9 _ _ _ _ (by omega)]
     by_cases e:m=nth (zd3 p s i) k
     ·subst e
      rw[if_pos rfl];exact ⟨fun _=>.inr ⟨k,by omega,rfl⟩,fun _=>rfl⟩
     ·rw[if_neg (by omega),hH m h1 h2]
      constructor
      ·rintro (h|⟨q,hq,eq⟩)
       ·exact .inl h
       ·exact .inr ⟨q,by omega,eq⟩
      ·rintro (h|⟨q,hq,eq⟩)
       ·exact .inl h
       ·rcases Nat.lt_or_ge q k with h3|h3
        ·exact .inr ⟨q,h3,eq⟩
        ·obtain rfl:q=k:=by omega
         exact absurd eq.symm e
    ·rcases Nat.lt_or_ge q k with h3|h3
     ·exact hno q h3 j hj
     ·obtain rfl:q=k:=by omega
      intro hmj;have:=hHk.2 (.inl ⟨j,hj,hmj⟩);rw[hb]at this;cases this
  ·rintro H ⟨hHl,hH,hno⟩
   refine zaE (·=X) (fun k (A:List Int)=>A.length=100/\(∀ m:Int,0<=m->m<=99->nth A m.toNat=0\/zdq s m=nth A m.toNat)/\∀ q,q<k->zdq s (nth (zgD p s i) q).pnt=(nth (zgD p s i) q).lie) ⟨hAl,hA,fun q hq=>by omega⟩ ?_ ?_
   ·rintro k A next3 hk ⟨hAl,hA,hcq⟩ hn3
    have hm:=har i hi _ (zac hk);by_cases hc:zdq s (nth (zgD p s i) k).pnt=(nth (zgD p s i) k).lie
    ·have hAk:=hA (nth (zgD p s i) k).pnt (by omega) (by omega)
     have:(!decide (nth A (nth (zgD p s i) k).pnt.toNat=0)&&!decide (nth A (nth (zgD p s i) k).pnt.toNat=(nth (zgD p s i) k).lie)||!decide (zdq s (nth (zgD p s i) k).pnt=(nth (zgD p s i) k).lie))=false:=by
      rcases hAk with h|h
      ·simp[h,hc]
      ·simp[<-h,hc]
     rw[this,cond_false];refine hn3 _ ⟨by simpa using hAl,fun m h1 h2=>?_,fun q hq=>?_⟩
     ·rw[za9 _ _ _ _ (by omega)]
      by_cases e:m=(nth (zgD p s i) k).pnt
      ·rw[if_pos (by rw[e]),e]
       exact .inr hc
      ·rw[if_neg (by omega)]
       exact hA m h1 h2
     ·rcases Nat.lt_or_ge q k with h3|h3
      ·exact hcq q h3
      ·obtain rfl:q=k:=by omega
       exact hc
    ·rw[decide_eq_false hc,Bool.not_false,Bool.or_true,cond_true]
     exact bad fun h=>hc (h.2 i hi _ (zac hk))
   ·rintro A ⟨hAl,hA,hcq⟩
    refine hn (H,A) ⟨⟨hHl,hAl⟩,fun m h1 h2=>?_,hA,fun j k hj hk hne m hm=>?_,fun j hj a ha=>?_⟩
    ·rw[hH m h1 h2]
     constructor
     ·rintro (⟨j,hj,h⟩|⟨q,hq,e⟩)
      ·exact ⟨j,by omega,h⟩
      ·exact ⟨i,by omega,by rw[<-e];exact zac hq⟩
     ·rintro ⟨j,hj,h⟩
      rcases Nat.lt_or_ge j i with h3|h3
      ·exact .inl ⟨j,h3,h⟩
      ·obtain rfl:j=i:=by omega
       obtain ⟨q,hq,e⟩:=zbN h;exact .inr ⟨q,hq,e⟩
    ·have hno2:∀ j,j<i->∀ m∈zd3 p s i,m∉zd3 p s j:=fun j hj m hm=>by
      obtain ⟨q,hq,rfl⟩:=zbN hm;exact hno q hq j hj
     rcases Nat.lt_or_ge j i with h3|h3
     ·rcases Nat.lt_or_ge k i with h4|h4
      ·exact hap j k h3 h4 hne m hm
      ·obtain rfl:k=i:=by omega
       exact fun hm'=>hno2 j h3 m hm' hm
     ·obtain rfl:j=i:=by omega
      exact hno2 k (by omega) m hm
    ·rcases Nat.lt_or_ge j i with h3|h3
     ·exact hca j h3 a ha
     ·obtain rfl:j=i:=by omega
      obtain ⟨q,hq,rfl⟩:=zbN ha;exact hcq q hq
 ·rintro st ⟨_,_,_,hap,hca⟩
  exact (hiff.2 ⟨hap,hca⟩).symm
def inB (l:List Int) (n:Int):Bool:=l.any fun x=>decide (x=n)
theorem zrz {l:List Int} {n:Int}:inB l n=true↔n∈l:=by unfold inB;simp
def mtB (p:Pln) (s:State) (t:TrainD):Bool:=decide (1<=t.id)&&(decide (t.id<=99)&&trF p s t)
def mK (t:TrainD) (m:List Int) (za0:List Int->Bool):Bool :=
 zaZ (fun k (m:List Int) next2=>cond (inB m (nth t.secs k)) false (next2 (m++[nth t.secs k]))) (fun m=>za0 m) t.secs.length 0 m
def mT (p:Pln) (s:State) (t:TrainD) (m:List Int) (za0:List Int->Bool):Bool:=cond (!mtB p s t) false (mK t m za0)
def mF (p:Pln) (s:State) (l:List TrainD):Bool :=
 zaZ (fun i (m:List Int) za0=>cond (decide (0<(i:Int))) (cond (decide ((nth l i).id<=(nth l (i-1)).id)) false (mT p s (nth l i) m za0)) (mT p s (nth l i) m za0))
  (fun _=>decide ((l.length:Int)<=8)) l.length 0 []
theorem zq4 {p:Pln} {s:State} {t:TrainD}:mtB p s t=true↔(1<=t.id/\t.id<=99)/\trF p s t=true:=by
 unfold mtB;rw[Bool.and_eq_true,Bool.and_eq_true,decide_eq_true_eq,decide_eq_true_eq,and_assoc]
theorem mF_iff (p:Pln) (s:State) (l:List TrainD):mF p s l=true↔TrsOk p s l:=by
 unfold mF;have bad:∀ {P9:Prop},¬P9->(TrsOk p s l->P9)->(false=true↔TrsOk p s l):=fun a b=>⟨fun e=>by (cases e),fun c=>absurd (b c) a⟩
 refine zaE (fun r=>r=true↔TrsOk p s l) (fun k m=>(∀ i,i<k->(1<=(nth l i).id/\(nth l i).id<=99)/\(0<i->(nth l (i-1)).id<(nth l i).id)/\trF p s (nth l i)=true)/\m=zbT (l.take k)/\(zbT (l.take k)).Nodup) ⟨fun i hi=>absurd hi (by omega),by simp[zbT],by simp[zbT]⟩ ?_ ?_
 ·rintro k m za0 hk ⟨h1,h2,h3⟩ hn
  (try dsimp only)
  have hmem:=zac hk;have key:(0<k->(nth l (k-1)).id<(nth l k).id)->(mT p s (nth l k) m za0=true↔TrsOk p s l):=by
   intro a3;unfold mT;cases a4:mtB p s (nth l k) with
   |false=>exact bad (P9:=mtB p s (nth l k)=true) (by rw[a4];simp) fun c=>zq4.2 ⟨c.id _ hmem,c.may _ hmem⟩
   |true =>
    obtain ⟨a5,a6⟩:=zq4.1 a4;unfold mK;refine zaE (fun r=>r=true↔TrsOk p s l) (fun j m'=>m'=zbT (l.take k)++(nth l k).secs.take j/\(zbT (l.take k)++(nth l k).secs.take j).Nodup) ⟨by simpa using h2,by simpa using h3⟩ ?_ ?_
    ·rintro j m' next2 hj ⟨g1,g2⟩ gn
     (try dsimp only)
     have hsp:=zlN hj;cases a7:inB m' (nth (nth l k).secs j) with
     |true =>
      refine bad (P9:=(zbT (l.take k)++(nth l k).secs).Nodup) (fun c=>?_) fun c=>zqP c.own hk
      have hin:=zrz.1 a7;rw[g1]at hin;have e:(nth l k).secs=(nth l k).secs.take (j+1)++(nth l k).secs.drop (j+1):=(List.take_append_drop _ _).symm;rw[e,hsp,<-List.append_assoc,<-List.append_assoc]at c;have c2:=(List.nodup_append.1 c).1;exact (List.nodup_append.1 c2).2.2 _ hin _ (by simp) rfl
     |false =>
      refine gn _ ⟨?_, ?_⟩
      ·rw[hsp,<-List.append_assoc,g1]
      ·rw[hsp,<-List.append_assoc]
       refine List.nodup_append.2 ⟨g2,by simp,fun x hx y hy e=>?_⟩
       rw[List.mem_singleton]at hy;rw[e,hy,<-g1]at hx;rw[zrz.2 hx]at a7;cases a7
    ·rintro m' ⟨g1,g2⟩
     rw[List.take_length,<-zfF hk]at g1 g2;refine hn m' ⟨fun i hi=>?_,g1,g2⟩
     by_cases e:i=k
     ·subst e;exact ⟨a5,a3,a6⟩
     ·exact h1 i (by omega)
  by_cases a0:0<(k:Int)
  ·rw[decide_eq_true a0]
   by_cases a3:(nth l k).id<=(nth l (k-1)).id
   ·rw[decide_eq_true a3]
    refine bad (P9:=(nth l (k-1)).id<(nth l k).id) (by omega) fun c=>?_
    exact (zee TrainD.id l).1 c.up k (by omega) hk
   ·rw[decide_eq_false a3]
    exact key fun _=>by omega
  ·rw[decide_eq_false a0]
   exact key fun h=>by omega
 ·rintro m ⟨h1,h2,h3⟩
  (try dsimp only)
  by_cases a:(l.length:Int)<=8
  ·rw[decide_eq_true a]
   refine ⟨fun _=>⟨by omega,fun t ht=>?_,fun t ht=>?_, ?_,by rw[List.take_length]at h3;exact h3⟩,fun _=>rfl⟩
   ·obtain ⟨i,hi,rfl⟩:=List.getElem_of_mem ht
    rw[<-zay hi];exact (h1 i hi).1
   ·obtain ⟨i,hi,rfl⟩:=List.getElem_of_mem ht
    rw[<-zay hi];exact (h1 i hi).2.2
   ·exact (zee TrainD.id l).2 fun i h0 hi=>(h1 i hi).2.1 h0
  ·rw[decide_eq_false a]
   exact bad (P9:=l.length<=8) (by omega) fun c=>c.len
theorem mF_eq (p:Pln) (s:State) (l:List TrainD):mF p s l=decide (ckF p s l=0):=by
 rw[Bool.eq_iff_iff,mF_iff,decide_eq_true_eq,zse]
theorem ckF_or (p:Pln) (s:State) (l:List TrainD):ckF p s l=0\/ckF p s l=8:=by
 unfold ckF;refine zaE (fun r=>r=0\/r=8) (fun _ _=>True) trivial ?_ ?_
 ·intro k m za0 hk _ hn
  have key:ckT p s (nth l k) m za0=0\/ckT p s (nth l k) m za0=8:=by
   unfold ckT;cases trF p s (nth l k) with
   |false=>exact .inr rfl
   |true =>
    unfold ckM;refine zaE (fun r=>r=0\/r=8) (fun _ _=>True) trivial ?_ fun m _=>hn m trivial
    intro j m' next2 hj _ gn;(try dsimp only)
    by_cases a:0<zhl m' (nth (nth l k).secs j)
    ·rw[decide_eq_true a];exact .inr rfl
    ·rw[decide_eq_false a];exact gn _ trivial
  (try dsimp only)
  by_cases a1:(nth l k).id<1
  ·rw[decide_eq_true a1];exact .inr rfl
  rw[decide_eq_false a1];by_cases a2:99<(nth l k).id
  ·rw[decide_eq_true a2];exact .inr rfl
  rw[decide_eq_false a2];by_cases a0:0<(k:Int)
  ·rw[decide_eq_true a0]
   by_cases a3:(nth l k).id<=(nth l (k-1)).id
   ·rw[decide_eq_true a3];exact .inr rfl
   ·rw[decide_eq_false a3];exact key
  ·rw[decide_eq_false a0];exact key
 ·intro m _
  (try dsimp only)
  by_cases a:8<(l.length:Int)
  ·rw[decide_eq_true a];exact .inr rfl
  ·rw[decide_eq_false a];exact .inl rfl
theorem zrA (hH:HasAll P inv) (l:List Int) (hl:l.length<=1000000000) (n:Int):PC P inv 400 [.sl 1 (l.map zaJ),.n n] (·=.b (inB l n)):=by
 unfold inB;refine wf hH cd400 fun w0 M Q hM hE hQ hR=>?_;refine wq ?_
 (repeat' first|refine zaa [0,1,4,5,9,17] fun K hK=>?_|exact wt|refine wA ?_|(refine wB ?_ ?_<;>intro h<;>first|exact wN h|subst (h:(_:Bool)=_)|skip)|(refine wQ ?_;clear hQ hR hE hM)|fail)
 refine zaj (ι:=Nat) [0,1,4,5] (fun z=>[(5,.n z)]) (fun _=>[]) (fun z=>z) (l.length) (fun z=>(((l.drop z).any fun x=>decide (x=n))=(l.any fun x=>decide (x=n)))) (0) ?_;rintro k ⟨hk,hg⟩;(try dsimp only at hk hg |-);rcases Nat.lt_or_ge k l.length with hlt|hge
 ·rw[zae hlt]at hg
  rw[List.any_cons]at hg
  (repeat' first|refine zaa [0,1,4,5,9,17] fun K hK=>?_|exact wt|refine wA ?_|(refine wB ?_ ?_<;>intro h<;>first|exact wN h|subst (h:(_:Bool)=_)|skip)|(refine wQ ?_;clear hQ hR hE hM)|fail)
  ·rw[<-hg,decide_eq_true h];rfl
  ·rw[decide_eq_false h,Bool.false_or]at hg
   refine ⟨k+1,by omega,⟨by omega,hg⟩,(by (try dsimp only);(first|omega|(simp;done)|(simp;omega)))⟩
 ·rw[List.drop_eq_nil_of_le hge]at hg
  (repeat' first|refine zaa [0,1,4,5,9,17] fun K hK=>?_|exact wt|refine wA ?_|(refine wB ?_ ?_<;>intro h<;>first|exact wN h|subst (h:(_:Bool)=_)|skip)|(refine wQ ?_;clear hQ hR hE hM)|fail)
  all_goals (rw[<-hg];rfl)
theorem zel (hH:HasAll P inv) (a b:Int):PC P inv 401 [.n a,.n b] (·=.sl 4 [[.i .u8 1,.n a,.n b,.s0 1]]):=by
 refine wf hH cd401 fun w0 M Q hM hE hQ hR=>?_;refine wq ?_
 (repeat' first|refine zaa kL fun K hK=>?_|exact wt|refine wA ?_|(refine wB ?_ ?_<;>intro h<;>first|exact wN h|subst (h:(_:Bool)=_)|skip)|(refine wQ ?_;clear hQ hR hE hM)|fail)
 all_goals first|rfl
theorem zpm (hH:HasAll P inv) (p:Pln) (hp:Sm p) (a b:Int) {q:Nat} (hq:q<p.sections.length) (he:zdd a 0 p.sections=(q:Int)) (hen:(nth p.sections q).ends.length<=3):PC P inv 404 [.agg p.c,.n a,.n b] (·=.b ((nth p.sections q).ends.any fun j=>decide (j.to=b))):=by
 have c0:=zfS hH p.sections a (Nat.le_trans hp.sec (by omega))
 rw[he]at c0;refine wf hH cd404 fun w0 M Q hM hE hQ hR=>?_;refine wq ?_
 (repeat' first|refine zaa yk fun K hK=>?_|exact wt|refine wA ?_|(refine wB ?_ ?_<;>intro h<;>first|exact wN h|subst (h:(_:Bool)=_)|skip)|(refine wQ ?_;clear hQ hR hE hM)|refine wU c0 ?_|fail)
 generalize nth p.sections q=S at *;refine zaj (ι:=Nat) [2,6,7,8] (fun z=>[(8,.n z)]) (fun _=>[]) (fun z=>z) (S.ends.length) (fun z=>(((S.ends.drop z).any fun j=>decide (j.to=b))=(S.ends.any fun j=>decide (j.to=b)))) (0) ?_;rintro k ⟨hk,hg⟩;(try dsimp only at hk hg |-);rcases Nat.lt_or_ge k S.ends.length with hlt|hge
 ·rw[zae hlt]at hg
  rw[List.any_cons]at hg
  (repeat' first|refine zaa yk fun K hK=>?_|exact wt|refine wA ?_|(refine wB ?_ ?_<;>intro h<;>first|exact wN h|subst (h:(_:Bool)=_)|skip)|(refine wQ ?_;clear hQ hR hE hM)|fail)
  ·rw[<-hg,decide_eq_true h];rfl
  ·rw[decide_eq_false h,Bool.false_or]at hg
   refine ⟨k+1,by omega,⟨by omega,hg⟩,(by (try dsimp only);(first|omega|(simp;done)|(simp;omega)))⟩
 ·rw[List.drop_eq_nil_of_le hge]at hg
  (repeat' first|refine zaa yk fun K hK=>?_|exact wt|refine wA ?_|(refine wB ?_ ?_<;>intro h<;>first|exact wN h|subst (h:(_:Bool)=_)|skip)|(refine wQ ?_;clear hQ hR hE hM)|fail)
  all_goals (rw[<-hg];rfl)
end Go.Lev
