/-
  Contracts of functions. Conditions: those that each theorem names.
-/
import Derived.Test.YtjfongdncghjmaaGreatL7
import Derived.Test.YtjfongdncghjmaaGreatL11
set_option linter.unusedSimpArgs false
set_option linter.unusedVariables false
set_option linter.unusedSectionVars false
namespace Go.Lev
open Go.Eng
set_option maxRecDepth 10000
set_option maxHeartbeats 4000000
variable {P:Program} {inv:Nat->Option Nat}
def bigR (r:Rte):Bool:=decide (20<(r.path.length:Int))||decide (20<(r.over.length:Int))||decide (20<(r.flanks.length:Int))
def gRF:List Rte->Nat->Bool
 |[],_=>false
 |_::_,0=>false
 |r::l,n+1=>bigR r||gRF l n
def gPl (p:Pln):Bool:=gRF p.routes 40||(zeL p.sections||(decide (40<(p.points.length:Int))||(decide (40<(p.signals.length:Int))||decide (40<(p.routes.length:Int)))))
theorem gRF_some {r:Rte} {l:List Rte} {n:Nat} (h:0<n):gRF (r::l) n=(bigR r||gRF l (n-1)):=by
 cases n with
 |zero=>omega
 |succ n=>rfl
theorem gRF_end (l:List Rte) {n:Nat} (h:n=0):gRF l n=false:=by
 subst h;cases l<;>rfl
theorem zpr (hH:HasAll P inv) (p:Pln):PC P inv 393 [.agg p.c] (·=.b (gPl p)):=by
 have c0:=zrK hH p.sections;refine wf hH cd393 fun w0 M Q hM hE hQ hR=>?_;refine wq ?_
 (repeat' first|refine zaa yP fun K hK=>?_|exact wt|refine wA ?_|(refine wB ?_ ?_<;>intro h<;>first|exact wN h|subst (h:(_:Bool)=_)|skip)|(refine wQ ?_;clear hQ hR hE hM)|fail)
 refine zaj (ι:=Nat) [1,2,3] (fun z=>[(3,.n z)]) (fun _=>[]) (fun z=>z) (p.routes.length) (fun z=>(z<=40)/\(gRF (p.routes.drop z) (40-z)=gRF p.routes 40)) (0) ?_;rintro k ⟨hk,h40,hg⟩;(try dsimp only at hk h40 hg |-);rcases Nat.lt_or_ge k p.routes.length with hlt|hge
 ·rcases Nat.lt_or_ge k 40 with h4|h4
  ·rw[zae hlt]at hg
   rw[gRF_some (by omega),bigR,Nat.sub_sub]at hg
   (repeat' first|refine zaa yP fun K hK=>?_|exact wt|refine wA ?_|(refine wB ?_ ?_<;>intro h<;>first|exact wN h|subst (h:(_:Bool)=_)|skip)|(refine wQ ?_;clear hQ hR hE hM)|refine wC c0 ?_|fail)
   ·simp only[gPl,<-hg];simp[*]
   ·simp only[gPl,<-hg];simp[*]
   ·simp only[gPl,<-hg];simp[*]
   ·refine ⟨k+1,by omega,⟨by omega,by omega, ?_⟩,(by (try dsimp only);(first|omega|(simp;done)|(simp;omega)))⟩
    rw[<-hg];simp;omega
  ·rw[gRF_end _ (by omega)]at hg
   (repeat' first|refine zaa yP fun K hK=>?_|exact wt|refine wA ?_|(refine wB ?_ ?_<;>intro h<;>first|exact wN h|subst (h:(_:Bool)=_)|skip)|(refine wQ ?_;clear hQ hR hE hM)|refine wC c0 ?_|fail)
   all_goals first|(simp only[gPl,<-hg];simp[*];done)|(exfalso;omega)|(simp only[gPl,<-hg];simp[*];omega)
 ·rw[List.drop_eq_nil_of_le hge,gRF]at hg
  (repeat' first|refine zaa yP fun K hK=>?_|exact wt|refine wA ?_|(refine wB ?_ ?_<;>intro h<;>first|exact wN h|subst (h:(_:Bool)=_)|skip)|(refine wQ ?_;clear hQ hR hE hM)|refine wC c0 ?_|fail)
  all_goals (unfold gPl;rw[<-hg,Bool.false_or])
  ·rw[h,Bool.true_or]
  ·rw[show zeL p.sections=false by assumption,decide_eq_true h];rfl
  ·rw[show zeL p.sections=false by assumption,decide_eq_true h,Bool.false_or,Bool.true_or,Bool.or_true]
  ·rw[show zeL p.sections=false by assumption,decide_eq_false h,decide_eq_false (p:=40<(p.points.length:Int)) (by assumption)];rfl
def gTrF:List TrainD->Nat->Bool
 |[],_=>false
 |_::_,0=>false
 |t::l,n+1=>decide (30<(t.secs.length:Int))||gTrF l n
def gTr (l:List TrainD):Bool:=gTrF l 30||decide (30<(l.length:Int))
theorem zrT {r:TrainD} {l:List TrainD} {n:Nat} (h:0<n):gTrF (r::l) n=(decide (30<(r.secs.length:Int))||gTrF l (n-1)):=by
 cases n with
 |zero=>omega
 |succ n=>rfl
theorem gTrF_end (l:List TrainD) {n:Nat} (h:n=0):gTrF l n=false:=by
 subst h;cases l<;>rfl
theorem zna (hH:HasAll P inv) (l:List TrainD):PC P inv 394 [.agg (wld l)] (·=.b (gTr l)):=by
 unfold wld;refine wf hH cd394 fun w0 M Q hM hE hQ hR=>?_;refine wq ?_
 (repeat' first|refine zaa yQ fun K hK=>?_|exact wt|refine wA ?_|(refine wB ?_ ?_<;>intro h<;>first|exact wN h|subst (h:(_:Bool)=_)|skip)|(refine wQ ?_;clear hQ hR hE hM)|fail)
 refine zaj (ι:=Nat) [1,2,3] (fun z=>[(3,.n z)]) (fun _=>[]) (fun z=>z) (l.length) (fun z=>(z<=30)/\(gTrF (l.drop z) (30-z)=gTrF l 30)) (0) ?_;rintro k ⟨hk,h40,hg⟩;(try dsimp only at hk h40 hg |-);rcases Nat.lt_or_ge k l.length with hlt|hge
 ·rcases Nat.lt_or_ge k 30 with h4|h4
  ·rw[zae hlt]at hg
   rw[zrT (by omega),Nat.sub_sub]at hg
   (repeat' first|refine zaa yQ fun K hK=>?_|exact wt|refine wA ?_|(refine wB ?_ ?_<;>intro h<;>first|exact wN h|subst (h:(_:Bool)=_)|skip)|(refine wQ ?_;clear hQ hR hE hM)|fail)
   ·simp only[gTr,<-hg];simp[*]
   ·refine ⟨k+1,by omega,⟨by omega,by omega, ?_⟩,(by (try dsimp only);(first|omega|(simp;done)|(simp;omega)))⟩
    rw[<-hg];simp;omega
  ·rw[gTrF_end _ (by omega)]at hg
   (repeat' first|refine zaa yQ fun K hK=>?_|exact wt|refine wA ?_|(refine wB ?_ ?_<;>intro h<;>first|exact wN h|subst (h:(_:Bool)=_)|skip)|(refine wQ ?_;clear hQ hR hE hM)|fail)
   all_goals first|(simp only[gTr,<-hg];simp[*];done)|(exfalso;omega)|(simp only[gTr,<-hg];simp[*];omega)
 ·rw[List.drop_eq_nil_of_le hge,gTrF]at hg
  (repeat' first|refine zaa yQ fun K hK=>?_|exact wt|refine wA ?_|(refine wB ?_ ?_<;>intro h<;>first|exact wN h|subst (h:(_:Bool)=_)|skip)|(refine wQ ?_;clear hQ hR hE hM)|fail)
  all_goals (unfold gTr;rw[<-hg,Bool.false_or])
theorem zpq (hH:HasAll P inv) (p:Pln) (s:State) (l:List TrainD):PC P inv 385 [.agg p.c,.agg s.c,.agg (wld l)] (·=.b (gPl p||(zkM s||gTr l))):=by
 have c0:=zpr hH p;have c1:=zqh hH s;have c2:=zna hH l;unfold wld at *;refine wf hH cd385 fun w0 M Q hM hE hQ hR=>?_;refine wq ?_
 (repeat' first|refine zaa [0,1,2,3,4,5,6] fun K hK=>?_|exact wt|refine wA ?_|(refine wB ?_ ?_<;>intro h<;>first|exact wN h|subst (h:(_:Bool)=_)|skip)|(refine wQ ?_;clear hQ hR hE hM)|refine wC c0 ?_|refine wC c1 ?_|refine wC c2 ?_|fail)
 all_goals simp[*]
theorem zfo (hH:HasAll P inv) (l:List TrainD) (hl:l.length<=1000000000) (n:Int):PC P inv 391 [.agg (wld l),.n n] (·=.n (zcB l n)):=by
 unfold wld;refine wf hH cd391 fun w0 M Q hM hE hQ hR=>?_;refine wq ?_
 (repeat' first|refine zaa kJ fun K hK=>?_|exact wt|refine wA ?_|(refine wB ?_ ?_<;>intro h<;>first|exact wN h|subst (h:(_:Bool)=_)|skip)|(refine wQ ?_;clear hQ hR hE hM)|fail)
 refine zaj (ι:=Nat) [1,2,4,5] (fun z=>[(5,.n z)]) (fun _=>[]) (fun z=>z) (l.length) (fun z=>(za1 (fun t=>decide (t.id=n)) z (l.drop z)=zcB l n)) (0) ?_;rintro k ⟨hk,hg⟩;(try dsimp only at hk hg |-);rcases Nat.lt_or_ge k l.length with hlt|hge
 ·rw[zae hlt]at hg
  rw[za1]at hg
  (repeat' first|refine zaa kJ fun K hK=>?_|exact wt|refine wA ?_|(refine wB ?_ ?_<;>intro h<;>first|exact wN h|subst (h:(_:Bool)=_)|skip)|(refine wQ ?_;clear hQ hR hE hM)|fail)
  ·rw[<-hg,if_pos (decide_eq_true (by assumption))]
  ·refine ⟨k+1,by omega,⟨by omega, ?_⟩,(by (try dsimp only);(first|omega|(simp;done)|(simp;omega)))⟩
   rw[if_neg (by simp[*])]at hg
   exact_mod_cast hg
 ·rw[List.drop_eq_nil_of_le hge,za1]at hg
  (repeat' first|refine zaa kJ fun K hK=>?_|exact wt|refine wA ?_|(refine wB ?_ ?_<;>intro h<;>first|exact wN h|subst (h:(_:Bool)=_)|skip)|(refine wQ ?_;clear hQ hR hE hM)|fail)
  all_goals first|(rw[hg];done)
theorem zrr (hH:HasAll P inv) (a b:List Int) (hl:b.length<=1000000000):PC P inv 399 [.sl 1 (a.map zaJ),.sl 1 (b.map zaJ)] (·=.b (decide (a=b))):=by
 refine wf hH cd399 fun w0 M Q hM hE hQ hR=>?_;refine wq ?_
 (repeat' first|refine zaa yf fun K hK=>?_|exact wt|refine wA ?_|(refine wB ?_ ?_<;>intro h<;>first|exact wN h|subst (h:(_:Bool)=_)|skip)|(refine wQ ?_;clear hQ hR hE hM)|fail)
 ·have:¬a=b:=fun e=>h (by rw[e])
  simp[this]
 have hab:a.length=b.length:=by omega
 refine zcC (fun k=>[(0,.sl 1 (a.map zaJ)),(1,.sl 1 (b.map zaJ)),(5,.n k)]) (fun k=>[]) (a.length) (fun k=>((a.drop k=b.drop k)↔a=b)) ?_;rintro k ⟨hk,hg⟩;rcases Nat.lt_or_ge k a.length with hlt|hge
 ·rw[zae hlt,zae (l:=b) (i:=k) (by omega),List.cons.injEq]at hg
  (repeat' first|refine zaa yf fun K hK=>?_|exact wt|refine wA ?_|(refine wB ?_ ?_<;>intro h<;>first|exact wN h|subst (h:(_:Bool)=_)|skip)|(refine wQ ?_;clear hQ hR hE hM)|fail)
  ·have:¬a=b:=by rw[<-hg];grind
   simp[this]
  ·exact ⟨k+1,by omega,⟨by omega,by rw[<-hg];grind⟩,(by (try dsimp only);(first|omega|(simp;done)|(simp;omega)))⟩
 ·rw[List.drop_eq_nil_of_le hge,List.drop_eq_nil_of_le (by omega)]at hg
  (repeat' first|refine zaa yf fun K hK=>?_|exact wt|refine wA ?_|(refine wB ?_ ?_<;>intro h<;>first|exact wN h|subst (h:(_:Bool)=_)|skip)|(refine wQ ?_;clear hQ hR hE hM)|fail)
  simp[<-hg]
theorem zk6 (a b:TrainD):a=b↔a.id=b.id/\a.secs=b.secs/\a.fr=b.fr/\a.ed=b.ed/\a.rt=b.rt/\a.pl=b.pl/\a.may=b.may/\a.nx=b.nx:=by cases a;cases b;simp
theorem zoY (hH:HasAll P inv) (a b:TrainD) (hl:b.secs.length<=1000000000):PC P inv 392 [.agg a.c,.agg b.c] (·=.b (decide (a=b))):=by
 have c0:=zrr hH a.secs b.secs hl;have e:=zk6 a b;refine wf hH cd392 fun w0 M Q hM hE hQ hR=>?_;refine wq ?_
 (repeat' first|refine zaa [0,1,2,3,4] fun K hK=>?_|exact wt|refine wA ?_|(refine wB ?_ ?_<;>intro h<;>first|exact wN h|subst (h:(_:Bool)=_)|skip)|(refine wQ ?_;clear hQ hR hE hM)|refine wC c0 ?_|fail)
 all_goals first|rfl|(simp[e, *];done)
theorem zom:∀ (l:List TrainD) (n:Nat),l.length<=n->gTrF l n=false->∀ t∈l,t.secs.length<=30
 |[],_,_,_=>fun r hr=>nomatch hr
 |x::l,0,h,_=>by simp at h
 |x::l,n+1,h,hg=>by
  rw[gTrF,Bool.or_eq_false_iff]at hg;intro r hr;rcases List.mem_cons.1 hr with e|e
  ·have:=of_decide_eq_false hg.1
   rw[e];omega
  ·exact zom l n (by simpa using h) hg.2 r e
theorem sm31 {p:Pln} (hp:Pln.ok p) (h:gPl p=false):Sm p:=by
 unfold gPl at h;simp only[Bool.or_eq_false_iff,decide_eq_false_iff_not,Int.not_lt]at h;obtain ⟨h1,h2,h3,h4,h5⟩:=h;have hs:p.sections.length<=40:=by
  unfold zeL at h2;simp only[Bool.or_eq_false_iff,decide_eq_false_iff_not,Int.not_lt]at h2;omega
 obtain ⟨_,_,a3,a4,a5,a6⟩:=hp;refine ⟨by omega,fun s hs=>?_,by omega,by omega,by omega,fun r hr=>?_⟩
 ·have:=(a3.2 s hs).2.2.1
  exact Nat.le_trans this (by decide)
 ·have:=a6.2 r hr
  exact ⟨Nat.le_trans this.2.2.2.1.1 (by decide),Nat.le_trans this.2.2.2.2.1.1 (by decide),Nat.le_trans this.2.2.2.2.2.1.1 (by decide)⟩
theorem tr31 {l:List TrainD} (h:gTr l=false):l.length<=30/\∀ t∈l,t.secs.length<=30:=by
 unfold gTr at h;simp only[Bool.or_eq_false_iff,decide_eq_false_iff_not,Int.not_lt]at h;exact ⟨by omega,zom l 30 (by omega) h.1⟩
end Go.Lev
