/-
  Contracts of functions. Conditions: those that each theorem names.
-/
import Derived.Test.YtjfongdncghjmaaGreatL19
import Derived.Test.YtjfongdncghjmaaGreatL20
set_option linter.unusedSimpArgs false
set_option linter.unusedVariables false
set_option linter.unusedSectionVars false
namespace Go.Lev
open Go.Eng
set_option maxRecDepth 10000
set_option maxHeartbeats 8000000
variable {P:Program} {inv:Nat->Option Nat} {w0:World} {M:Nat->Prop}
def putG (p:Pln) (s:State) (l:List TrainD) (m:MoveD) (S:Section):AV :=
 cond (decide (0<S.pt)) (zbJ 2 [] []) (cond (decide (m.ed<0)) (zbJ 2 [] []) (cond (decide (1<m.ed)) (zbJ 2 [] [])
  (cond (!decide (nth (zbz p s).1 S.id.toNat=0)) (zbJ 182 [] []) (cond (zp4 l S.id) (zbJ 182 [] []) (cond (!decide (zd2 s S.id=0)) (zbJ 182 [] [])
   (zbJ 0 (zfe l (znY m S)) [(S.id,1)]))))))
def putGO (p:Pln) (s:State) (l:List TrainD) (m:MoveD) (S:Section):Option AV :=
 cond (decide (0<S.pt)) (some (zbJ 2 [] [])) (cond (decide (m.ed<0)) (some (zbJ 2 [] [])) (cond (decide (1<m.ed)) (some (zbJ 2 [] []))
  (cond (!decide (nth (zbz p s).1 S.id.toNat=0)) (some (zbJ 182 [] [])) (cond (zp4 l S.id) (some (zbJ 182 [] [])) (cond (!decide (zd2 s S.id=0)) (some (zbJ 182 [] [])) none)))))
def zcu (p:Pln) (s:State) (l:List TrainD) (m:MoveD):Option AV :=
 cond (decide ((8:Int)<=(l.length:Int))) (some (zbJ 9 [] [])) (cond (decide (m.tr<1)) (some (zbJ 2 [] [])) (cond (decide (99<m.tr)) (some (zbJ 2 [] [])) (cond (decide (zcB l m.tr<0))
  (cond (!decide ((zaz p.sections m.sec).2=0)) (some (zbJ (zaz p.sections m.sec).2 [] [])) (putGO p s l m (zaz p.sections m.sec).1)) (some (zbJ 2 [] [])))))
def putF (p:Pln) (s:State) (l:List TrainD) (m:MoveD):AV :=
 cond (decide ((8:Int)<=(l.length:Int))) (zbJ 9 [] []) (cond (decide (m.tr<1)) (zbJ 2 [] []) (cond (decide (99<m.tr)) (zbJ 2 [] []) (cond (decide (zcB l m.tr<0))
  (cond (!decide ((zaz p.sections m.sec).2=0)) (zbJ (zaz p.sections m.sec).2 [] []) (putG p s l m (zaz p.sections m.sec).1)) (zbJ 2 [] []))))
theorem zfD (hH:HasAll P inv) (l:List TrainD) (hl:l.length<=1000) (hls:∀ t∈l,t.secs.length<=1000) (S:Section):PC P inv 253 [.sl 8 (l.map TrainD.c),.fn 254 [.ip 3 [S.c] 0 0]] (·=.b (zp4 l S.id)) :=
 any_trn hH (p:=fun t=>t.secs.any fun x=>decide (x=S.id)) l (fun x hx=>is254_pc hH S x (hls x hx)) (by omega)
theorem putO_eq (p:Pln) (s:State) (l:List TrainD) (m:MoveD):putF p s l m=(zcu p s l m).getD (zbJ 0 (zfe l (znY m (zaz p.sections m.sec).1)) [((zaz p.sections m.sec).1.id,1)]):=by
 unfold putF zcu putG putGO;cases decide ((8:Int)<=(l.length:Int))<;>try rfl
 cases decide (m.tr<1)<;>try rfl
 cases decide (99<m.tr)<;>try rfl
 cases decide (zcB l m.tr<0)<;>try rfl
 cases decide ((zaz p.sections m.sec).2=0)<;>try rfl
 cases decide (0<(zaz p.sections m.sec).1.pt)<;>try rfl
 cases decide (m.ed<0)<;>try rfl
 cases decide (1<m.ed)<;>try rfl
 cases decide (nth (zbz p s).1 (zaz p.sections m.sec).1.id.toNat=0)<;>try rfl
 cases zp4 l (zaz p.sections m.sec).1.id<;>try rfl
 cases decide (zd2 s (zaz p.sections m.sec).1.id=0)<;>rfl
structure PutK (p:Pln) (s:State) (l:List TrainD) (tr se ed:Int) (S:Section):Prop where
 room:l.length<8
 tr1:1<=tr
 tr9:tr<=99
 at0:zcB l tr<0
 sec:zaz p.sections se=(S,0)
 pt:S.pt<=0
 ed0:0<=ed
 ed1:ed<=1
 hold:nth (zbz p s).1 S.id.toNat=0
 free:zp4 l S.id=false
 is0:zd2 s S.id=0
theorem zqF {p:Pln} {s:State} {l:List TrainD} {tr se ed:Int} {kd:Int} (h:zcu p s l ⟨kd,tr,se,ed⟩=none):PutK p s l tr se ed (zaz p.sections se).1:=by
 unfold zcu putGO at h;dsimp only at h;have k:∀ {b:Bool} {x y:Option AV},cond b x y=none->x.isSome=true->b=false/\y=none:=fun {b x y} h1 h2=>by
  cases b with
  |true=>rw[show x=none from h1]at h2;cases h2
  |false=>exact ⟨rfl,h1⟩
 obtain ⟨a1,h⟩:=k h rfl;obtain ⟨a2,h⟩:=k h rfl;obtain ⟨a3,h⟩:=k h rfl;cases a4:decide (zcB l tr<0) with
 |false=>rw[a4]at h;cases h
 |true =>
  rw[a4]at h;obtain ⟨a5,h⟩:=k (show cond (!decide ((zaz p.sections se).2=0)) _ _=none from h) rfl
  obtain ⟨a6,h⟩:=k h rfl;obtain ⟨a7,h⟩:=k h rfl;obtain ⟨a8,h⟩:=k h rfl;obtain ⟨a9,h⟩:=k h rfl;obtain ⟨b1,h⟩:=k h rfl;obtain ⟨b2,h⟩:=k h rfl;simp only[Bool.not_eq_false',decide_eq_true_eq,decide_eq_false_iff_not]at a1 a2 a3 a4 a5 a6 a7 a8 a9 b2;exact ⟨by omega,by omega,by omega,a4,Prod.ext rfl a5,by omega,by omega,by omega,a9,b1,b2⟩
theorem putNo_pc (hH:HasAll P inv) (hI:HasIds P inv) (p:Pln) (hp:Sm p) (s:State) (hs:SmS s) (l:List TrainD) (hl:l.length<=1000) (hls:∀ t∈l,t.secs.length<=1000) (hc:ckC p s l=0) (tr se ed:Int) (X:AV) (hF:zcu p s l ⟨1,tr,se,ed⟩=some X) :
  PC P inv 210 [.agg p.c,.agg s.c,.agg (wld l),.agg [.i .u8 1,.n tr,.n se,.n ed]] (·=X):=by
 have c0:=zbj hH hI p hp s hs l hl hls;have c1:=zdf hH l (by omega) hls
 have c2:=zb0 hH l hl tr;have hst:=((zbH p s l).1 hc).1;have hT:=((zbH p s l).1 hc).2;have ho:=zar hst;have hen:∀ x∈p.sections,x.ends.length<=3:=fun x hx=>(zaP ho.sec x hx).2.2.2.2
 have c3:=zdC hH p.sections se (Nat.le_trans hp.sec (by omega)) (fun x hx=>Nat.le_trans (hen x hx) (by omega))
 rw[hc]at c0;unfold zcu putGO zbJ at hF;dsimp only at hF;unfold wld at *;have hat:zcB l tr<l.length:=by
  rcases zb4 l tr with ⟨e,_⟩|⟨k,hk,e,_⟩<;>rw[e]<;>omega
 by_cases hf:(zaz p.sections se).2=0
 ·have hm:=zgf hf
  have hsm:zkJ p (zaz p.sections se).1.id=true:=List.any_eq_true.2 ⟨_,hm.1,by simp⟩
  have c4:=ziD hH hI p hp s hs (zaz p.sections se).1.id;have c5:=zfD hH l hl hls (zaz p.sections se).1;have c6:=zfd hH p s hs hst (zaz p.sections se).1.id;unfold zgY at c4;rw[if_pos hst,if_pos hsm]at c4;unfold stn at c6;have hz:decide ((zaz p.sections se).2=0)=true:=decide_eq_true hf;rw[hz]at hF;clear hT hst ho hen hsm hm;generalize (zaz p.sections se).1=S at *;generalize nth (zbz p s).1 S.id.toNat=G at *;generalize zp4 l S.id=sd at *;refine wf hH cd210 fun w0 M Q hM hE hQ hR=>?_;refine wq ?_
  skip
  skip
  (have hX:=@hf;(repeat' first|refine zaa yd fun K hK=>?_|exact wt|refine wA ?_|(refine wE ?_ ?_<;>intro h0 h<;>first|exact wN h|((try replace hF:=wX hF);clear h0;first|exact hF.elim|((try subst (h:(_:Bool)=_));try replace hF:=wX hF)))|(refine wQ ?_;clear hQ hR)|refine wC c0 ?_|refine wO c1 ?_|(refine wI hH cd226 100 fun Q hQ hR=>?_;refine wq ?_;try refine wD ?_)|(refine wI hH cd230 200 fun Q hQ hR=>?_;refine wq ?_;try refine wD ?_)|(refine wI hH cd252 300 fun Q hQ hR=>?_;refine wq ?_;try refine wD ?_)|refine wS c2 ?_|refine wU c3 ?_|refine wC c4 ?_|refine wS c5 ?_|refine wC c6 ?_|fail);all_goals clear hX)
  all_goals first|exact Option.some.inj hF|(exfalso;contradiction)|(exfalso;omega)
 ·have hz:decide ((zaz p.sections se).2=0)=false:=decide_eq_false hf
  rw[hz]at hF;clear hT hst ho hen;generalize zaz p.sections se=S at *;refine wf hH cd210 fun w0 M Q hM hE hQ hR=>?_;refine wq ?_
  skip
  skip
  (repeat' first|refine zaa yd fun K hK=>?_|exact wt|refine wA ?_|(refine wE ?_ ?_<;>intro h0 h<;>first|exact wN h|((try replace hF:=wX hF);clear h0;first|exact hF.elim|((try subst (h:(_:Bool)=_));try replace hF:=wX hF)))|(refine wQ ?_;clear hQ hR)|refine wC c0 ?_|refine wO c1 ?_|(refine wI hH cd226 100 fun Q hQ hR=>?_;refine wq ?_;try refine wD ?_)|(refine wI hH cd230 200 fun Q hQ hR=>?_;refine wq ?_;try refine wD ?_)|(refine wI hH cd252 300 fun Q hQ hR=>?_;refine wq ?_;try refine wD ?_)|refine wS c2 ?_|refine wU c3 ?_|fail)
  all_goals first|exact Option.some.inj hF|(exfalso;contradiction)|(exfalso;omega)
theorem xr0_ins0 {t:TrainD} {q:Nat} {A:List (Int×Int)} {σ:AS} {r:AV} (hr:r=.tup [.agg [.sm 104 8 0 1 8],zpO A,.n 0]) (hg:zah σ 104=some (.cells (tX t (.sm q 1 0 1 1)) true))
  (hq:zah σ q=some (.cells (t.secs.map zaJ).flatten true)) (hq2:105<=q/\q<2000) (ht:t.secs.length=1):XR0 [t] A r σ:=by
 refine ⟨[tX t (.sm q 1 0 1 1)],hr,by rw[hg];simp,⟨by simp,by simp,by simp⟩,fun c hc=>?_,fun c hc=>?_,fun i hi=>?_⟩
 ·rw[List.mem_singleton.1 hc];rfl
 ·rw[List.mem_singleton.1 hc,zmw];simp only[AV.bound];omega
 ·obtain rfl:i=0:=by simpa using hi
  refine ⟨q,t.secs, ?_,hq,hq2,(List.take_length ..).symm,Nat.le_refl _⟩;show some _=some (tX t (.sm q t.secs.length 0 t.secs.length 1))
  rw[ht]
theorem putA0 (hH:HasAll P inv) (hI:HasIds P inv) (hIn:HasIns P inv) (p:Pln) (hp:Sm p) (s:State) (hs:SmS s) (hc:ckC p s []=0) (tr se ed:Int) {S:Section} (hk:PutK p s [] tr se ed S) (hM:∀ b,M b->b<w0.heap.size) :
  AC P inv w0 M 0 210 [.agg p.c,.agg s.c,.agg (wld []),.agg [.i .u8 1,.n tr,.n se,.n ed]] [] (XR0 [znY ⟨1,tr,se,ed⟩ S] [(S.id,1)]):=by
 obtain ⟨r8,k1,k9,ka,kf,kp,k0,ke,kh,kt,ki⟩:=hk;have hst:=((zbH p s []).1 hc).1;have hen:∀ x∈p.sections,x.ends.length<=3:=fun x hx=>(zaP (zar hst).sec x hx).2.2.2.2
 have c0:=zbj hH hI p hp s hs [] (by decide) (by decide)
 rw[hc]at c0;have c1:=zdf hH [] (by decide) (by decide)
 have c2:=zb0 hH [] (by decide) tr
 rw[show zcB [] tr=-1 from rfl]at c2
 have c3:=zdC hH p.sections se (Nat.le_trans hp.sec (by omega)) (fun x hx=>Nat.le_trans (hen x hx) (by omega))
 have hf:(zaz p.sections se).2=0:=by rw[kf]
 have hm9:=(zgf hf).1;rw[kf]at c3 hm9;dsimp only at c3 hm9;have hsm:zkJ p S.id=true:=List.any_eq_true.2 ⟨_,hm9,by simp⟩
 have c4:=ziD hH hI p hp s hs S.id;unfold zgY at c4;rw[if_pos hst,if_pos hsm,kh]at c4;have c5:=zfD hH [] (by decide) (by decide) S
 rw[show zp4 [] S.id=false from rfl]at c5
 have c6:=zfd hH p s hs hst S.id;rw[ki]at c6;have c7:=bsT_pc hH [] tr (by decide) (by decide) (by omega)
 rw[show bsT [] tr 0 ([]:List TrainD).length=0 from zk2,show fndT [] tr=false by unfold fndT;simp]at c7
 have c8:=zex hH S.id 1 (by decide)
 clear hc hst hen hf hm9 hsm kh kt ki;unfold wld at *;unfold stn at c6;dsimp only[List.map,List.length,List.flatten]at c0 c1 c2 c5 c7 |-
 refine zad (F:=cd210) (hH.has _ _ rfl) (Nat.le_of_ble_eq_true rfl) fun Q hQ hR=>?_;have hE:=hH.callable;dsimp only[cd210]at hQ |-;refine wq ?_
 skip
 (repeat' first|refine zaa yd fun K hK=>?_|exact wt|refine wA ?_|(refine wB ?_ ?_<;>intro h<;>first|exact wN h|subst (h:(_:Bool)=_)|skip)|(refine wQ ?_;clear hQ hR)|refine wC c0 ?_|refine wO c1 ?_|(refine wI hH cd226 100 fun Q hQ hR=>?_;refine wq ?_;try refine wD ?_)|(refine wI hH cd230 1200 fun Q hQ hR=>?_;refine wq ?_;try refine wD ?_)|(refine wI hH cd252 1300 fun Q hQ hR=>?_;refine wq ?_;try refine wD ?_)|refine wS c2 ?_|refine wU c3 ?_|refine wC c4 ?_|refine wS c5 ?_|refine wC c6 ?_|refine wS c7 ?_|refine wC c8 ?_|(refine wJ 1500 ((zrs (n:=0) (i:=0) hIn.trn (by omega) rfl rfl (by decide) rfl rfl rfl (by omega) (by omega))) ?_;try refine wD ?_)|fail)
 exact xr0_ins0 (q:=1302) rfl rfl rfl (by omega) rfl
theorem zkF {R:Type} {n:Nat} {q:Nat->Bool} {r:R} {fin:Unit->R}:zaZ (fun k _ za0=>cond (q k) r (za0 ())) fin n 0 ()=cond ((List.range n).any q) r (fin ()):=by
 generalize hX:cond ((List.range n).any q) r (fin ())=X;refine zaE (·=X) (fun k _=>(List.range k).any q=false) rfl ?_ ?_
 ·intro k _ za0 hk hI hn
  cases hq:q k with
  |true =>
   have:(List.range n).any q=true:=List.any_eq_true.2 ⟨k,List.mem_range.2 hk,hq⟩;rw[this]at hX;exact hX
  |false =>
   refine hn () ?_;rw[List.range_succ,List.any_append,hI];simp[hq]
 ·intro _ hI
  rw[hI]at hX;exact hX
theorem zii {α:Type} [Inhabited α] (f:α->Bool) (l:List α):((List.range l.length).any fun k=>f (nth l k))=l.any f:=by
 rw[Bool.eq_iff_iff,List.any_eq_true,List.any_eq_true];constructor
 ·rintro ⟨k,hk,e⟩;exact ⟨_,zac (List.mem_range.1 hk),e⟩
 ·rintro ⟨x,hx,e⟩
  obtain ⟨k,hk,rfl⟩:=zbN hx;exact ⟨k,List.mem_range.2 hk,e⟩
def rpvF (s:State) (pa ov:List Int) (as:List AskR) (L:AskR->Int):Bool :=
 zaZ (fun i _ za0=>cond (!decide (zd2 s (nth pa i)=0)) false (za0 ()))
  (fun _=>zaZ (fun i _ za0=>cond (!decide (zd2 s (nth ov i)=0)) false (za0 ()))
   (fun _=>zaZ (fun i _ za0=>cond (!decide (L (nth as i)=(nth as i).lie)) false (za0 ())) (fun _=>true) as.length 0 ()) ov.length 0 ()) pa.length 0 ()
theorem rpvF_eq {p:Pln} {s:State} (h:zav p s=0) {i:Nat} (hi:i<p.routes.length) (hph:(nth s.locks i).phase=1) {L:AskR->Int} (hL:∀ a∈zeX p i,zpM s a=decide (L a=a.lie)) :
  rpvF s (zao p (nth p.routes i)).1.path (zao p (nth p.routes i)).1.over (zeX p i) L=zdh p s (nth p.routes i):=by
 have ho:=zar h;have hpa:=(zam h).2.1;have hpl:=zaC hpa;have hset:zmG s (nth p.routes i).id=true:=by
  rw[rt_id hpa (by omega)]
  exact (znT h (by omega)).2 hph
 have e1:∀ l:List Int,(l.any fun m=>!frT s m)=l.any fun x=>!decide (zd2 s x=0):=fun l=>by
  congr 1;funext m;rw[zrU ho hpa]
 have e2:((zao p (nth p.routes i)).1.asks.any fun a=>!zpM s a)=(zeX p i).any fun a=>!decide (L a=a.lie):=by
  rw[Bool.eq_iff_iff,List.any_eq_true,List.any_eq_true];constructor
  ·rintro ⟨a,ha,e⟩;exact ⟨a,ha,by rw[<-hL a ha];exact e⟩
  ·rintro ⟨a,ha,e⟩;exact ⟨a,ha,by rw[hL a ha];exact e⟩
 unfold rpvF zdh zik;rw[hset,e1,e1,e2,zkF,zkF,zkF,zii (fun x=>!decide (zd2 s x=0)),zii (fun x=>!decide (zd2 s x=0)),zii (fun a:AskR=>!decide (L a=a.lie))]
 cases (zao p (nth p.routes i)).1.path.any fun x=>!decide (zd2 s x=0)<;>cases (zao p (nth p.routes i)).1.over.any fun x=>!decide (zd2 s x=0)<;>cases (zeX p i).any fun a=>!decide (L a=a.lie)<;>rfl
theorem prv_ph {p:Pln} {s:State} (h:zav p s=0) {i:Nat} (hi:i<p.routes.length) (hph:¬(nth s.locks i).phase=1):zdh p s (nth p.routes i)=false:=by
 cases e:zdh p s (nth p.routes i) with
 |false=>rfl
 |true=>exact absurd ((prv_iff h hi).1 e).ph hph
end Go.Lev
