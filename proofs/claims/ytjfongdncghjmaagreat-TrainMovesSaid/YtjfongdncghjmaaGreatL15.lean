/-
  Contracts of functions. Conditions: those that each theorem names.
-/
import Derived.Test.YtjfongdncghjmaaGreatL11
set_option linter.unusedSimpArgs false
set_option linter.unusedVariables false
set_option linter.unusedSectionVars false
namespace Go.Lev
open Go.Eng
set_option maxRecDepth 10000
set_option maxHeartbeats 8000000
variable {P:Program} {inv:Nat->Option Nat} {w0:World} {M:Nat->Prop}
theorem zm7 (hH:HasAll P inv) {jc:Nat} {caps:List AV} {p:TrainD->Bool} (l:List TrainD) (hc:∀ x∈l,PC P inv jc ([.agg x.c]++caps) (·=.b (p x))) (hl:l.length<=1000000000):PC P inv 271 [.sl 8 (l.map TrainD.c),.fn jc caps] (·=.n (za1 p 0 l)):=by
 refine wf hH cd271 fun w0 M Q hM hE hQ hR=>?_;refine wq ?_
 (repeat' first|refine zaa kA fun K hK=>?_|exact wt|refine wA ?_|(refine wB ?_ ?_<;>intro h<;>first|exact wN h|subst (h:(_:Bool)=_)|skip)|(refine wQ ?_;clear hQ hR hE hM)|fail)
 refine zcC (fun k=>[(0,.sl 8 (l.map TrainD.c)),(1,.fn jc caps),(7,.n l.length),(8,.n k)]) (fun k=>[]) (l.length) (fun k=>za1 p k (l.drop k)=za1 p 0 l) ?_;rintro k ⟨hk,hg⟩;rcases Nat.lt_or_ge k l.length with hlt|hge
 ·rw[zae hlt]at hg
  rw[za1]at hg
  (repeat' first|refine zaa kA fun K hK=>?_|exact wt|refine wA ?_|(refine wB ?_ ?_<;>intro h<;>first|exact wN h|subst (h:(_:Bool)=_)|skip)|(refine wQ ?_;clear hQ hR hE hM)|(refine zak hM (hc _ (zac hlt)) ?_;try (refine wD ?_;try exact wt))|fail)
  ·rw[<-hg,if_pos h]
  ·exact ⟨k+1,by omega,⟨by omega,by rw[<-hg,if_neg (by rw[h];simp)];rfl⟩,(by (try dsimp only);(first|omega|(simp;done)|(simp;omega)))⟩
 ·rw[List.drop_eq_nil_of_le hge]at hg
  (repeat' first|refine zaa kA fun K hK=>?_|exact wt|refine wA ?_|(refine wB ?_ ?_<;>intro h<;>first|exact wN h|subst (h:(_:Bool)=_)|skip)|(refine wQ ?_;clear hQ hR hE hM)|fail)
  rw[<-hg];rfl
theorem any_trn (hH:HasAll P inv) {jc:Nat} {caps:List AV} {p:TrainD->Bool} (l:List TrainD) (hc:∀ x∈l,PC P inv jc ([.agg x.c]++caps) (·=.b (p x))) (hl:l.length<=1000000000):PC P inv 253 [.sl 8 (l.map TrainD.c),.fn jc caps] (·=.b (l.any p)):=by
 rw[<-zkL];refine wf hH cd253 fun w0 M Q hM hE hQ hR=>?_;refine wq ?_
 (repeat' first|refine zaa kL fun K hK=>?_|exact wt|refine wA ?_|(refine wB ?_ ?_<;>intro h<;>first|exact wN h|subst (h:(_:Bool)=_)|skip)|(refine wQ ?_;clear hQ hR hE hM)|refine wC (zm7 hH l hc hl) ?_|fail)
theorem is272_pc (hH:HasAll P inv) (n:Int) (x:TrainD):PC P inv 272 ([.agg x.c]++[.ip 1 [[.n n]] 0 0]) (·=.b (decide (x.id=n))):=by
 refine wf hH cd272 fun w0 M Q hM hE hQ hR=>?_;refine wq ?_
 (repeat' first|refine zaa kD fun K hK=>?_|exact wt|refine wA ?_|(refine wB ?_ ?_<;>intro h<;>first|exact wN h|subst (h:(_:Bool)=_)|skip)|(refine wQ ?_;clear hQ hR hE hM)|fail)
theorem zob (hH:HasAll P inv) (m:MoveD) (x:TrainD):PC P inv 264 ([.agg x.c]++[.ip 4 [m.c] 0 0]) (·=.b (decide (x.id=m.tr))):=by
 refine wf hH cd264 fun w0 M Q hM hE hQ hR=>?_;refine wq ?_
 (repeat' first|refine zaa kD fun K hK=>?_|exact wt|refine wA ?_|(refine wB ?_ ?_<;>intro h<;>first|exact wN h|subst (h:(_:Bool)=_)|skip)|(refine wQ ?_;clear hQ hR hE hM)|fail)
theorem zsa (hH:HasAll P inv) (x:TrainD) (n:Int) (h1:0<=x.id/\x.id<=1000) (h2:0<=n/\n<=1000):PC P inv 257 [.agg x.c,.n n] (·=.n (x.id-n)):=by
 refine wf hH cd257 fun w0 M Q hM hE hQ hR=>?_;refine wq ?_
 (repeat' first|refine zaa [0,1,2,4] fun K hK=>?_|exact wt|refine wA ?_|(refine wB ?_ ?_<;>intro h<;>first|exact wN h|subst (h:(_:Bool)=_)|skip)|(refine wQ ?_;clear hQ hR hE hM)|fail)
 all_goals first|rfl
theorem zex (hH:HasAll P inv) (id:Int) (v:Int) (hv:0<=v/\v<=255):PC P inv 259 [.n id,.i .u8 v] (·=.sl 4 [[.i .u8 1,.n id,.n v,.s0 1]]):=by
 refine wf hH cd259 fun w0 M Q hM hE hQ hR=>?_;refine wq ?_
 (repeat' first|refine zaa kL fun K hK=>?_|exact wt|refine wA ?_|(refine wB ?_ ?_<;>intro h<;>first|exact wN h|subst (h:(_:Bool)=_)|skip)|(refine wQ ?_;clear hQ hR hE hM)|fail)
 all_goals first|rfl
theorem zlP (v:Int):∀ (l:List Int) (k:Nat),(decide (0<=ziC v k l))=l.any fun x=>decide (x=v)
 |[],k=>by simp[ziC]
 |x::r,k=>by
  rw[ziC,List.any_cons];by_cases e:v=x
  ·rw[if_pos e,decide_eq_true e.symm,Bool.true_or]
   exact decide_eq_true (by omega)
  ·rw[if_neg e,decide_eq_false (p:=x=v) (fun h9=>e h9.symm),Bool.false_or]
   exact zlP v r (k+1)
theorem zrI (hH:HasAll P inv) (l:List Int) (v:Int) (hl:l.length<=1000000000):PC P inv 255 [.sl 1 (l.map zaJ),.n v] (·=.b (l.any fun x=>decide (x=v))):=by
 have c1:=zen hH l v hl;rw[<-zlP v l 0];generalize ziC v 0 l=i at *;refine wf hH cd255 fun w0 M Q hM hE hQ hR=>?_;refine wq ?_
 (repeat' first|refine zaa kL fun K hK=>?_|exact wt|refine wA ?_|(refine wB ?_ ?_<;>intro h<;>first|exact wN h|subst (h:(_:Bool)=_)|skip)|(refine wQ ?_;clear hQ hR hE hM)|refine wC c1 ?_|fail)
theorem is254_pc (hH:HasAll P inv) (S:Section) (x:TrainD) (hx:x.secs.length<=1000):PC P inv 254 ([.agg x.c]++[.ip 3 [S.c] 0 0]) (·=.b (x.secs.any fun y=>decide (y=S.id))):=by
 have c1:=zrI hH x.secs S.id (by omega)
 refine wf hH cd254 fun w0 M Q hM hE hQ hR=>?_;refine wq ?_
 (repeat' first|refine zaa kD fun K hK=>?_|exact wt|refine wA ?_|(refine wB ?_ ?_<;>intro h<;>first|exact wN h|subst (h:(_:Bool)=_)|skip)|(refine wQ ?_;clear hQ hR hE hM)|refine wC c1 ?_|fail)
def goT (p:Pln) (s:State) (t:TrainD):Int×Int×Bool :=
 if (ofW p t.rt).2=0/\t.pl<((ofW p t.rt).1.path.length:Int)-1 then (t.rt,t.pl+1,true) else
 if zhQ p (nth t.secs 0) t.ed=0 then (0,0,false) else
 if 0<prId p s (zhQ p (nth t.secs 0) t.ed) then (prId p s (zhQ p (nth t.secs 0) t.ed),0,true) else (t.nx,0,decide (0<t.may))
def nxJ (p:Pln) (t:TrainD):Join×Int:=za0 p.sections (nth t.secs 0) t.ed
def nxS (p:Pln) (t:TrainD):Section×Int:=zaz p.sections (nxJ p t).1.to
def nxE (p:Pln) (s:State) (t:TrainD):Int×Int:=outR (nxS p t).1 (nxJ p t).1.ed (zeu s (nxS p t).1.pt)
def zfr (p:Pln) (s:State) (t:TrainD):TrainD:=⟨t.id,(nxS p t).1.id::t.secs,(nxJ p t).1.ed,(nxE p s t).1,(goT p s t).1,(goT p s t).2.1,0,0⟩
def zlR (p:Pln) (t:TrainD):Int:=if 1<t.secs.length\/¬(nxJ p t).2=0\/¬(nxJ p t).1.to=0 then 2 else 0
abbrev MvR:=Int×List TrainD×List (Int×Int)
def zp4 (l:List TrainD) (n:Int):Bool:=l.any fun t=>t.secs.any fun x=>decide (x=n)
def zpK (p:Pln) (s:State) (l:List TrainD) (m:MoveD):MvR :=
 if 8<=l.length then (9,[],[]) else if m.tr<1\/99<m.tr\/0<=zcB l m.tr then (2,[],[]) else
 if (zaz p.sections m.sec).2=0 then
  (if 0<(zaz p.sections m.sec).1.pt\/m.ed<0\/1<m.ed then (2,[],[]) else
   if ¬nth (zbz p s).1 (zaz p.sections m.sec).1.id.toNat=0\/zp4 l (zaz p.sections m.sec).1.id=true\/¬zd2 s (zaz p.sections m.sec).1.id=0 then (182,[],[]) else
   (0,zfe l (znY m (zaz p.sections m.sec).1),[((zaz p.sections m.sec).1.id,1)]))
 else ((zaz p.sections m.sec).2,[],[])
def zhq (p:Pln) (s:State) (l:List TrainD) (k:Nat) (t:TrainD):MvR :=
 if 4<=t.secs.length then (9,[],[]) else if (goT p s t).2.2=false\/¬(nxJ p t).2=0\/(nxJ p t).1.to=0 then (310,[],[]) else
 if (nxS p t).2=0 then (if (nxE p s t).2=0 then (0,l.set k (zfr p s t),[((nxS p t).1.id,1)]) else (310,[],[])) else ((nxS p t).2,[],[])
def zja (l:List TrainD) (k:Nat) (t:TrainD):MvR:=if t.secs.length=1 then (2,[],[]) else (0,l.set k (zmv t),[(nth t.secs (t.secs.length-1),0)])
def zi9 (l:List TrainD) (k:Nat) (t:TrainD):MvR:=if 1<t.secs.length then (2,[],[]) else (0,l.set k (zjV t),[])
def zje (p:Pln) (l:List TrainD) (k:Nat) (t:TrainD):MvR:=if zlR p t=0 then (0,l.eraseIdx k,[(nth t.secs 0,0)]) else (2,[],[])
def zgC (p:Pln) (s:State) (l:List TrainD) (n:Int) (f:Nat->TrainD->MvR):MvR:=if zcB l n<0 then (6,[],[]) else f (zcB l n).toNat (nth l (zcB l n).toNat)
def mvR (p:Pln) (s:State) (l:List TrainD) (m:MoveD):MvR :=
 if ckC p s l=0 then
  (if m.kind=1 then zpK p s l m else if m.kind=2 then zgC p s l m.tr (zhq p s l) else if m.kind=3 then zgC p s l m.tr (zja l) else if m.kind=4 then zgC p s l m.tr (zi9 l) else if m.kind=5 then zgC p s l m.tr (zje p l) else (2,[],[]))
 else (ckC p s l,[],[])
theorem mvR_no (p:Pln) (s:State) (l:List TrainD) (m:MoveD) (h:¬(mvR p s l m).1=0):(mvR p s l m).2=([],[]):=by
 revert h;unfold mvR;split
 ·split
  ·unfold zpK;repeat' split
   all_goals first|(intro _;rfl)|(intro h;exact absurd rfl h)
  ·split
   ·unfold zgC zhq;repeat' split
    all_goals first|(intro _;rfl)|(intro h;exact absurd rfl h)
   ·split
    ·unfold zgC zja;repeat' split
     all_goals first|(intro _;rfl)|(intro h;exact absurd rfl h)
    ·split
     ·unfold zgC zi9;repeat' split
      all_goals first|(intro _;rfl)|(intro h;exact absurd rfl h)
     ·split
      ·unfold zgC zje;repeat' split
       all_goals first|(intro _;rfl)|(intro h;exact absurd rfl h)
      ·intro _;rfl
 ·intro _;rfl
theorem zmb (hH:HasAll P inv) (l:List TrainD) (h:l.length<=1000000):PO P inv 235 [.sl 8 (l.map TrainD.c)] (.sm 0 (l.length*8) 0 l.length 8) [(0,.cells (l.map TrainD.c).flatten (decide (0<l.length)))]:=by
 refine PO.fn hH cd235 fun w0 M Q hM hE hQ hR=>?_;dsimp only[cd235]at hQ |-;refine wq ?_
 (repeat' first|refine zaa [0,2,4] fun K hK=>?_|exact wt|refine wA ?_|(refine wB ?_ ?_<;>intro h<;>first|exact wN h|subst (h:(_:Bool)=_)|skip)|(refine wR ?_;clear hQ hR hE hM)|fail)
 ·right
  have h0:l.length=0:=by assumption
  obtain rfl:=List.length_eq_zero_iff.1 h0;exact ⟨8,rfl,by simp,by simp⟩
 ·left
  constructor
  ·(refine wD ?_;try exact wt)
  ·(refine wD ?_;try exact wt)
theorem zdf (hH:HasAll P inv) (l:List TrainD) (h1:l.length<=1000) (h2:∀ t∈l,t.secs.length<=1000):PO P inv 227 [.agg (wld l)] (.agg [.sm 2 (l.length*8) 0 l.length 8]) [(2,.cells (l.map TrainD.c).flatten (decide (0<l.length)))]:=by
 have c1:=zmb hH l (by omega)
 unfold wld;refine PO.fn hH cd227 fun w0 M Q hM hE hQ hR=>?_;dsimp only[cd227]at hQ |-;refine wq ?_
 (repeat' first|refine zaa ky fun K hK=>?_|exact wt|refine wA ?_|(refine wB ?_ ?_<;>intro h<;>first|exact wN h|subst (h:(_:Bool)=_)|skip)|(refine wR ?_;clear hQ hR hE hM)|refine wO c1 ?_|fail)
 refine zaj (ι:=Nat) [1,2,10,11,12] (fun z=>[(12,.n z)]) (fun _=>[]) (fun z=>z) (l.length) (fun _=>True) (0) ?_;rintro k ⟨hk,-⟩;(try dsimp only at hk |-);rcases Nat.lt_or_ge k l.length with hlt|hge
 ·have hk9:k<l.length:=by assumption
  have c2:=zdo hH (nth l k).secs (Nat.le_trans (h2 _ (zac hk9)) (by omega))
  have f1:(l.map TrainD.c).flatten.set (k*8+1) (.sl 1 ((nth l k).secs.map zaJ))=(l.map TrainD.c).flatten:=by
   have:=zhC (c:=TrainD.c) (l:=l) (k:=k) (i:=1) hk9 (by omega) (.sl 1 ((nth l k).secs.map zaJ)) (nth l k) rfl
   rw[this,zay hk9,List.set_getElem_self]
  have fa:zb2 (l.map TrainD.c).flatten (k*8) (some 8)=some (.agg (nth l k).c):=zcj (c:=TrainD.c) (l:=l) (k:=k) hk9 (by omega)
  (have hX:=zA @f1 @fa;(repeat' first|refine zaa ky fun K hK=>?_|exact wt|refine wA ?_|(refine wB ?_ ?_<;>intro h<;>first|exact wN h|subst (h:(_:Bool)=_)|skip)|(refine wR ?_;clear hQ hR hE hM)|refine wC c2 ?_|refine wU c2 ?_|fail);all_goals clear hX)
  all_goals first|(exfalso;contradiction)|exact ⟨k+1,by omega,by omega,by omega⟩
 ·(repeat' first|refine zaa ky fun K hK=>?_|exact wt|refine wA ?_|(refine wB ?_ ?_<;>intro h<;>first|exact wN h|subst (h:(_:Bool)=_)|skip)|(refine wR ?_;clear hQ hR hE hM)|fail)
  all_goals first|(exfalso;contradiction)|skip
  all_goals (left;constructor)
  all_goals (refine wD ?_;try exact wt)
def trkB (x:Track) (y:Section):Bool:=!decide (x.id=y.id)||decide (2<x.is)
def swtB (x:Switch) (y:Pnt):Bool:=!decide (x.id=y.id)||(decide (x.lie<0)||(decide (2<x.lie)||(decide (x.call<0)||decide (2<x.call))))
def lckB (x:Lock) (y:Rte):Bool:=!decide (x.id=y.id)||!zdK x y
def prtF (p:Pln) (s:State):Bool :=
 cond (!decide ((s.tracks.length:Int)=p.sections.length)||(!decide ((s.switches.length:Int)=p.points.length)||!decide ((s.locks.length:Int)=p.routes.length))) false
  (zaZ (fun i _ za0=>cond (trkB (nth s.tracks i) (nth p.sections i)) false (za0 ()))
   (fun _=>zaZ (fun i _ za0=>cond (swtB (nth s.switches i) (nth p.points i)) false (za0 ()))
    (fun _=>zaZ (fun i _ za0=>cond (lckB (nth s.locks i) (nth p.routes i)) false (za0 ())) (fun _=>true) s.locks.length 0 ())
    s.switches.length 0 ()) s.tracks.length 0 ())
theorem zkG {n:Nat} {q:Nat->Bool} {fin:Unit->Bool} {X:Bool} (h1:∀ i,i<n->q i=true->false=X) (h2:(∀ i,i<n->q i=false)->fin ()=X):zaZ (fun i _ za0=>cond (q i) false (za0 ())) fin n 0 ()=X:=by
 refine zaE (·=X) (fun i _=>∀ j,j<i->q j=false) (fun j hj=>by omega) ?_ fun _ h=>h2 h
 intro i _ za0 hi hI hn;cases hq:q i with
 |true=>rw[cond_true];exact h1 i hi hq
 |false =>
  rw[cond_false];refine hn () fun j hj=>?_
  rcases Nat.lt_or_ge j i with h|h
  ·exact hI j h
  ·obtain rfl:j=i:=by omega
   exact hq
theorem prtF_eq (p:Pln) (s:State):prtF p s=zan p s:=by
 generalize hX:zan p s=X;have t1:∀ x y,trkB x y=!zgH x y:=fun x y=>by
  unfold trkB zgH;rw[Bool.not_and]
  congr 1
  rw[Bool.eq_iff_iff];simp
 have t2:∀ x y,swtB x y=!zjb x y:=fun x y=>by
  unfold swtB zjb zhp;rw[Bool.eq_iff_iff];simp only[Bool.or_eq_true,Bool.not_eq_true',Bool.and_eq_false_imp,decide_eq_true_eq,decide_eq_false_iff_not,Bool.and_eq_true,Bool.not_eq_true,Bool.and_eq_false_imp];constructor
  ·rintro (h|h|h|h|h)
   ·intro h1;exact absurd h1 h
   ·intro _ h1;omega
   ·intro _ h1;omega
   ·intro _ _ h1;omega
   ·intro _ _ h1;omega
  ·intro h
   by_cases h1:x.id=y.id
   ·have h2:=h h1
    by_cases h3:0<=x.lie/\x.lie<=2
    ·have h4:=h2 h3
     by_cases h5:0<=x.call
     ·have h6:=h4 h5;omega
     ·omega
    ·omega
   ·exact .inl h1
 have t3:∀ x y,lckB x y=!zev x y:=fun x y=>by
  unfold lckB zev;rw[Bool.not_and]
 have hiff:X=true↔(s.tracks.length=p.sections.length/\∀ i,i<s.tracks.length->zgH (nth s.tracks i) (nth p.sections i)=true)/\(s.switches.length=p.points.length/\∀ i,i<s.switches.length->zjb (nth s.switches i) (nth p.points i)=true)/\(s.locks.length=p.routes.length/\∀ i,i<s.locks.length->zev (nth s.locks i) (nth p.routes i)=true):=by
  rw[<-hX];unfold zan;simp only[Bool.and_eq_true,ze0]
 have bad:¬((s.tracks.length=p.sections.length/\∀ i,i<s.tracks.length->zgH (nth s.tracks i) (nth p.sections i)=true)/\(s.switches.length=p.points.length/\∀ i,i<s.switches.length->zjb (nth s.switches i) (nth p.points i)=true)/\(s.locks.length=p.routes.length/\∀ i,i<s.locks.length->zev (nth s.locks i) (nth p.routes i)=true))->false=X:=fun h=>by
  cases X with
  |false=>rfl
  |true=>exact absurd (hiff.1 rfl) h
 unfold prtF;by_cases hl:s.tracks.length=p.sections.length/\s.switches.length=p.points.length/\s.locks.length=p.routes.length
 ·rw[decide_eq_true (show (s.tracks.length:Int)=p.sections.length by omega),decide_eq_true (show (s.switches.length:Int)=p.points.length by omega),decide_eq_true (show (s.locks.length:Int)=p.routes.length by omega)]
  show zaZ _ _ _ _ _=X
  refine zkG (fun i hi hq=>bad fun h=>?_) fun h1=>zkG (fun i hi hq=>bad fun h=>?_) fun h2=>zkG (fun i hi hq=>bad fun h=>?_) fun h3=>(hiff.2 ⟨⟨hl.1,fun i hi=>?_⟩,⟨hl.2.1,fun i hi=>?_⟩,hl.2.2,fun i hi=>?_⟩).symm
  ·rw[t1,h.1.2 i hi]at hq;cases hq
  ·rw[t2,h.2.1.2 i hi]at hq;cases hq
  ·rw[t3,h.2.2.2 i hi]at hq;cases hq
  ·have:=h1 i hi;rw[t1]at this;simpa using this
  ·have:=h2 i hi;rw[t2]at this;simpa using this
  ·have:=h3 i hi;rw[t3]at this;simpa using this
 ·have:(!decide ((s.tracks.length:Int)=p.sections.length)||(!decide ((s.switches.length:Int)=p.points.length)||!decide ((s.locks.length:Int)=p.routes.length)))=true:=by
   rw[<-Bool.not_eq_false];intro hf;simp only[Bool.or_eq_false_iff,Bool.not_eq_false',decide_eq_true_eq]at hf;exact hl ⟨by omega,by omega,by omega⟩
  rw[this,cond_true];exact bad fun h=>hl ⟨h.1.1,h.2.1.1,h.2.2.1⟩
set_option maxHeartbeats 4000000
theorem zqO (hH:HasAll P inv) (p:Pln) (hp:Sm p) (s:State) (hs:SmS s) (hpa:∀ i,i<p.routes.length->(nth p.routes i).path.length<=1000000):PC P inv 304 [.agg p.c,.agg s.c] (·=.b (zan p s)):=by
 have hl1:=hs.1;have hl2:=hs.2.1;have hl3:=hs.2.2;have hp1:=hp.sec;have hp2:=hp.pts;have hp3:=hp.rte;obtain ⟨X,hF⟩:∃ X,prtF p s=X:=⟨_,rfl⟩;rw[<-prtF_eq,hF];have cP:=fun (i:Nat) (hi:i<p.routes.length)=>zqN hH (nth s.locks i) (nth p.routes i) (hpa i hi)
 clear hs hp;unfold prtF trkB swtB lckB at hF;refine wf hH cd304 fun w0 M Q hM hE hQ hR=>?_;refine wq ?_
 skip
 (repeat' first|refine zaa kZ fun K hK=>?_|exact wt|refine wA ?_|(refine wE ?_ ?_<;>intro h0 h<;>first|exact wN h|((try replace hF:=wX hF);clear h0;first|exact hF.elim|((try subst (h:(_:Bool)=_));try replace hF:=wX hF)))|(refine wQ ?_;clear hQ hR hE hM)|fail)
 all_goals first|exact hF|(exfalso;contradiction)|(exfalso;omega)|skip
 refine zaI hF fun Bd Ed hBd hEd hF=>?_;refine zaj (ι:=Nat) [2,3,4,5] (fun z=>[(5,.n z)]) (fun _=>[]) (fun z=>z) (s.tracks.length) (fun z=>(zaZ Bd Ed (s.tracks.length-z) z ()=X)) (0) ?_;rintro i ⟨hk,hF⟩;(try dsimp only at hk hF |-);rcases Nat.lt_or_ge i s.tracks.length with hlt|hge
 ·rw[zas hBd hlt]at hF;(try dsimp only at hF)
  (repeat' first|refine zaa kZ fun K hK=>?_|exact wt|refine wA ?_|(refine wE ?_ ?_<;>intro h0 h<;>first|exact wN h|((try replace hF:=wX hF);clear h0;first|exact hF.elim|((try subst (h:(_:Bool)=_));try replace hF:=wX hF)))|(refine wQ ?_;clear hQ hR hE hM)|fail)
  all_goals first|exact hF|(exfalso;contradiction)|(exfalso;omega)|exact congrArg AV.b hF|exact nX (i+1)
 ·rw[zaH hge,hEd]at hF;(try dsimp only at hF)
  (repeat' first|refine zaa kZ fun K hK=>?_|exact wt|refine wA ?_|(refine wE ?_ ?_<;>intro h0 h<;>first|exact wN h|((try replace hF:=wX hF);clear h0;first|exact hF.elim|((try subst (h:(_:Bool)=_));try replace hF:=wX hF)))|(refine wQ ?_;clear hQ hR hE hM)|fail)
  refine zaI hF fun Bd Ed hBd hEd hF=>?_;refine zaj (ι:=Nat) [2,3,4,6] (fun z=>[(6,.n z)]) (fun _=>[]) (fun z=>z) (s.switches.length) (fun z=>(zaZ Bd Ed (s.switches.length-z) z ()=X)) (0) ?_;rintro i ⟨hk,hF⟩;(try dsimp only at hk hF |-);rcases Nat.lt_or_ge i s.switches.length with hlt|hge
  ·rw[zas hBd hlt]at hF;(try dsimp only at hF)
   (repeat' first|refine zaa kZ fun K hK=>?_|exact wt|refine wA ?_|(refine wE ?_ ?_<;>intro h0 h<;>first|exact wN h|((try replace hF:=wX hF);clear h0;first|exact hF.elim|((try subst (h:(_:Bool)=_));try replace hF:=wX hF)))|(refine wQ ?_;clear hQ hR hE hM)|fail)
   all_goals first|exact hF|(exfalso;contradiction)|(exfalso;omega)|exact congrArg AV.b hF|exact nX (i+1)
  ·rw[zaH hge,hEd]at hF;(try dsimp only at hF)
   (repeat' first|refine zaa kZ fun K hK=>?_|exact wt|refine wA ?_|(refine wE ?_ ?_<;>intro h0 h<;>first|exact wN h|((try replace hF:=wX hF);clear h0;first|exact hF.elim|((try subst (h:(_:Bool)=_));try replace hF:=wX hF)))|(refine wQ ?_;clear hQ hR hE hM)|fail)
   refine zaI hF fun Bd Ed hBd hEd hF=>?_;refine zaj (ι:=Nat) [2,3,4,8] (fun z=>[(8,.n z)]) (fun _=>[]) (fun z=>z) (s.locks.length) (fun z=>(zaZ Bd Ed (s.locks.length-z) z ()=X)) (0) ?_;rintro i ⟨hk,hF⟩;(try dsimp only at hk hF |-);rcases Nat.lt_or_ge i s.locks.length with hlt|hge
   ·rw[zas hBd hlt]at hF;(try dsimp only at hF)
    have c1:=cP i (by omega)
    generalize zdK (nth s.locks i) (nth p.routes i)=b at *
    (repeat' first|refine zaa kZ fun K hK=>?_|exact wt|refine wA ?_|(refine wE ?_ ?_<;>intro h0 h<;>first|exact wN h|((try replace hF:=wX hF);clear h0;first|exact hF.elim|((try subst (h:(_:Bool)=_));try replace hF:=wX hF)))|(refine wQ ?_;clear hQ hR hE hM)|refine wC c1 ?_|fail)
    all_goals first|exact hF|(exfalso;contradiction)|(exfalso;omega)|exact congrArg AV.b hF|exact nX (i+1)
   ·rw[zaH hge,hEd]at hF;(try dsimp only at hF)
    (repeat' first|refine zaa kZ fun K hK=>?_|exact wt|refine wA ?_|(refine wE ?_ ?_<;>intro h0 h<;>first|exact wN h|((try replace hF:=wX hF);clear h0;first|exact hF.elim|((try subst (h:(_:Bool)=_));try replace hF:=wX hF)))|(refine wQ ?_;clear hQ hR hE hM)|fail)
    all_goals first|exact hF|exact congrArg AV.b hF
theorem zb4 (l:List TrainD) (n:Int):(zcB l n=-1/\∀ x∈l,x.id≠n)\/∃ k:Nat,k<l.length/\zcB l n=(k:Int)/\(nth l k).id=n:=by
 unfold zcB;exact zcb TrainD.id n l
theorem at31_neg {l:List TrainD} {n:Int}:zcB l n<0↔∀ x∈l,x.id≠n:=by
 rcases zb4 l n with ⟨e,h⟩|⟨k,hk,e,h⟩
 ·exact ⟨fun _=>h,fun _=>by omega⟩
 ·exact ⟨fun h2=>by omega,fun h2=>absurd h (h2 _ (zac hk))⟩
theorem mvR_acts (p:Pln) (s:State) (l:List TrainD) (m:MoveD):(mvR p s l m).2.2.length<=1:=by
 unfold mvR;split
 ·split
  ·unfold zpK;repeat' split
   all_goals simp
  ·split
   ·unfold zgC zhq;repeat' split
    all_goals simp
   ·split
    ·unfold zgC zja;repeat' split
     all_goals simp
    ·split
     ·unfold zgC zi9;repeat' split
      all_goals simp
     ·split
      ·unfold zgC zje;repeat' split
       all_goals simp
      ·simp
 ·simp
theorem mvR_secs (p:Pln) (s:State) {l:List TrainD} (m:MoveD) {n:Nat} (h:∀ t∈l,t.secs.length<=n):∀ t∈(mvR p s l m).2.1,t.secs.length<=n+1:=by
 have hn:∀ t∈([]:List TrainD),t.secs.length<=n+1:=fun t ht=>nomatch ht
 have hl:∀ t∈l,t.secs.length<=n+1:=fun t ht=>Nat.le_succ_of_le (h t ht)
 have hs:∀ (k:Nat) (x:TrainD),x.secs.length<=n+1->∀ t∈l.set k x,t.secs.length<=n+1:=fun k x hx t ht=>by
  rcases List.mem_or_eq_of_mem_set ht with h|h
  ·exact hl t h
  ·subst h;exact hx
 have ho:∀ (f:Nat->TrainD->MvR),(∀ k,k<l.length->∀ t∈(f k (nth l k)).2.1,t.secs.length<=n+1)->∀ t∈(zgC p s l m.tr f).2.1,t.secs.length<=n+1:=fun f hf=>by
  unfold zgC;rcases zb4 l m.tr with ⟨e,_⟩|⟨k,hk,e,_⟩
  ·rw[if_pos (by omega)];exact hn
  ·rw[if_neg (by omega),e,Int.toNat_natCast]
   exact hf k hk
 unfold mvR;split
 ·split
  ·unfold zpK
   repeat' split
   all_goals first|exact hn|skip
   intro t ht;unfold zfe at ht;rcases List.mem_append.1 ht with h|h
   ·exact hl t ((List.takeWhile_prefix _).subset h)
   ·rcases List.mem_cons.1 h with h|h
    ·subst h;simp[znY]
    ·exact hl t ((List.dropWhile_suffix _).subset h)
  ·split
   ·refine ho _ fun k hk=>?_
    have:=h _ (zac hk);unfold zhq
    repeat' split
    all_goals first|exact hn|(refine hs _ _ ?_;unfold zfr;simp;omega)
   ·split
    ·refine ho _ fun k hk=>?_
     have:=h _ (zac hk);unfold zja;split
     ·exact hn
     ·refine hs _ _ ?_;unfold zmv;simp;omega
    ·split
     ·refine ho _ fun k hk=>?_
      have:=h _ (zac hk);unfold zi9;split
      ·exact hn
      ·refine hs _ _ ?_;unfold zjV;simp;omega
     ·split
      ·refine ho _ fun k hk=>?_
       unfold zje;split
       ·exact fun t ht=>hl t (List.mem_of_mem_eraseIdx ht)
       ·exact hn
      ·exact hn
 ·exact hn
def znU (p:Pln) (i:Nat):List Int:=(zao p (nth p.routes i)).1.path++(zao p (nth p.routes i)).1.over
def zeX (p:Pln) (i:Nat):List AskR:=(zao p (nth p.routes i)).1.asks
theorem zrh {p:Pln} {n:Int} (h:∃ x∈p.points,x.id=n):zri p n=true:=by
 obtain ⟨x,hx,e⟩:=h;exact List.any_eq_true.2 ⟨x,hx,by simpa using e⟩
theorem ziA {p:Pln} (h:OkP p) {r:Rte} (hr:r∈p.routes) {a:AskR} (ha:a∈(zao p r).1.asks):zri p a.pnt=true:=zrh (zdF h hr ha).1
def RtOk (p:Pln) (t:TrainD):Prop:=((ofW p t.rt).2=0/\0<=t.pl/\t.pl<((ofW p t.rt).1.path.length:Int)/\nth (ofW p t.rt).1.path t.pl.toNat=nth t.secs 0)\/(t.rt=0/\t.pl=0)
structure TrOk (p:Pln) (s:State) (t:TrainD):Prop where
 one:1<=t.secs.length
 four:t.secs.length<=4
 m0:0<=t.may
 m9:t.may<=9
 sec:∀ i,i<t.secs.length->(zaz p.sections (nth t.secs i)).2=0/\¬zd2 s (nth t.secs i)=0
 lead:∀ i,0<i->i<t.secs.length->zdk p (nth t.secs (i-1)) (nth t.secs i)=true
 thru:(zb5 (zaz p.sections (nth t.secs 0)).1 t.fr t.ed).2=0
 rt:RtOk p t
 may:trE p t=true
theorem zhH {P9:Prop} [Decidable P9] {X:Bool}:cond (decide P9) false X=true↔¬P9/\X=true:=by
 by_cases h:P9
 ·rw[decide_eq_true h];simp[h]
 ·rw[decide_eq_false h];simp[h]
theorem ziU {P9:Prop} [Decidable P9] {X:Bool}:cond (!decide P9) false X=true↔P9/\X=true:=by
 by_cases h:P9
 ·rw[decide_eq_true h];simp[h]
 ·rw[decide_eq_false h];simp[h]
theorem zjW {p:Pln} {t:TrainD}:trG p t=true↔(t.rt=0/\t.pl=0)/\trE p t=true:=by
 unfold trG;rw[ziU,ziU,and_assoc]
theorem trRt_iff {p:Pln} {t:TrainD}:(cond (decide ((ofW p t.rt).2=0)) (cond (decide (0<=t.pl)) (cond (decide (t.pl<((ofW p t.rt).1.path.length:Int))) (cond (!decide (nth (ofW p t.rt).1.path t.pl.toNat=nth t.secs 0)) (trG p t) (trE p t)) (trG p t)) (trG p t)) (trG p t))=true↔RtOk p t/\trE p t=true:=by
 unfold RtOk;by_cases h1:(ofW p t.rt).2=0
 ·rw[decide_eq_true h1]
  by_cases h2:0<=t.pl
  ·rw[decide_eq_true h2]
   by_cases h3:t.pl<((ofW p t.rt).1.path.length:Int)
   ·rw[decide_eq_true h3]
    by_cases h4:nth (ofW p t.rt).1.path t.pl.toNat=nth t.secs 0
    ·rw[decide_eq_true h4];simp[h1,h2,h3,h4]
    ·rw[decide_eq_false h4]
     simp only[Bool.not_false,cond_true];rw[zjW];simp[h4]
   ·rw[decide_eq_false h3]
    simp only[cond_true,cond_false];rw[zjW];simp[h3]
  ·rw[decide_eq_false h2]
   simp only[cond_true,cond_false];rw[zjW];simp[h2]
 ·rw[decide_eq_false h1]
  simp only[cond_false];rw[zjW];simp[h1]
theorem zcE {p:Pln} {s:State} {t:TrainD}:trF p s t=true↔TrOk p s t:=by
 unfold trF;rw[zhH,zhH,zhH,zhH];have loop:(zaZ (fun i (_:Unit) za0=>cond (!decide ((zaz p.sections (nth t.secs i)).2=0)) false (cond (decide (zd2 s (nth t.secs i)=0)) false (cond (decide (0<(i:Int))) (cond (!zdk p (nth t.secs (i-1)) (nth t.secs i)) false (za0 ())) (za0 ()))))
  (fun _=>cond (!decide ((zb5 (zaz p.sections (nth t.secs 0)).1 t.fr t.ed).2=0)) false
   (cond (decide ((ofW p t.rt).2=0)) (cond (decide (0<=t.pl)) (cond (decide (t.pl<((ofW p t.rt).1.path.length:Int))) (cond (!decide (nth (ofW p t.rt).1.path t.pl.toNat=nth t.secs 0)) (trG p t) (trE p t)) (trG p t)) (trG p t)) (trG p t)))
  t.secs.length 0 ())=true↔(∀ i,i<t.secs.length->((zaz p.sections (nth t.secs i)).2=0/\¬zd2 s (nth t.secs i)=0)/\(0<i->zdk p (nth t.secs (i-1)) (nth t.secs i)=true))/\(zb5 (zaz p.sections (nth t.secs 0)).1 t.fr t.ed).2=0/\RtOk p t/\trE p t=true:=by
  refine zaE (fun r=>r=true↔(∀ i,i<t.secs.length->((zaz p.sections (nth t.secs i)).2=0/\¬zd2 s (nth t.secs i)=0)/\(0<i->zdk p (nth t.secs (i-1)) (nth t.secs i)=true))/\(zb5 (zaz p.sections (nth t.secs 0)).1 t.fr t.ed).2=0/\RtOk p t/\trE p t=true)
   (fun k _=>∀ i,i<k->((zaz p.sections (nth t.secs i)).2=0/\¬zd2 s (nth t.secs i)=0)/\(0<i->zdk p (nth t.secs (i-1)) (nth t.secs i)=true)) (fun i hi=>absurd hi (by omega)) ?_ ?_
  ·intro k _ za0 hk h1 hn
   have more:((zaz p.sections (nth t.secs k)).2=0/\¬zd2 s (nth t.secs k)=0)/\(0<k->zdk p (nth t.secs (k-1)) (nth t.secs k)=true)->_:=fun h=>hn () fun i hi=>by
    by_cases e:i=k
    ·rw[e];exact h
    ·exact h1 i (by omega)
   have key:∀ {P9:Prop},¬P9->((∀ i,i<t.secs.length->((zaz p.sections (nth t.secs i)).2=0/\¬zd2 s (nth t.secs i)=0)/\(0<i->zdk p (nth t.secs (i-1)) (nth t.secs i)=true))->P9)->(false=true↔(∀ i,i<t.secs.length->((zaz p.sections (nth t.secs i)).2=0/\¬zd2 s (nth t.secs i)=0)/\(0<i->zdk p (nth t.secs (i-1)) (nth t.secs i)=true))/\(zb5 (zaz p.sections (nth t.secs 0)).1 t.fr t.ed).2=0/\RtOk p t/\trE p t=true) :=
    fun a b=>⟨fun e=>(by cases e),fun c=>absurd (b c.1) a⟩
   (try dsimp only)
   by_cases a1:(zaz p.sections (nth t.secs k)).2=0
   ·rw[decide_eq_true a1]
    by_cases a2:zd2 s (nth t.secs k)=0
    ·rw[decide_eq_true a2]
     exact key (P9:=¬zd2 s (nth t.secs k)=0) (fun h=>h a2) fun c=>(c k hk).1.2
    ·rw[decide_eq_false a2]
     by_cases a0:0<(k:Int)
     ·rw[decide_eq_true a0]
      cases a3:zdk p (nth t.secs (k-1)) (nth t.secs k) with
      |true=>exact more ⟨⟨a1,a2⟩,fun _=>a3⟩
      |false=>exact key (P9:=zdk p (nth t.secs (k-1)) (nth t.secs k)=true) (by rw[a3];simp) fun c=>(c k hk).2 (by omega)
     ·rw[decide_eq_false a0]
      exact more ⟨⟨a1,a2⟩,fun h=>absurd h (by omega)⟩
   ·rw[decide_eq_false a1]
    exact key (P9:=(zaz p.sections (nth t.secs k)).2=0) a1 fun c=>(c k hk).1.1
  ·intro _ h1
   (try dsimp only)
   rw[ziU,trRt_iff];exact ⟨fun h=>⟨h1,h⟩,fun h=>h.2⟩
 rw[loop];constructor
 ·rintro ⟨h1,h2,h3,h4,h5,h6,h7,h8⟩
  exact ⟨by omega,by omega,by omega,by omega,fun i hi=>(h5 i hi).1,fun i h0 hi=>(h5 i hi).2 h0,h6,h7,h8⟩
 ·intro h
  have:=h.one;have:=h.four;have:=h.m0;have:=h.m9;exact ⟨by omega,by omega,by omega,by omega,fun i hi=>⟨h.sec i hi,fun h0=>h.lead i h0 hi⟩,h.thru,h.rt,h.may⟩
variable {p:Pln} {s:State}
theorem nx_at {n e:Int} (hn:(za0 p.sections n e).2=0):(zaz p.sections n).2=0/\0<=e/\e<((zaz p.sections n).1.ends.length:Int)/\(za0 p.sections n e).1=nth (zaz p.sections n).1.ends e.toNat:=by
 unfold za0 nextS at hn |-
 by_cases h:(zaz p.sections n).2=0
 ·rw[if_pos h]at hn |-
  by_cases h2:e<0\/((zaz p.sections n).1.ends.length:Int)<=e
  ·rw[if_pos h2]at hn;cases hn
  ·rw[if_neg h2]
   exact ⟨h,by omega,by omega,rfl⟩
 ·rw[if_neg h]at hn;exact absurd hn h
theorem find_of (hs:zbR p.sections=true) {n:Int} (h:∃ x∈p.sections,x.id=n):(zaz p.sections n).2=0:=by
 obtain ⟨x,hx,rfl⟩:=h;obtain ⟨i,hi,rfl⟩:=List.getElem_of_mem hx;rcases zcr p.sections[i].id p.sections 0 with ⟨_,h2⟩|⟨q,_,h2,_⟩
 ·exact absurd (by rw[zay hi]) (h2 i hi)
 ·unfold zaz
  rw[if_pos hs,if_neg (by omega)]
theorem zre (hs:zbR p.sections=true) {q e:Nat} (hq:q<p.sections.length) (he:e<(nth p.sections q).ends.length) (h0:¬(nth (nth p.sections q).ends e).to=0):(zaz p.sections (nth (nth p.sections q).ends e).to).2=0:=by
 rcases ((zeJ _).1 hs).join _ (zac hq) e he with h|⟨_,_,x,hx,h,_⟩
 ·exact absurd h.1 h0
 ·exact find_of hs ⟨x,hx,h⟩
theorem lie_pt (ho:OkP p) (hpa:zan p s=true) {q:Nat} (hq:q<p.sections.length) (h0:¬(nth p.sections q).pt=0):∃ i:Nat,i<p.points.length/\i<s.switches.length/\za1 (fun x=>decide (Pnt.id x=(nth p.sections q).pt)) 0 p.points=(i:Int)/\zeu s (nth p.sections q).pt=(nth s.switches i).lie:=by
 have h1:=(zaP ho.sec _ (zac hq)).2.2.1;obtain ⟨x,hx,e⟩:=zqn ho (zac hq) (by omega)
 rcases zfh Pnt.id (nth p.sections q).pt x p.points with ⟨_,h2⟩|⟨i,hi,h2,h3,_⟩
 ·have:=List.find?_eq_none.1 h2 x hx
  simp[e]at this
 ·have hi2:i<s.switches.length:=by rw[(zaC hpa).2.1];exact hi
  refine ⟨i,hi,hi2,h2, ?_⟩;have e1:=congrArg (fun l:List Int=>l[i]?) (zfB hpa)
  simp only[List.getElem?_map,List.getElem?_eq_getElem hi2,List.getElem?_eq_getElem hi,Option.map_some,Option.some.injEq]at e1;rw[<-zay hi2,<-zay hi,h3]at e1;unfold zeu;rw[zhE Switch.id (by rw[zfB hpa];exact zeM ho) hi2 e1]
theorem lie_0 (ho:OkP p) (hpa:zan p s=true):zeu s 0=0:=by
 unfold zeu;cases hf:s.switches.find? (fun t=>decide (t.id=0)) with
 |none=>rfl
 |some t =>
  have h1:=List.find?_some hf;simp only[decide_eq_true_eq]at h1;have h2:t.id∈s.switches.map Switch.id:=List.mem_map_of_mem (List.mem_of_find?_eq_some hf);rw[zfB hpa]at h2;obtain ⟨x,hx,e⟩:=List.mem_map.1 h2;obtain ⟨y,hy,h3,h4,_⟩:=zqH ho hx;omega
end Go.Lev
namespace Go.Eng
open Go.RowKit
section
variable {P:Program} {inv:Nat->Option Nat} {w0:World} {M:Nat->Prop} {n N:Nat} {φ:AF} {σ:AS}
theorem AWp.ghost {c:ACode} {Q:Exit->AF->AS->Prop} (l:Nat) (h1:N<=l) (h3:zax σ<=l) (h:AWp P inv w0 M N n c Q φ (sput σ l (.cells [] false))) (h2:zaM φ<=l):AWp P inv w0 M N n c Q φ σ:=by
 intro c₀ hc β a w hs;obtain ⟨hm,hx⟩:=hs.mem.empty h3;refine Code.wp_mono ?_ (h c₀ hc β a w ⟨⟨fun i=>(hx (zaM φ) h2).rel (zaK _ (zbO φ i)) (hs.slots i),hm⟩,hs.size,hs.defers⟩)
 rintro e a' w' ⟨φ2,σ2,β2,q2,hst2,hext2⟩;exact ⟨φ2,σ2,β2,q2,hst2,(hx N h1).trans hext2⟩
end
theorem zfE:∀ {σ' σ:AS},(∀ p∈σ',zah σ p.1=some p.2)->zdG σ' σ
 |[],_,_=>trivial
 |(l,o)::r,σ,h=>⟨h (l,o) (by simp),zfE fun p hp=>h p (by simp[hp])⟩
theorem zgQ {a b:Nat} {σ:AS} {l:Nat} {o:AO} (h:zah σ (swN a b l)=some o):zah (rnS (swN a b) σ) l=some (rnO (swN a b) o):=by
 have:=zka (f:=swN a b) (fun l=>zj1 a b l) σ (swN a b l)
 rw[zj1,h]at this;exact this
theorem zp1 {a b l:Nat} (h1:l≠a) (h2:l≠b):swN a b l=l:=by unfold swN;rw[if_neg h1,if_neg h2]
end Go.Eng
namespace Go.Lev
open Go.Eng
set_option maxRecDepth 10000
set_option maxHeartbeats 8000000
variable {P:Program} {inv:Nat->Option Nat} {w0:World} {M:Nat->Prop}
def tX (t:TrainD) (X:AV):List AV:=[.n t.id,X,.n t.fr,.n t.ed,.n t.rt,.n t.pl,.n t.may,.n t.nx]
def sX (m:Nat) (t:TrainD):AV:=.sm m t.secs.length 0 t.secs.length 1
def zbC (b j:Nat) (l:List TrainD):List (List AV):=l.mapIdx fun i t=>tX t (if i<j then sX (b+i) t else .sl 1 (t.secs.map zaJ))
def zbv (b:Nat) (l:List TrainD):Nat->List (Nat×AO)
 |0=>[]
 |j+1=>zbv b l j++[(b+j,.cells ((nth l j).secs.map zaJ).flatten true)]
section
variable {b:Nat} {l:List TrainD}
theorem zbL (j:Nat):∀ c∈zbC b j l,c.length=8:=fun c hc=>by
 unfold zbC at hc;obtain ⟨i,hi,rfl⟩:=List.getElem_of_mem hc;rw[List.getElem_mapIdx];rfl
theorem zaF (j:Nat):(zbC b j l).length=l.length:=by unfold zbC;rw[List.length_mapIdx]
theorem zbn {j i:Nat} (hi:i<l.length):(zbC b j l)[i]'(by rw[zaF];exact hi)=tX (nth l i) (if i<j then sX (b+i) (nth l i) else .sl 1 ((nth l i).secs.map zaJ)):=by
 unfold zbC;rw[List.getElem_mapIdx,zay hi]
theorem zqs:zbC b 0 l=l.map TrainD.c:=by
 refine List.ext_getElem (by rw[zaF,List.length_map]) fun i h1 h2=>?_
 have hi:i<l.length:=by rw[zaF]at h1;exact h1
 rw[zbn hi,if_neg (by omega),List.getElem_map,zay hi]
 rfl
theorem zqt {j:Nat} (hj:j<l.length):(zbC b j l).set j (tX (nth l j) (sX (b+j) (nth l j)))=zbC b (j+1) l:=by
 refine List.ext_getElem (by rw[List.length_set,zaF,zaF]) fun i h1 h2=>?_
 have hi:i<l.length:=by rw[zaF]at h2;exact h2
 rw[zbn hi,List.getElem_set];by_cases h:j=i
 ·subst h;rw[if_pos rfl,if_pos (by omega)]
 ·rw[if_neg h,zbn hi]
  by_cases h3:i<j
  ·rw[if_pos h3,if_pos (by omega)]
  ·rw[if_neg h3,if_neg (by omega)]
theorem zgJ:∀ (j:Nat),∀ p∈zbv b l j,b<=p.1/\p.1<b+j
 |0,p,hp=>nomatch hp
 |j+1,p,hp=>by
  rw[zbv,List.mem_append,List.mem_singleton]at hp;rcases hp with hp|rfl
  ·have:=zgJ j p hp;omega
  ·exact ⟨by simp,by simp⟩
theorem znH:∀ (j:Nat),zax (zbv b l j)<=b+j
 |0=>Nat.zero_le _
 |j+1=>by
  rw[zbv];refine (zgM _ _).2.2 _ (Nat.le_trans (znH j) (by omega)) ?_
  have h:zab ((nth l j).secs.map zaJ).flatten=0:=zd5 (c:=zaJ) _;simp only[zax,AO.bound,h,mx];simp;omega
theorem zhO {j lo hi:Nat} (h1:lo<=b) (h2:b+j<=hi):Mid (zbv b l j) lo hi :=
 ⟨fun p hp=>by have:=zgJ j p hp;omega,Nat.le_trans (znH j) h2⟩
theorem zaX {i:Nat}:∀ {j:Nat},i<j->zah (zbv b l j) (b+i)=some (.cells ((nth l i).secs.map zaJ).flatten true)
 |0,h=>absurd h (by omega)
 |j+1,h=>by
  rw[zbv,zf5];rcases Nat.lt_or_ge i j with h1|h1
  ·rw[zaX h1]
  ·obtain rfl:i=j:=by omega
   rw[zf4 fun p hp=>by have:=zgJ i p hp;omega]
   simp[zah]
theorem zmw (t:TrainD) (X:AV):zab (tX t X)=X.bound:=by
 unfold tX;simp[zab,AV.bound,mx];intro h;exact h.symm
theorem zqu {j N:Nat} (hN:b+l.length<=N):zab (zbC b j l).flatten<=N:=by
 have key:∀ CL:List (List AV),(∀ c∈CL,zab c<=N)->zab CL.flatten<=N:=fun CL h=>by
  induction CL with
  |nil=>exact Nat.zero_le _
  |cons c r ih =>
   rw[List.flatten_cons];exact zb1 (h c (by simp)) (ih fun c hc=>h c (by simp[hc]))
 refine key _ fun c hc=>?_
 obtain ⟨i,hi,rfl⟩:=List.getElem_of_mem hc;have hi':i<l.length:=by rw[zaF]at hi;exact hi
 rw[zbn hi',zmw];split
 ·unfold sX;simp only[AV.bound];omega
 ·simp[AV.bound]
end
theorem cl_rn (f:Nat->Nat):∀ CL:List (List AV),rnL f CL.flatten=(CL.map (rnL f)).flatten
 |[]=>rfl
 |c::r=>by
  have ha:∀ xs ys:List AV,rnL f (xs++ys)=rnL f xs++rnL f ys:=fun xs ys=>by
   induction xs with
   |nil=>simp only[rnL,List.nil_append]
   |cons x xs ih=>simp only[rnL,List.cons_append,ih]
  rw[List.flatten_cons,ha,cl_rn f r,List.map_cons,List.flatten_cons]
theorem row_rn {b j:Nat} {l:List TrainD} (f:Nat->Nat) (h:∀ i,i<j->f (b+i)=b+i):rnL f (zbC b j l).flatten=(zbC b j l).flatten:=by
 rw[cl_rn]
 congr 1
 refine List.ext_getElem (by rw[List.length_map]) fun i h1 h2=>?_
 have hi:i<l.length:=by rw[zaF]at h2;exact h2
 rw[List.getElem_map,zbn hi];unfold tX sX;split
 ·simp only[rnL,rnV,h i (by assumption)]
 ·simp only[rnL,rnV]
theorem zeA {b:Nat} {l:List TrainD}:∀ {j:Nat} {p:Nat×AO},p∈zbv b l j->∃ i,i<j/\p=(b+i,.cells ((nth l i).secs.map zaJ).flatten true)
 |0,p,h=>nomatch h
 |j+1,p,h=>by
  rw[zbv,List.mem_append,List.mem_singleton]at h;rcases h with h|rfl
  ·obtain ⟨i,hi,e⟩:=zeA h;exact ⟨i,by omega,e⟩
  ·exact ⟨j,by omega,rfl⟩
theorem zpV {l:List TrainD} {j:Nat} (hj:j<l.length) (hn:l.length<=900) (n:Nat) (T:AO) :
  zdG ((0,.cells [.sm 2 (n*8) 0 n 8] true)::(1,.cells [.s0 8] true)::(2,.cells (zbC 10 (j+1) l).flatten true)::tl (zbv 10 l (j+1)) [(1000,.cells [] false)])
   (rnS (swN 1002 (10+j)) ((0,.cells [.sm 2 (n*8) 0 n 8] true)::(1,.cells [.s0 8] true)::(2,.cells ((zbC 10 j l).flatten.set (j*8+1) (.sm 1002 (nth l j).secs.length 0 (nth l j).secs.length 1)) true)::tl (zbv 10 l j) [(1000,.cells [] false),(1001,T),(1002,.cells ((nth l j).secs.map zaJ).flatten true)])):=by
 have f0:∀ q,q<10->swN 1002 (10+j) q=q:=fun q hq=>zp1 (by omega) (by omega)
 have fi:∀ i,i<j->swN 1002 (10+j) (10+i)=10+i:=fun i hi=>zp1 (by omega) (by omega)
 have fa:swN 1002 (10+j) 1002=10+j:=by unfold swN;rw[if_pos rfl]
 have fb:swN 1002 (10+j) (10+j)=1002:=by unfold swN;rw[if_neg (by omega),if_pos rfl]
 have f1:swN 1002 (10+j) 1000=1000:=zp1 (by omega) (by omega)
 have hm:Mid (zbv 10 l j) 10 1000:=zhO (Nat.le_refl _) (by omega)
 refine zfE fun p hp=>?_
 simp only[List.mem_cons,tl,zbv,List.mem_append,List.not_mem_nil,or_false]at hp;rcases hp with rfl|rfl|rfl|(hp|rfl)|rfl
 ·rw[zgQ (l:=0) (by rw[f0 0 (by omega)];rfl)]
  simp only[rnO,rnL,rnV,f0 2 (by omega)]
 ·rw[zgQ (l:=1) (by rw[f0 1 (by omega)];rfl)]
  simp only[rnO,rnL,rnV]
 ·rw[zgQ (l:=2) (by rw[f0 2 (by omega)];rfl)]
  simp only[rnO,zmK,rnV,fa,row_rn _ fi];have hk:j<(zbC 10 j l).length:=by rw[zaF];exact hj
  have:=cl_set (zbL (b:=10) (l:=l) j) hk (show 1<8 by omega) (.sm (10+j) (nth l j).secs.length 0 (nth l j).secs.length 1)
  rw[this,zbn hj,<-zqt hj];rfl
 ·obtain ⟨i,hi,rfl⟩:=zeA hp
  rw[zgQ (l:=10+i) (o:=.cells ((nth l i).secs.map zaJ).flatten true)]
  ·simp only[rnO,zng (c:=zaJ)]
  ·rw[fi i hi,zah,if_neg (by omega),zah,if_neg (by omega),zah,if_neg (by omega)]
   exact zbK (zaX hi) _
 ·rw[zgQ (l:=10+j) (o:=.cells ((nth l j).secs.map zaJ).flatten true)]
  ·simp only[rnO,zng (c:=zaJ)]
  ·rw[fb,zah,if_neg (by omega),zah,if_neg (by omega),zah,if_neg (by omega),hm.get _ (by omega)]
   rfl
 ·rw[zgQ (l:=1000) (o:=.cells [] false)]
  ·simp only[rnO,rnL]
  ·rw[f1,zah,if_neg (by omega),zah,if_neg (by omega),zah,if_neg (by omega),hm.get _ (by omega)]
   rfl
theorem zfX (hH:HasAll P inv) (l:List TrainD) (h0:0<l.length) (h1:l.length<=900) (h2:∀ t∈l,1<=t.secs.length/\t.secs.length<=1000):PO P inv 227 [.agg (wld l)] (.agg [.sm 2 (l.length*8) 0 l.length 8]) ((2,.cells (zbC 10 l.length l).flatten true)::tl (zbv 10 l l.length) [(1000,.cells [] false)]):=by
 have c1:=zmb hH l (by omega)
 rw[decide_eq_true h0]at c1;unfold wld;refine PO.fn hH cd227 fun w0 M Q hM hE hQ hR=>?_;dsimp only[cd227]at hQ |-;refine wq ?_
 (repeat' first|refine zaa ky fun K hK=>?_|exact wt|refine wA ?_|(refine wB ?_ ?_<;>intro h<;>first|exact wN h|subst (h:(_:Bool)=_)|skip)|(refine wR ?_;clear hQ hR hE hM)|refine wO c1 ?_|fail)
 refine AWp.ghost 1000 (Nat.zero_le _) (by (refine wD ?_;try exact wt)) ?_ (by (refine wD ?_;try exact wt))
 (refine wD ?_;try exact wt)
 refine zsw (ι:=Nat) (fun z=>[(1,.ptr 0 1 0),(2,.ptr 1 1 0),(10,.sm 2 (l.length*8) 0 l.length 8),(11,.n l.length),(12,.n z)]) (fun z=>(0,.cells [.sm 2 (l.length*8) 0 l.length 8] true)::(1,.cells [.s0 8] true)::(2,.cells (zbC 10 z l).flatten true)::tl (zbv 10 l z) [(1000,.cells [] false)]) (fun z=>z<=l.length) (fun z=>l.length-z) 0 (Nat.zero_le _) ?_ ?_ ?_
 ·refine wD ?_
  first|exact wt|omega|(simp;done)
 ·rw[zqs]
  exact ⟨rfl,rfl,rfl,rfl,trivial⟩
 ·intro j hj
  have hm:Mid (zbv 10 l j) 10 1000:=zhO (Nat.le_refl _) (by omega)
  have w1:=fun r k (hk:k<10\/1000<=k)=>hm.get r hk
  have w2:=fun r k (hk:1000<=k) x=>hm.put r hk x
  have w3:=fun q o r (hq:1000<=q+1)=>hm.bound (j:=q) o r hq
  have wb:∀ N,1000<=N->(zab (zbC 10 j l).flatten<=N)=True:=fun N h=>eq_true (zqu (by omega))
  have w4:=fun (a b c d e f:Nat×AO)=>eq_true (SLe_1 a b c d e f (zbv 10 l j))
  have w5:=zqo (zbv 10 l j);have fl:(zbC 10 j l).flatten.length=l.length*8:=by rw[zdp (zbL j),zaF]
  rcases Nat.lt_or_ge j l.length with hlt|hge
  ·have hs:=h2 _ (zac hlt)
   have fa:zb2 (zbC 10 j l).flatten (j*8) (some 8)=some (.agg (nth l j).c):=by
    rw[zoB (zbL j) (by omega) (show j<(zbC 10 j l).length by rw[zaF];exact hlt),zbn hlt,if_neg (by omega)]
    rfl
   have c3:=zni hH (nth l j).secs (by omega) (by omega)
   (have hX:=zA @fa (zA @fl (zA @w1 (zA @w2 (zA @w3 (zA @w4 (zA @w5 @wb))))));(repeat' first|refine zaa ky fun K hK=>?_|exact wt|refine wA ?_|(refine wB ?_ ?_<;>intro h<;>first|exact wN h|subst (h:(_:Bool)=_)|skip)|(refine wR ?_;clear hQ hR hE hM)|refine wO c3 ?_|fail);all_goals clear hX)
   refine ⟨j+1,[(1002,10+j)],⟨by omega,by omega⟩,⟨⟨by omega,by omega⟩,trivial⟩, ?_, ?_⟩
   ·simp[swF,rnF,rnV,swN,ziG,zbl]
    omega
   ·exact zpV hlt h1 l.length _
  ·obtain rfl:j=l.length:=by omega
   (have hX:=zA @fl (zA @w1 (zA @w2 (zA @w3 @wb)));(repeat' first|refine zaa ky fun K hK=>?_|exact wt|refine wA ?_|(refine wB ?_ ?_<;>intro h<;>first|exact wN h|subst (h:(_:Bool)=_)|skip)|(refine wR ?_;clear hQ hR hE hM)|fail);all_goals clear hX)
   all_goals first|(exfalso;omega)|skip
   left;refine ⟨rfl,zfE fun p hp=>?_⟩
   simp only[List.mem_cons,tl,List.mem_append,List.not_mem_nil,or_false]at hp;rcases hp with rfl|hp|rfl
   ·rfl
   ·obtain ⟨i,hi,rfl⟩:=zeA hp
    rw[zah,if_neg (by omega),zah,if_neg (by omega),zah,if_neg (by omega)]
    exact zbK (zaX hi) _
   ·rw[zah,if_neg (by omega),zah,if_neg (by omega),zah,if_neg (by omega),hm.get _ (by omega)]
    rfl
end Go.Lev
namespace Go.Eng
open Go.RowKit
section
variable {P:Program} {inv:Nat->Option Nat} {w0:World} {M:Nat->Prop} {n N:Nat} {φ:AF} {σ:AS}
theorem zdu (hM:∀ b,M b->b<w0.heap.size) {j:Nat} {args args':List AV} {r:AV} (h:PC P inv j args' (·=r)) (he:zbF 4 σ args=args') (hs:r.scalar=true):AC P inv w0 M N j args σ fun r' σ'=>r'=r/\σ'=σ:=by
 intro g hg β w vs hm ha;have hf:=zec hm hM (A':=fun _=>False) (fun _ h=>h.elim) 4
 have ha2:=zdQ hm hM (fun _ h=>h.elim) hf _ _ ha
 rw[show zaT (za5 4 σ) args=args' from he]at ha2
 refine (h g hg (fun _=>False) w vs (fun _ h=>h.elim) ha2).mono ?_
 rintro e w' ⟨v,r',rfl,rfl,hb,hbare,hrel⟩;have hc:=hm.call hb N;exact ⟨v,_,σ,β,rfl,⟨rfl,rfl⟩,hc.1,hc.2,ze4 _ v hs hrel⟩
theorem AC.callR (hM:∀ b,M b->b<w0.heap.size) {j:Nat} {args:List AV} {R:AV->AS->Prop} (h:∀ (w0:World) (M:Nat->Prop),(∀ b,M b->b<w0.heap.size)->AC P inv w0 M 0 j args [] R) {K:AV->AS->Prop} (hk:∀ r σ',R r σ'->K (shV (zaw N φ σ) r) (zg9 σ (shS (zaw N φ σ) σ'))):CallK P inv w0 M N φ σ j args K:=by
 obtain ⟨f1,f2,f3⟩:=zbw N φ σ;refine ⟨zaw N φ σ,f1,f2,fun g hg β w vs hm ha=>?_⟩
 have hle:(ctx inv M σ β w).Le (ctx inv (avoid M σ β) [] (fun _=>0) w):=⟨rfl,Nat.le_refl _,fun _ _ _=>rfl,fun b _ hb=>by
  rcases hb with hb|⟨l,o,e,_⟩
  ·exact hb
  ·simp[zah]at e⟩
 have hS:(ctx inv (avoid M σ β) [] (fun _=>0) w).S=fun _=>Option.none:=by funext l;simp[ctx,zai,zah]
 refine (h w (avoid M σ β) (zk4 hm hM) g hg (fun _=>0) w vs (Mem.none w) (zco (N:=0) hle _ _ (.inr hS) ha)).mono ?_
 rintro e w' ⟨v,r',σ',β',rfl,hR,hm',_,hr⟩;obtain ⟨j1,j2,j3⟩:=hm.join hm' (zaw N φ σ) f3;exact ⟨v,_,_,_,rfl,hk r' σ' hR,j1,j2,j3 _ _ hr⟩
end
theorem zal {j k:Nat} {o:AO} {r:AS} (h:k≠j):zah ((j,o)::r) k=zah r k:=by rw[zah,if_neg h]
end Go.Eng
namespace Go.Lev
open Go.Eng
set_option maxRecDepth 10000
set_option maxHeartbeats 8000000
variable {P:Program} {inv:Nat->Option Nat} {w0:World} {M:Nat->Prop}
theorem znF (c b:Nat) (l:List TrainD):∀ j,shS c (zbv b l j)=zbv (b+c) l j
 |0=>rfl
 |j+1=>by
  rw[zbv,zmE,znF c b l j,zbv];simp only[shS,shO,znf (c:=zaJ)];rw[show b+j+c=b+c+j by omega]
theorem cl_sh (f:Nat):∀ CL:List (List AV),shL f CL.flatten=(CL.map (shL f)).flatten
 |[]=>rfl
 |c::r=>by
  have ha:∀ xs ys:List AV,shL f (xs++ys)=shL f xs++shL f ys:=fun xs ys=>by
   induction xs with
   |nil=>simp only[shL,List.nil_append]
   |cons x xs ih=>simp only[shL,List.cons_append,ih]
  rw[List.flatten_cons,ha,cl_sh f r,List.map_cons,List.flatten_cons]
theorem row_sh (c b j:Nat) (l:List TrainD):shL c (zbC b j l).flatten=(zbC (b+c) j l).flatten:=by
 rw[cl_sh]
 congr 1
 refine List.ext_getElem (by rw[List.length_map,zaF,zaF]) fun i h1 h2=>?_
 have hi:i<l.length:=by rw[zaF]at h2;exact h2
 rw[List.getElem_map,zbn hi,zbn hi];unfold tX sX;split
 ·simp only[shL,shV]
  rw[show b+i+c=b+c+i by omega]
 ·simp only[shL,shV]
theorem zgb {b k:Nat} {l:List TrainD} {σ:AS} (hr:∀ i,i<l.length->zah σ (b+i)=some (.cells ((nth l i).secs.map zaJ).flatten true)):zbF (k+1) σ (zbC b l.length l).flatten=(l.map TrainD.c).flatten:=by
 unfold zbF;rw[zkY]
 congr 1
 refine List.ext_getElem (by rw[List.length_map,zaF,List.length_map]) fun i h1 h2=>?_
 have hi:i<l.length:=by rw[List.length_map]at h2;exact h2
 rw[List.getElem_map,zbn hi,if_pos hi,List.getElem_map,<-zay hi];have hF:za5 (k+1) σ (b+i)=some ((nth l i).secs.map zaJ).flatten:=by
  simp only[za5,hr i hi];rw[zd4 (c:=zaJ)]
 have hlen:((nth l i).secs.map zaJ).flatten.length=(nth l i).secs.length:=by rw[zbo (c:=zaJ),Nat.mul_one]
 have hch:zbd 1 (nth l i).secs.length ((nth l i).secs.map zaJ).flatten=(nth l i).secs.map zaJ:=zbi (c:=zaJ) (nth l i).secs;unfold tX sX TrainD.c;simp only[zaT,zaR,hF];rw[if_pos ⟨hlen,by omega⟩,List.drop_zero,hch]
theorem ziK {N:Nat} {l:List TrainD} {tr v:Int} (hM:∀ b,M b->b<w0.heap.size) (c2:PC P inv 271 [.sl 8 (l.map TrainD.c),.fn 272 [.ip 1 [[.n tr]] 0 0]] (·=.n v)) {σ:AS} {T q b:Nat} (h0:0<l.length)
  (hr:∀ i,i<l.length->zah σ (b+i)=some (.cells ((nth l i).secs.map zaJ).flatten true))
  (hT:zah σ T=some (.cells (zbC b l.length l).flatten true)) (hq:zah σ q=some (.cells [.n tr] true)) :
  AC P inv w0 M N 271 [.sm T (l.length*8) 0 l.length 8,.fn 272 [.ptr q 1 0]] σ fun r' σ'=>r'=.n v/\σ'=σ:=by
 refine zdu hM c2 ?_ rfl;have h1:za5 4 σ T=some (l.map TrainD.c).flatten:=by
  simp only[za5,hT];exact congrArg some (zgb (k:=2) hr)
 have h2:za5 4 σ q=some [.n tr]:=by simp only[za5,hq,zaT,zaR]
 have h3:zbd 8 l.length (l.map TrainD.c).flatten=l.map TrainD.c:=zbi (c:=TrainD.c) l;have h4:(l.map TrainD.c).flatten.length=l.length*8:=zbo (c:=TrainD.c) l;simp only[zbF,zaT,zaR,h1,h2];rw[if_pos ⟨h4,by omega⟩,List.drop_zero,h3,if_pos ⟨rfl,by decide⟩]
def XRows (X:List TrainD) (A:List (Int×Int)) (r:AV) (σ:AS):Prop:=∃ (CL:List (List AV)) (τ:AS),r=.tup [.agg [.sm 104 (CL.length*8) 0 X.length 8],.sl 4 (A.map zla),.n 0]/\σ=(104,.cells CL.flatten true)::tl τ [(2000,.cells [] false)]/\Mid τ 105 2000/\Srt τ/\(0<CL.length/\X.length<=CL.length/\CL.length<=9)/\(∀ c∈CL,c.length=8)/\(∀ c∈CL,zab c<=2000) /\
 ∀ i,i<X.length->∃ (m:Nat) (R:List Int),CL[i]?=some (tX (nth X i) (.sm m R.length 0 (nth X i).secs.length 1))/\zah τ m=some (.cells (R.map zaJ).flatten true)/\(nth X i).secs=R.take (nth X i).secs.length/\(nth X i).secs.length<=R.length
def zpO:List (Int×Int)->AV
 |[]=>.s0 4
 |a::r=>.sl 4 ((a::r).map zla)
def XR0 (X:List TrainD) (A:List (Int×Int)) (r:AV) (σ:AS):Prop:=∃ CL:List (List AV),r=.tup [.agg [.sm 104 (CL.length*8) 0 X.length 8],zpO A,.n 0]/\zah σ 104=some (.cells CL.flatten true)/\(0<CL.length/\X.length<=CL.length/\CL.length<=9)/\(∀ c∈CL,c.length=8)/\(∀ c∈CL,zab c<=2000) /\
 ∀ i,i<X.length->∃ (m:Nat) (R:List Int),CL[i]?=some (tX (nth X i) (.sm m R.length 0 (nth X i).secs.length 1))/\zah σ m=some (.cells (R.map zaJ).flatten true)/\(105<=m/\m<2000)/\(nth X i).secs=R.take (nth X i).secs.length/\(nth X i).secs.length<=R.length
end Go.Lev
namespace Go.Eng
open Go.RowKit
def InsC (P:Program) (g sz:Nat):Prop:=∀ (w:World) (base:Option Addr) (n c i vb vc:Nat) (cs vs:List Value) (vxs:Array Value) (vty:TypeId),
 i<=n->n<=1000000->n<=c->cs.length=n*sz->vs.length=sz->(∀ v∈cs,v.oneCell'=true)->(∀ v∈vs,v.oneCell'=true) ->
 (c=0\/∃ b xs ty,base=some ⟨b,0,none⟩/\b≠vb/\w.heap[b]?=some (.cells xs ty (0,0))/\c*sz<=xs.size/\xs.toList.take (n*sz)=cs) ->
 w.heap[vb]?=some (.cells vxs vty (0,0))->sz<=vxs.size->vxs.toList.take sz=vs->1<=vc ->
 Calls P g #[.slice base n c,.int .i64 i,.slice (some ⟨vb,0,none⟩) 1 vc] w fun e w'=>∃ b' c' xs' ty',e=.returned (.slice (some ⟨b',0,none⟩) (n+1) c') /\
  w'.heap[b']?=some (.cells xs' ty' (0,0))/\n+1<=c'/\c'*sz<=xs'.size/\xs'.toList.take ((n+1)*sz)=cs.take (i*sz)++vs++cs.drop (i*sz) /\
  w'.os=w.os/\w'.tape=w.tape/\w'.output=w.output/\w.heap.size<=w'.heap.size/\(∀ k,k<w.heap.size->k≠b'->w'.heap[k]?=w.heap[k]?) /\
  (b'=w.heap.size\/0<c/\base=some ⟨b',0,none⟩)
section
variable {P:Program} {inv:Nat->Option Nat} {w0:World} {M:Nat->Prop} {N:Nat} {σ:AS}
theorem zrs {j sz:Nat} (hg:∀ g,inv g=some j->InsC P g sz) (hsz:0<sz) {l l2 n i:Nat} {iz:Int} {cs cs2:List AV} {r:Bool} (h1:zah σ l=some (.cells cs r)) (h2:zah σ l2=some (.cells cs2 true)) (hne:l≠l2)
  (hn:cs.length=n*sz) (hn2:cs2.length=sz) (hiz:iz=(i:Int)) (hi:i<=n) (hN:n<=1000000) :
  AC P inv w0 M N j [.sm l (n*sz) 0 n sz,.i .i64 iz,.sm l2 sz 0 1 sz] σ fun r σ'=>r=.sm l ((n+1)*sz) 0 (n+1) sz/\σ'=sput σ l (.cells (cs.take (i*sz)++cs2++cs.drop (i*sz)) true):=by
 intro g hj β w vs hm ha;subst hiz;simp only[zcp]at ha;obtain ⟨y1,ys1,e0,r1,y2,ys2,rfl,r2,y3,ys3,rfl,r3,rfl⟩:=ha;have hvs:vs=#[y1,y2,y3]:=by cases vs;simp at e0;simp[e0]
 subst hvs;simp only[rel]at r2;subst r2;have hl1:zcd σ l (n*sz):=by unfold zcd;rw[h1];exact hn
 have hl2:zcd σ l2 sz:=by unfold zcd;rw[h2];exact hn2
 obtain ⟨p,ad,cap,hp,hpv,_,rfl,hcap,hr⟩:=zcP hl1 r1;obtain ⟨p2,ad2,cap2,hp2,hpv2,_,rfl,hcap2,hr2⟩:=zcP hl2 r3;have hpe2:p2=⟨β l2,cs2.length,zaN w (β l2),true⟩:=by unfold zai at hp2;rw[h2]at hp2;cases hp2;rfl
 subst hpe2;simp only[if_true]at hr2;have had2:ad2=some ⟨β l2,0,none⟩:=hr2.1.resolve_left (by omega)
 subst had2;obtain ⟨vxs,vty,q1,q2,q3⟩:=hm.cells l2 cs2 h2;have hvl:=zaB q3;rw[hn2]at q2 q3 hvl;have hown2:=hm.own l2 _ h2 rfl;have hb2:=(zau σ l2 _ h2).2;have hb1:=(zau σ l _ h1).2;simp only[AO.bound]at hb1 hb2;have hsN:=zaq N (zax σ);have key:∃ olds:List Value,olds.length=n*sz/\relCs (ctx inv M σ β w) cs olds/\(cap=0\/r=true/\∃ b xs ty,ad=some ⟨b,0,none⟩/\b=β l/\b≠β l2/\w.heap[b]?=some (.cells xs ty (0,0))/\cap*sz<=xs.size/\xs.toList.take (n*sz)=olds):=by
  cases r with
  |false =>
   have hc0:=hm.ghost l cs h1;have hpe:p=⟨0,cs.length,0,false⟩:=by unfold zai at hp;rw[h1]at hp;cases hp;rfl
   subst hpe;simp only[Bool.false_eq_true,if_false]at hr;subst hc0;exact ⟨[],by simpa using hn,zbs,.inl hr⟩
  |true =>
   have hpe:p=⟨β l,cs.length,zaN w (β l),true⟩:=by unfold zai at hp;rw[h1]at hp;cases hp;rfl
   subst hpe;simp only[if_true]at hr;obtain ⟨xs,ty,e1,e2,e3⟩:=hm.cells l cs h1;rw[hn]at e2 e3;refine ⟨_, ?_,e3, ?_⟩
   ·rw[List.length_take];simp;omega
   ·by_cases hc:cap=0
    ·exact .inl hc
    ·have hbs:zaN w (β l)=xs.size:=by simp[zaN,e1]
     rw[hbs]at hr;exact .inr ⟨rfl,β l,xs,ty,hr.1.resolve_left hc,rfl,fun he=>hne (hm.inj l l2 _ _ h1 h2 rfl rfl he),e1,by omega,rfl⟩
 obtain ⟨olds,hol,hor,hoc⟩:=key;have hcall:=hg g hj w ad n cap i (β l2) cap2 olds (vxs.toList.take sz) vxs vty hi hN hcap hol (by rw[List.length_take];simp;omega) (zdX hor) (zdX q3)
  (hoc.imp id fun ⟨_,b,xs,ty,a1,_,a3,a4,a5,a6⟩=>⟨b,xs,ty,a1,a3,a4,a5,a6⟩) q1 q2 rfl hcap2
 refine hcall.mono ?_;rintro e w' ⟨b',c',xs',ty',rfl,k1,k2,k3,k4,k5,k6,k7,k8,k9,k10⟩;have hw0:=hm.below.size;have hb':w.heap.size<=b'\/r=true/\β l=b':=by
  rcases k10 with k10|⟨k10,k11⟩
  ·exact .inl (by omega)
  ·rcases hoc with h0|⟨hr1,b,xs,ty,a1,a2,_⟩
   ·omega
   ·rw[a1]at k11
    simp only[Option.some.injEq,Addr.mk.injEq,and_true]at k11;exact .inr ⟨hr1,by rw[<-a2,k11]⟩
 have hb0:w0.heap.size<=b':=by
  rcases hb' with h|⟨hr1,h⟩
  ·omega
  ·subst hr1;rw[<-h];exact (hm.own l _ h1 rfl).1
 have hnl:(cs.take (i*sz)++cs2++cs.drop (i*sz)).length=(n+1)*sz:=by
  have:i*sz<=n*sz:=Nat.mul_le_mul_right _ hi;simp only[List.length_append,List.length_take,List.length_drop,hn,hn2,Nat.add_mul,Nat.one_mul];omega
 have hc'le:(n+1)*sz<=c'*sz:=Nat.mul_le_mul_right _ k2;have hput:=Mem.put (l:=l) (b':=b') (cs':=cs.take (i*sz)++cs2++cs.drop (i*sz)) (xs':=xs') (ty:=ty') (N:=mx N (zax σ)) (w':=w') hm
  (hm.below.trans ⟨k5,k6,k7,by omega,fun b hb=>k9 b (by omega) (by omega)⟩) k8 k9 k1 (by rw[hnl];omega) hb0
  (fun l' o' hne' e' hr' he=>by
   rcases hb' with h|⟨hr1,h⟩
   ·have:=(hm.own l' o' e' hr').2;omega
   ·exact hne' (hm.inj l' l o' _ e' h1 hr' hr1 (he.trans h.symm)))
  (hb'.imp id fun ⟨hr1,h⟩=>⟨_,h1,hr1,h⟩)
  (fun l' o' e' _=>Nat.le_trans (zau σ l' o' e').2 hsN)
  (zb1 (zb1 (zdr fun x hx=>zcW (Nat.le_trans hb1 hsN) x (List.mem_of_mem_take hx)) (Nat.le_trans hb2 hsN)) (zdr fun x hx=>zcW (Nat.le_trans hb1 hsN) x (List.mem_of_mem_drop hx)))
  (fun _ p' hp'=>⟨p,hp,by simp only[Option.some.injEq]at hp';subst hp';rw[hpv];simp only[hnl,Nat.add_mul];omega,fun ee=>by simp only[Option.some.injEq]at hp';subst hp';rw[hpv]at ee;simp only[hnl,Nat.add_mul,Nat.one_mul]at ee;omega⟩)
  (by rw[hnl,k4];exact za6 (za6 (zcg _ hor) q3) (zch _ hor))
 have hpl:zai (upd β l b') w' (sput σ l (.cells (cs.take (i*sz)++cs2++cs.drop (i*sz)) true)) l=some ⟨b',(n+1)*sz,xs'.size,true⟩:=by
  unfold zai;rw[zag,if_pos rfl];simp only[zbe,zaN,k1,hnl]
 refine ⟨_,_,_,_,rfl,⟨rfl,rfl⟩,hput.1,hput.2.mono (zaQ _ _), ?_⟩;exact zgc (inv:=inv) (M:=M) (off:=0) (m:=n+1) (sz:=sz) (cap:=c') (ver:=(n+1)*sz) hpl rfl (by omega) k2 rfl (by simpa using k3)
theorem ins_ac0 {j:Nat} (hg:∀ g,inv g=some j->InsC P g 1) {l l2 n:Nat} {cs cs2:List AV} {r:Bool} (h1:zah σ l=some (.cells cs r)) (h2:zah σ l2=some (.cells cs2 true)) (hne:l≠l2)
  (hn:cs.length=n) (hn2:cs2.length=1) (hN:n<=1000000) :
  AC P inv w0 M N j [.sm l n 0 n 1,.i .i64 0,.sm l2 1 0 1 1] σ fun r σ'=>r=.sm l (n+1) 0 (n+1) 1/\σ'=sput σ l (.cells (cs2++cs) true):=by
 have:=zrs (P:=P) (inv:=inv) (w0:=w0) (M:=M) (N:=N) (σ:=σ) hg (by omega) (n:=n) (i:=0) (iz:=0) h1 h2 hne (by rw[hn,Nat.mul_one]) hn2 rfl (Nat.zero_le _) hN
 simpa only[Nat.mul_one,Nat.zero_mul,List.take_zero,List.drop_zero,List.nil_append] using this
end
section
variable {P:Program}
theorem zdz (w:World) {dT sT ty e:TypeId} {sz b o dLen dCap:Nat} {a:Addr} {sLen sCap:Nat} {cs:List Value} {cur:Array Value} {t:TypeId} (hu:P.underlying dT=some (.slice e)) (hs:(P.info? e).map (·.size)=some sz) (hn:cs.length=Nat.min sLen dLen*sz)
  (hsrc:∀ j v,cs[j]?=some v->w.cell? (a.add j)=some v) (hg:w.heap[b]?=some (.cells cur t (0,0))) (hfit:o+cs.length<=cur.size) (h1:∀ v∈cs,v.oneCell'=true) :
  (Builtin.copy_ #[dT,sT] ty #[.slice (some ⟨b,o,none⟩) dLen dCap,.slice (some a) sLen sCap]).run P w=.ok (goInt (Nat.min sLen dLen)) (w.setRow b (cur.toList.take o++cs++cur.toList.drop (o+cs.length)).toArray):=by
 have hl:=run_loadCells_list (P:=P) w a cs hsrc;have hst:=run_storeCells_at P b o t cs 0 cur w hg (by simpa using hfit) h1
 simp only[Nat.add_zero]at hst;cases hq:P.info? e with
 |none=>simp[hq]at hs
 |some i =>
  have hi:i.size=sz:=by simpa [hq] using hs
  simp[Builtin.copy_,run_underlying hu,Builtin.lenOf,Builtin.firstCells,sizeOf,typeInfo,hq,hi,<-hn,hl,hst]
theorem zpJ (w:World) {ops:Array Oper} {rest:List Oper} {o:Oper} {a:Act} {Q:Exit->Act->World->Prop} (hgd:o.guard=none) (d s:Operand) (t t':TypeId)
  (ho:o.op=.call { callee:=.builtin .copy,args:=#[d,s],argTypes:=#[t,t'] }) (v u:Value) (hd:a.eval d=v) (hs:a.eval s=u) {v':Value} {w':World}
  (hr:(Builtin.copy_ #[t,t'] o.type #[v,u]).run P w=.ok v' w') (h:wpList P ops Q rest (a.put o.dst v') w'):wpList P ops Q (o::rest) a w :=
 wpList_plain hgd fun _ hK=>by
  unfold Oper.wp execOp;simp only[ho,resolve,invoke,builtin,Sem.run_bind,Sem.run_pure,Result.andThen_ok,List.map_toArray,List.map_cons,List.map_nil,hd,hs,hr];exact hK _ _ h
theorem step_copy_run2 {ops:Array Oper} {o:Oper} {a:Act} {w:World} {K:Act->World->Prop} {Q:Exit->Act->World->Prop} {E:Prop}
  (hg:o.guard=none) (d x:Operand) (dT sT:TypeId) (hop:o.op=Op.call { callee:=Callee.builtin Builtin.copy,args:=#[d,x],argTypes:=#[dT,sT] })
  (v u:Value) (hd:a.eval d=v) (hx:a.eval x=u) {v':Value} {w':World} (hr:(Builtin.copy_ #[dT,sT] o.type #[v,u]).run P w=.ok v' w') (hK:K (a.put o.dst v') w') :
  if Region.wanted o (yielded ops a.tmps)=true then Oper.wp P o a w K Q else E:=by
 have hw:Region.wanted o (yielded ops a.tmps)=true:=by simp[Region.wanted,hg]
 rw[if_pos hw];unfold Oper.wp;simp[execOp,hop,resolve,invoke,builtin,hd,hx,hr,Result.andThen];exact hK
end
section
variable {P:Program}
theorem zdg {w:World} {b:Nat} {A:Array Value}:(w.setRow b A).os=w.os/\(w.setRow b A).tape=w.tape/\(w.setRow b A).output=w.output/\(w.setRow b A).heap.size=w.heap.size:=⟨rfl,rfl,rfl,by simp[World.setRow]⟩
theorem zfR {w:World} {b:Nat} {xs:Array Value} {ty:TypeId} (hg:w.heap[b]?=some (.cells xs ty (0,0))) (j:Nat):w.cell? ⟨b,j,none⟩=xs[j]?:=by
 simp only[World.cell?,hg,Option.isSome_none,Bool.false_eq_true,if_false]
theorem insC_of {g ov sz e S SI:Nat} {i0:TypeInfo} {z:Value} {mul:Nat->Nat} (hmul:∀ x,mul x=x*sz) (hu:P.underlying S=some (.slice e)) (hI:P.underlying SI=some (.int .i64)) (hi0:P.info? e=some i0) (hz:i0.zero=some z) (hsz:i0.size=sz) (hpos:0<sz) (hzc:z.cells.size=sz) (hby:i0.bytes<=32768)
  (hov:∀ (w:World) (vb vc b o lb cb:Nat) (vxs xs:Array Value) (vty ty:TypeId),w.heap[vb]?=some (.cells vxs vty (0,0))->w.heap[b]?=some (.cells xs ty (0,0))->vb≠b->0<xs.size->(callFunc ov #[.slice (some ⟨vb,0,none⟩) 1 vc,.slice (some ⟨b,o,none⟩) lb cb]).run P w=.ok (.value (.bool false)) w)
  (hend:∀ (w w1:World) (base:Option Addr) (n c vb voff m vc:Nat) (r:Value),0<m->(base=none->n=0)->(∀ ty,(Builtin.append_ #[S,S] ty #[.slice base n c,.slice (some ⟨vb,voff,none⟩) m vc]).run P w=.ok r w1) ->
   Calls P g #[.slice base n c,.int .i64 n,.slice (some ⟨vb,voff,none⟩) m vc] w fun e w'=>e=.returned r/\w'=w1)
  (hroom:∀ (w:World) (b off n c i vb voff m vc k1 k2:Nat) (A1 A2:Array Value),i<n->0<m->n+m<=c->n+m<=1000000000 ->
   (∀ lb cb,(callFunc ov #[.slice (some ⟨vb,voff,none⟩) m vc,.slice (some ⟨b,off+mul (i+m),none⟩) lb cb]).run P w=.ok (.value (.bool false)) w) ->
   (∀ ty dc sc,(Builtin.copy_ #[S,S] ty #[.slice (some ⟨b,off+mul (i+m),none⟩) (n+m-(i+m)) dc,.slice (some ⟨b,off+mul i,none⟩) (n+m-i) sc]).run P w.drew=.ok (goInt k1) (w.drew.setRow b A1)) ->
   (∀ ty dc,(Builtin.copy_ #[S,S] ty #[.slice (some ⟨b,off+mul i,none⟩) (n+m-i) dc,.slice (some ⟨vb,voff,none⟩) m vc]).run P (w.drew.setRow b A1)=.ok (goInt k2) ((w.drew.setRow b A1).setRow b A2)) ->
   Calls P g #[.slice (some ⟨b,off,none⟩) n c,.int .i64 i,.slice (some ⟨vb,voff,none⟩) m vc] w fun e w'=>e=.returned (.slice (some ⟨b,off,none⟩) (n+m) c)/\w'=(w.drew.setRow b A1).setRow b A2)
  (hgrow:∀ (w:World) (b off n c i vb voff m vc k1 k2 G:Nat) (ROW A1 A2:Array Value),i<n->0<m->n<=c->c<n+m->n+m<=1000000000->n+m<=G ->
   (∀ ty,(Builtin.append_ #[S,SI] ty #[.slice (some ⟨b,off,none⟩) i c,.int .i64 ((n:Int)+(m:Int)-(i:Int))]).run P w=.ok (.slice (some ⟨w.heap.size,0,none⟩) (n+m) G) (w.drew.alloc (.cells ROW e))) ->
   (∀ (W:World),W.heap=(w.drew.alloc (.cells ROW e)).heap->∀ ty dc,(Builtin.copy_ #[S,S] ty #[.slice (some ⟨w.heap.size,mul i,none⟩) (n+m-i) dc,.slice (some ⟨vb,voff,none⟩) m vc]).run P W=.ok (goInt k1) (W.setRow w.heap.size A1)) ->
   (∀ (W:World),W.heap=((w.drew.alloc (.cells ROW e)).setRow w.heap.size A1).heap->∀ ty dc sc,(Builtin.copy_ #[S,S] ty #[.slice (some ⟨w.heap.size,mul (i+m),none⟩) (n+m-(i+m)) dc,.slice (some ⟨b,off+mul i,none⟩) (n-i) sc]).run P W=.ok (goInt k2) (W.setRow w.heap.size A2)) ->
   Calls P g #[.slice (some ⟨b,off,none⟩) n c,.int .i64 i,.slice (some ⟨vb,voff,none⟩) m vc] w fun e' w'=>e'=.returned (.slice (some ⟨w.heap.size,0,none⟩) (n+m) G)/\w'.heap=(((w.drew.alloc (.cells ROW e)).setRow w.heap.size A1).setRow w.heap.size A2).heap/\w'.os=w.os/\w'.tape=w.tape/\w'.output=w.output) :
  InsC P g sz:=by
 intro w base n c i vb vc cs vs vxs vty hi hn hnc hcl hvl h1c h1v hbase hvb hvsz hvt hvc;subst hsz;have hsm:(P.info? e).map (·.size)=some i0.size:=by rw[hi0];rfl
 have hvcell:∀ (W:World),W.heap[vb]?=w.heap[vb]?->∀ j v,vs[j]?=some v->W.cell? ((⟨vb,0,none⟩:Addr).add j)=some v:=by
  intro W hW j v hv;rw[zbZ,Nat.zero_add,zfR (hW.trans hvb)];rw[<-hvt,List.getElem?_take]at hv;split at hv
  ·simpa using hv
  ·cases hv
 have hfn:∀ (W:World),W.heap[vb]?=w.heap[vb]?->(Builtin.firstCells i0.size 1 (.slice (some ⟨vb,0,none⟩) 1 vc)).run P W=.ok vs.toArray W:=fun W hW =>
  run_firstCells_some W i0.size 1 _ 1 vc vs (by omega) (hvcell W hW)
 have hvlt:vb<w.heap.size:=(Array.getElem?_eq_some_iff.1 hvb).1;rcases Nat.lt_or_ge i n with hin|hin
 ·-- i<n: zcl is a row
  have hc0:c≠0:=by omega
  obtain ⟨b,xs,ty,rfl,hbv,hg,hfit,hxc⟩:=hbase.resolve_left hc0;have hblt:b<w.heap.size:=(Array.getElem?_eq_some_iff.1 hg).1;have hnc':n*i0.size<=c*i0.size:=Nat.mul_le_mul_right _ hnc;have hcc:∀ (W:World),W.heap[b]?=w.heap[b]?->∀ k j v,(cs.drop k)[j]?=some v->W.cell? ((⟨b,0+k,none⟩:Addr).add j)=some v:=by
   intro W hW k j v hv;rw[zbZ,Nat.zero_add,zfR (hW.trans hg)];rw[List.getElem?_drop,<-hxc,List.getElem?_take]at hv;split at hv
   ·simpa using hv
   ·cases hv
  have himul:i*i0.size<=n*i0.size:=Nat.mul_le_mul_right _ hi;have hi1:(i+1)*i0.size=i*i0.size+i0.size:=by rw[Nat.add_mul,Nat.one_mul]
  have hn1:(n+1)*i0.size=n*i0.size+i0.size:=by rw[Nat.add_mul,Nat.one_mul]
  have hdl:(cs.drop (i*i0.size)).length=(n-i)*i0.size:=by rw[List.length_drop,hcl,Nat.sub_mul]
  have hdl':(cs.drop (i*i0.size)).length=n*i0.size-i*i0.size:=by rw[List.length_drop,hcl]
  have h1d:∀ v∈cs.drop (i*i0.size),v.oneCell'=true:=fun v hv=>h1c v (List.mem_of_mem_drop hv)
  by_cases hrm:n+1<=c
  ·have hrm':(n+1)*i0.size<=c*i0.size:=Nat.mul_le_mul_right _ hrm
   have hcp1:∀ ty' dc sc,(Builtin.copy_ #[S,S] ty' #[.slice (some ⟨b,0+mul (i+1),none⟩) (n+1-(i+1)) dc,.slice (some ⟨b,0+mul i,none⟩) (n+1-i) sc]).run P w.drew=.ok (goInt ((n-i:Nat):Int)) (w.drew.setRow b (xs.toList.take (0+mul (i+1))++cs.drop (i*i0.size)++xs.toList.drop (0+mul (i+1)+(cs.drop (i*i0.size)).length)).toArray):=by
    intro ty' dc sc;have hmin:Nat.min (n+1-i) (n+1-(i+1))=n-i:=by simp only[Nat.min_def];split<;>omega
    have:=zdz (P:=P) w.drew (sT:=S) (ty:=ty') (dCap:=dc) (sCap:=sc) (b:=b) (o:=0+mul (i+1)) (dLen:=n+1-(i+1)) (a:=⟨b,0+mul i,none⟩) (sLen:=n+1-i) (cs:=cs.drop (i*i0.size)) (cur:=xs) (t:=ty) hu hsm (by rw[hmin];exact hdl)
     (by rw[hmul];exact hcc w.drew rfl _) hg (by rw[hmul,hdl'];omega) h1d
    rw[hmin]at this;exact this
   generalize hA1:(xs.toList.take (0+mul (i+1))++cs.drop (i*i0.size)++xs.toList.drop (0+mul (i+1)+(cs.drop (i*i0.size)).length)).toArray=A1 at hcp1;have hA1s:A1.size=xs.size:=by rw[<-hA1];simp only[List.size_toArray,List.length_append,List.length_take,List.length_drop,hmul,hdl',Array.length_toList];omega
   have hg1:(w.drew.setRow b A1).heap[b]?=some (.cells A1 ty (0,0)):=setRow_heap w.drew b xs A1 ty (0,0) hg;have hv1:(w.drew.setRow b A1).heap[vb]?=w.heap[vb]?:=setRow_other w.drew b vb A1 (Ne.symm hbv);have hcp2:∀ ty' dc,(Builtin.copy_ #[S,S] ty' #[.slice (some ⟨b,0+mul i,none⟩) (n+1-i) dc,.slice (some ⟨vb,0,none⟩) 1 vc]).run P (w.drew.setRow b A1)=.ok (goInt 1) ((w.drew.setRow b A1).setRow b (A1.toList.take (0+mul i)++vs++A1.toList.drop (0+mul i+vs.length)).toArray):=by
    intro ty' dc;have hmin:Nat.min 1 (n+1-i)=1:=by simp only[Nat.min_def];split<;>omega
    have:=zdz (P:=P) (w.drew.setRow b A1) (sT:=S) (ty:=ty') (dCap:=dc) (sCap:=vc) (b:=b) (o:=0+mul i) (dLen:=n+1-i) (a:=⟨vb,0,none⟩) (sLen:=1) (cs:=vs) (cur:=A1) (t:=ty) hu hsm (by rw[hmin];omega)
     (hvcell _ hv1) hg1 (by rw[hmul];omega) h1v
    rw[hmin]at this;exact this
   refine (hroom w b 0 n c i vb 0 1 vc _ _ _ _ hin (by omega) hrm (by omega) (fun lb cb=>hov w vb vc b _ lb cb vxs xs vty ty hvb hg (Ne.symm hbv) (by omega)) hcp1 hcp2).mono ?_
   rintro e' w' ⟨rfl,rfl⟩;have hg2:=setRow_heap (w.drew.setRow b A1) b A1 (A1.toList.take (0+mul i)++vs++A1.toList.drop (0+mul i+vs.length)).toArray ty (0,0) hg1;refine ⟨b,c,_,ty,rfl,hg2,hrm, ?_, ?_,rfl,rfl,rfl, ?_, ?_,.inr ⟨by omega,rfl⟩⟩
   ·simp only[List.size_toArray,List.length_append,List.length_take,List.length_drop,hmul,Array.length_toList,hA1s];omega
   ·have hA1l:A1.toList=xs.toList.take ((i+1)*i0.size)++cs.drop (i*i0.size)++xs.toList.drop ((i+1)*i0.size+(cs.drop (i*i0.size)).length):=by rw[<-hA1,Nat.zero_add,hmul]
    simp only[hmul,Nat.zero_add];have e1:A1.toList.take (i*i0.size)=cs.take (i*i0.size):=by
     rw[hA1l,List.append_assoc,List.take_append_of_le_length (by rw[List.length_take];simp;omega),List.take_take,Nat.min_eq_left (by omega),<-hxc,List.take_take,Nat.min_eq_left himul]
    have e2:A1.toList.drop (i*i0.size+vs.length)=cs.drop (i*i0.size)++xs.toList.drop ((i+1)*i0.size+(cs.drop (i*i0.size)).length):=by
     rw[hvl,<-hi1,hA1l,List.append_assoc];exact List.drop_left' (by rw[List.length_take];simp;omega)
    rw[e1,e2,List.append_assoc (cs.take _),<-List.append_assoc vs,<-List.append_assoc (cs.take _),<-List.append_assoc (cs.take _)];exact List.take_left' (by simp only[List.length_append,List.length_take,hdl',hcl,hvl];omega)
   ·have h1:=(zdg (w:=w.drew.setRow b A1) (b:=b) (A:=(A1.toList.take (0+mul i)++vs++A1.toList.drop (0+mul i+vs.length)).toArray)).2.2.2
    have h2:=(zdg (w:=w.drew) (b:=b) (A:=A1)).2.2.2;rw[h1,h2];exact Nat.le_refl _
   ·intro k hk hkb
    rw[setRow_other _ b k _ hkb,setRow_other _ b k _ hkb];rfl
  ·-- a new row
   obtain ⟨G,hG⟩:∃ G,G=grownCap w (n+1) c e:=⟨_,rfl⟩;have hGn:n+1<=G:=by rw[hG];exact grownCap_ge w _ _ _
   have hold:(Builtin.firstCells i0.size i (.slice (some ⟨b,0,none⟩) i c)).run P w.drew=.ok (cs.take (i*i0.size)).toArray w.drew :=
    run_firstCells_some w.drew i0.size i ⟨b,0,none⟩ i c (cs.take (i*i0.size)) (by rw[List.length_take];omega) (fun j v hj=>by
     rw[List.getElem?_take]at hj;split at hj
     ·exact hcc w.drew rfl 0 j v (by simpa using hj)
     ·cases hj)
   have hfits:(n+1)*i0.bytes<=140737488355328:=Nat.le_trans (Nat.mul_le_mul_left _ hby) (by omega)
   have hfits2:(n+1-i)*i0.bytes<=(n+1)*i0.bytes:=Nat.mul_le_mul_right _ (by omega)
   have hrz:∀ ty',(Builtin.append_ #[S,SI] ty' #[.slice (some ⟨b,0,none⟩) i c,.int .i64 ((n:Int)+((1:Nat):Int)-(i:Int))]).run P w=.ok (.slice (some ⟨w.heap.size,0,none⟩) (n+1) G) (w.drew.alloc (.cells ((cs.take (i*i0.size)).toArray++Builtin.zeroCells z.cells (n+1-i)++Builtin.zeroCells z.cells (G-(n+1))) e)):=by
    intro ty';have h:=Lib.run_append_grow_zeros (P:=P) w S SI ty' e i0 z .i64 .i64 hu hI hi0 hz (some ⟨b,0,none⟩) i c (cs.take (i*i0.size)) hold (n+1-i) (by omega) (by omega) (by omega) (by omega) (by omega) (growslice_fits (by omega) (by rw[show i+(n+1-i)=n+1 by omega];exact hfits))
    rw[show i+(n+1-i)=n+1 by omega,<-hG]at h
    rw[show (n:Int)+((1:Nat):Int)-(i:Int)=((n+1-i:Nat):Int) by omega]
    exact h
   obtain ⟨ROW,hROW⟩:∃ ROW:Array Value,ROW=(cs.take (i*i0.size)).toArray++Builtin.zeroCells z.cells (n+1-i)++Builtin.zeroCells z.cells (G-(n+1)):=⟨_,rfl⟩;rw[<-hROW]at hrz;have hGm:G*i0.size=(n+1)*i0.size+(G-(n+1))*i0.size:=by rw[<-Nat.add_mul];congr 1;omega
   have hnm:(n+1)*i0.size=i*i0.size+(n+1-i)*i0.size:=by rw[<-Nat.add_mul];congr 1;omega
   have hRl:ROW.size=G*i0.size:=by
    rw[hROW];simp only[Array.size_append,List.size_toArray,List.length_take,size_zeroCells,hzc,hcl];omega
   have hRt:ROW.toList.take (i*i0.size)=cs.take (i*i0.size):=by
    rw[hROW,Array.toList_append,Array.toList_append,List.append_assoc];exact List.take_left' (by simp only[List.length_take];omega)
   have hal:(w.drew.alloc (.cells ROW e)).heap[w.heap.size]?=some (.cells ROW e (0,0)):=heap_alloc_new w.drew _;have hold':∀ k,k<w.heap.size->(w.drew.alloc (.cells ROW e)).heap[k]?=w.heap[k]?:=fun k hk=>Below.heap_alloc w.drew _ k hk
   have hcpA:∀ (W:World),W.heap=(w.drew.alloc (.cells ROW e)).heap->∀ ty' dc,(Builtin.copy_ #[S,S] ty' #[.slice (some ⟨w.heap.size,mul i,none⟩) (n+1-i) dc,.slice (some ⟨vb,0,none⟩) 1 vc]).run P W=.ok (goInt 1) (W.setRow w.heap.size (ROW.toList.take (mul i)++vs++ROW.toList.drop (mul i+vs.length)).toArray):=by
    intro W hW ty' dc;have hmin:Nat.min 1 (n+1-i)=1:=by simp only[Nat.min_def];split<;>omega
    have:=zdz (P:=P) W (sT:=S) (ty:=ty') (dCap:=dc) (sCap:=vc) (b:=w.heap.size) (o:=mul i) (dLen:=n+1-i) (a:=⟨vb,0,none⟩) (sLen:=1) (cs:=vs) (cur:=ROW) (t:=e) hu hsm (by rw[hmin];omega)
     (hvcell W (by rw[hW];exact hold' vb hvlt)) (by rw[hW];exact hal) (by rw[hmul,hRl];omega) h1v
    rw[hmin]at this;exact this
   generalize hA1:(ROW.toList.take (mul i)++vs++ROW.toList.drop (mul i+vs.length)).toArray=A1 at hcpA;have hA1s:A1.size=G*i0.size:=by rw[<-hA1];simp only[List.size_toArray,List.length_append,List.length_take,List.length_drop,hmul,Array.length_toList,hRl,hvl];omega
   have hA1t:A1.toList.take ((i+1)*i0.size)=cs.take (i*i0.size)++vs:=by
    rw[<-hA1,hmul];simp only;rw[hRt];exact List.take_left' (by simp only[List.length_append,List.length_take,hcl,hvl];omega)
   have hg1:((w.drew.alloc (.cells ROW e)).setRow w.heap.size A1).heap[w.heap.size]?=some (.cells A1 e (0,0)):=setRow_heap _ _ ROW A1 e (0,0) hal;have hcpB:∀ (W:World),W.heap=((w.drew.alloc (.cells ROW e)).setRow w.heap.size A1).heap->∀ ty' dc sc,(Builtin.copy_ #[S,S] ty' #[.slice (some ⟨w.heap.size,mul (i+1),none⟩) (n+1-(i+1)) dc,.slice (some ⟨b,0+mul i,none⟩) (n-i) sc]).run P W=.ok (goInt ((n-i:Nat):Int)) (W.setRow w.heap.size (A1.toList.take (mul (i+1))++cs.drop (i*i0.size)++A1.toList.drop (mul (i+1)+(cs.drop (i*i0.size)).length)).toArray):=by
    intro W hW ty' dc sc;have hmin:Nat.min (n-i) (n+1-(i+1))=n-i:=by simp only[Nat.min_def];split<;>omega
    have:=zdz (P:=P) W (sT:=S) (ty:=ty') (dCap:=dc) (sCap:=sc) (b:=w.heap.size) (o:=mul (i+1)) (dLen:=n+1-(i+1)) (a:=⟨b,0+mul i,none⟩) (sLen:=n-i) (cs:=cs.drop (i*i0.size)) (cur:=A1) (t:=e) hu hsm (by rw[hmin];exact hdl)
     (by rw[hmul];exact hcc W (by rw[hW,setRow_other _ _ _ _ (Nat.ne_of_lt hblt)];exact hold' b hblt) _) (by rw[hW];exact hg1) (by rw[hmul,hdl',hA1s];omega) h1d
    rw[hmin]at this;exact this
   refine (hgrow w b 0 n c i vb 0 1 vc _ _ G ROW A1 _ hin (by omega) hnc (by omega) (by omega) hGn hrz hcpA hcpB).mono ?_
   rintro e' w' ⟨rfl,hh,k1,k2,k3⟩;have hg2:=setRow_heap ((w.drew.alloc (.cells ROW e)).setRow w.heap.size A1) w.heap.size A1 (A1.toList.take (mul (i+1))++cs.drop (i*i0.size)++A1.toList.drop (mul (i+1)+(cs.drop (i*i0.size)).length)).toArray e (0,0) hg1;refine ⟨w.heap.size,G,_,e,rfl,by rw[hh];exact hg2,hGn, ?_, ?_,k1,k2,k3, ?_, ?_,.inl rfl⟩
   ·simp only[List.size_toArray,List.length_append,List.length_take,List.length_drop,hmul,Array.length_toList,hA1s,hdl'];omega
   ·simp only[hmul]
    rw[hA1t];exact List.take_left' (by simp only[List.length_append,List.length_take,hdl',hcl,hvl];omega)
   ·rw[hh,zdg.2.2.2,zdg.2.2.2]
    simp
   ·intro k hk hkb
    rw[hh,setRow_other _ _ k _ hkb,setRow_other _ _ k _ hkb];exact hold' k hk
 ·-- at the end
  obtain rfl:i=n:=by omega
  have hi1:(i+1)*i0.size=i*i0.size+i0.size:=by rw[Nat.add_mul,Nat.one_mul]
  have hbn:base=none->i=0:=by
   intro hb;rcases hbase with h|⟨b,xs,ty,h,_⟩
   ·omega
   ·rw[hb]at h;cases h
  have hct:cs.take (i*i0.size)++vs++cs.drop (i*i0.size)=cs++vs:=by rw[<-hcl,List.take_length,List.drop_length,List.append_nil]
  by_cases hrm:i+1<=c
  ·obtain ⟨b,xs,ty,rfl,hbv,hg,hfit,hxc⟩:=hbase.resolve_left (by omega)
   have hrm':(i+1)*i0.size<=c*i0.size:=Nat.mul_le_mul_right _ hrm;have hrun:∀ ty',(Builtin.append_ #[S,S] ty' #[.slice (some ⟨b,0,none⟩) i c,.slice (some ⟨vb,0,none⟩) 1 vc]).run P w=_:=fun ty' =>
    zha (P:=P) (ty:=ty') w hu hu hi0 b i c xs ty hg (some ⟨vb,0,none⟩) 1 vc vs (hfn w rfl) h1v hrm (by rw[hvl];omega)
   refine (hend w _ (some ⟨b,0,none⟩) i c vb 0 1 vc _ (by omega) (fun h=>by cases h) hrun).mono ?_
   rintro e' w' ⟨rfl,rfl⟩;have hg2:=setRow_heap w b xs (xs.toList.take (i*i0.size)++vs++xs.toList.drop (i*i0.size+vs.length)).toArray ty (0,0) hg;refine ⟨b,c,_,ty,rfl,hg2,hrm, ?_, ?_,rfl,rfl,rfl, ?_, ?_,.inr ⟨by omega,rfl⟩⟩
   ·simp only[List.size_toArray,List.length_append,List.length_take,List.length_drop,Array.length_toList,hvl];omega
   ·rw[hct,hxc]
    exact List.take_left' (by simp only[List.length_append,hcl,hvl];omega)
   ·rw[zdg.2.2.2];exact Nat.le_refl _
   ·intro k hk hkb
    rw[setRow_other _ b k _ hkb]
  ·have hold:(Builtin.firstCells i0.size i (.slice base i c)).run P w.drew=.ok cs.toArray w.drew:=by
    rcases hbase with h|⟨b,xs,ty,rfl,hbv,hg,hfit,hxc⟩
    ·have h0:i=0:=by omega
     subst h0;have hcs:cs=[]:=List.eq_nil_of_length_eq_zero (by rw[hcl,Nat.zero_mul])
     subst hcs;cases base<;>simp[Builtin.firstCells,loadCells,loadCellsFrom]
    ·exact run_firstCells_some w.drew i0.size i ⟨b,0,none⟩ i c cs hcl (fun j v hj=>by
      rw[zbZ,Nat.zero_add,zfR (w:=w.drew) hg];rw[<-hxc,List.getElem?_take]at hj;split at hj
      ·simpa using hj
      ·cases hj)
   have hrun:∀ ty',(Builtin.append_ #[S,S] ty' #[.slice base i c,.slice (some ⟨vb,0,none⟩) 1 vc]).run P w=_:=fun ty' =>
    zeF (P:=P) (ty:=ty') w hu hu hi0 hz base i c cs vs (some ⟨vb,0,none⟩) 1 vc hold (hfn w.drew rfl) (by omega) (by omega) (growslice_fits (by omega) (Nat.le_trans (Nat.mul_le_mul_left _ hby) (by omega)))
   refine (hend w _ base i c vb 0 1 vc _ (by omega) hbn hrun).mono ?_
   rintro e' w' ⟨rfl,rfl⟩;have hGn:=grownCap_ge w (i+1) c e;generalize grownCap w (i+1) c e=G at hGn;have hGm:G*i0.size=(i+1)*i0.size+(G-(i+1))*i0.size:=by rw[<-Nat.add_mul];congr 1;omega
   refine ⟨w.heap.size,G,_,e,rfl,heap_alloc_new w.drew _,hGn, ?_, ?_,rfl,rfl,rfl, ?_, ?_,.inl rfl⟩
   ·simp only[Array.size_append,List.size_toArray,size_zeroCells,hzc,hcl,hvl]
    omega
   ·rw[hct,Array.toList_append,Array.toList_append]
    exact List.take_left' (by simp only[List.length_append,hcl,hvl];omega)
   ·simp
   ·intro k hk hkb
    exact Below.heap_alloc w.drew _ k hk
end
structure HasIns (P:Program) (inv:Nat->Option Nat):Prop where
 trn:∀ g,inv g=some 258->InsC P g 8
 int:∀ g,inv g=some 262->InsC P g 1
end Go.Eng
namespace Go.Lev
open Go.Eng
set_option maxRecDepth 10000
set_option maxHeartbeats 4000000
variable {P:Program} {inv:Nat->Option Nat} {w0:World} {M:Nat->Prop}
theorem smS_of {s:State} (h:zkM s=false):SmS s:=by
 unfold zkM at h;unfold SmS;simp at h;omega
end Go.Lev
