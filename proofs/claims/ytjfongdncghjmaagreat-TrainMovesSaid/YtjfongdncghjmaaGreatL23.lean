/-
  Contracts of functions. Conditions: those that each theorem names.
-/
import Derived.Test.YtjfongdncghjmaaGreatL19
set_option linter.unusedSimpArgs false
set_option linter.unusedVariables false
set_option linter.unusedSectionVars false
namespace Go.Lev
open Go.Eng
set_option maxRecDepth 10000
set_option maxHeartbeats 8000000
variable {P:Program} {inv:Nat->Option Nat} {w0:World} {M:Nat->Prop}
def headF (p:Pln) (s:State) (l:List TrainD) (k:Nat) (t:TrainD):AV :=
 cond (decide ((4:Int)<=(t.secs.length:Int))) (zbJ 9 [] []) (cond (!(goT p s t).2.2) (zbJ 310 [] []) (cond (!decide ((nxJ p t).2=0)) (zbJ 310 [] []) (cond (decide ((nxJ p t).1.to=0)) (zbJ 310 [] [])
  (cond (!decide ((nxS p t).2=0)) (zbJ (nxS p t).2 [] []) (cond (!decide ((nxE p s t).2=0)) (zbJ 310 [] []) (zbJ 0 (l.set k (zfr p s t)) [((nxS p t).1.id,1)]))))))
def zrF (p:Pln) (s:State) (t:TrainD):Option AV :=
 cond (decide ((4:Int)<=(t.secs.length:Int))) (some (zbJ 9 [] [])) (cond (!(goT p s t).2.2) (some (zbJ 310 [] [])) (cond (!decide ((nxJ p t).2=0)) (some (zbJ 310 [] [])) (cond (decide ((nxJ p t).1.to=0)) (some (zbJ 310 [] []))
  (cond (!decide ((nxS p t).2=0)) (some (zbJ (nxS p t).2 [] [])) (cond (!decide ((nxE p s t).2=0)) (some (zbJ 310 [] [])) none)))))
theorem zoj (p:Pln) (s:State) (l:List TrainD) (k:Nat) (t:TrainD):headF p s l k t=(zrF p s t).getD (zbJ 0 (l.set k (zfr p s t)) [((nxS p t).1.id,1)]):=by
 unfold headF zrF;cases decide ((4:Int)<=(t.secs.length:Int))<;>try rfl
 cases (goT p s t).2.2<;>try rfl
 cases decide ((nxJ p t).2=0)<;>try rfl
 cases decide ((nxJ p t).1.to=0)<;>try rfl
 cases decide ((nxS p t).2=0)<;>try rfl
 cases decide ((nxE p s t).2=0)<;>rfl
theorem zrG (hH:HasAll P inv) (hI:HasIds P inv) (p:Pln) (hp:Sm p) (s:State) (hs:SmS s) (l:List TrainD) (hl:l.length<=1000) (hls:∀ t∈l,t.secs.length<=1000) (hc:ckC p s l=0) (tr se ed:Int) (e:zcB l tr<0) :
  PC P inv 210 [.agg p.c,.agg s.c,.agg (wld l),.agg [.i .u8 2,.n tr,.n se,.n ed]] (·=zbJ 6 [] []):=by
 have c0:=zbj hH hI p hp s hs l hl hls;have c2:=zb0 hH l hl tr;have c1:=zdf hH l (by omega) hls
 rw[hc]at c0;generalize zcB l tr=v at *;unfold zbJ;unfold wld at *;refine wf hH cd210 fun w0 M Q hM hE hQ hR=>?_;refine wq ?_
 skip
 (repeat' first|refine zaa xF fun K hK=>?_|exact wt|refine wA ?_|(refine wB ?_ ?_<;>intro h<;>first|exact wN h|subst (h:(_:Bool)=_)|skip)|(refine wQ ?_;clear hQ hR)|refine wC c0 ?_|refine wO c1 ?_|(refine wI hH cd226 100 fun Q hQ hR=>?_;refine wq ?_;try refine wD ?_)|(refine wI hH cd231 200 fun Q hQ hR=>?_;refine wq ?_;try refine wD ?_)|(refine wI hH cd252 300 fun Q hQ hR=>?_;refine wq ?_;try refine wD ?_)|refine wS c2 ?_|fail)
 all_goals first|rfl|(exfalso;contradiction)|(exfalso;omega)
theorem headX_pc (hH:HasAll P inv) (hI:HasIds P inv) (p:Pln) (hp:Sm p) (s:State) (hs:SmS s) (l:List TrainD) (hl:l.length<=1000) (hls:∀ t∈l,t.secs.length<=1000) (hc:ckC p s l=0) (tr se ed:Int) {k:Nat} (hk7:k<l.length) (e:zcB l tr=(k:Int)) (X:AV) (hF:zrF p s (nth l k)=some X) :
  PC P inv 210 [.agg p.c,.agg s.c,.agg (wld l),.agg [.i .u8 2,.n tr,.n se,.n ed]] (·=X):=by
 have c0:=zbj hH hI p hp s hs l hl hls;have c2:=zb0 hH l hl tr;have hst:=((zbH p s l).1 hc).1;have hT:=((zbH p s l).1 hc).2;have ho:=zar hst;have hen:∀ x∈p.sections,x.ends.length<=3:=fun x hx=>(zaP ho.sec x hx).2.2.2.2
 rw[hc]at c0;rw[e]at c2;have ht:=zcE.1 (hT.may _ (zac hk7));have hk8:=ht.one;have hk9:=hls _ (zac hk7);have hpl:0<=(nth l k).pl:=by
  rcases ht.rt with h|h
  ·exact h.2.1
  ·omega
 have c1:=zdf hH l (by omega) hls
 have c3:=zlS hH hI p hp s hs hst l k hk7 hk8 hl hpl;have c4:=ziw hH p.sections (nth (nth l k).secs 0) (nth l k).ed (Nat.le_trans hp.sec (by omega)) (fun x hx=>Nat.le_trans (hen x hx) (by omega))
 have c5:=zdC hH p.sections (nxJ p (nth l k)).1.to (Nat.le_trans hp.sec (by omega)) (fun x hx=>Nat.le_trans (hen x hx) (by omega))
 have c6:=zn7 hH p s hs (nxS p (nth l k)).1.pt;have c7:=zqR hH (nxS p (nth l k)).1 (nxJ p (nth l k)).1.ed (zeu s (nxS p (nth l k)).1.pt);unfold zrF zbJ at hF;have y1:=tg1 hk7;have y3:=tg3 hk7;have x0:=zcq hk8;have l8:0<l.length*8:=by omega
 change PC P inv 24 _ (·=.tup [.agg (nxJ p (nth l k)).1.c,.n (nxJ p (nth l k)).2]) at c4;change PC P inv 22 _ (·=.tup [.agg (nxS p (nth l k)).1.c,.n (nxS p (nth l k)).2]) at c5;change PC P inv 18 _ (·=.tup [.n (nxE p s (nth l k)).1,.n (nxE p s (nth l k)).2]) at c7;generalize goT p s (nth l k)=G at *;obtain ⟨g5,g6,g7⟩:=G;generalize zeu s (nxS p (nth l k)).1.pt=li at *;generalize nxE p s (nth l k)=E5 at *;generalize nxS p (nth l k)=S5 at *;generalize nxJ p (nth l k)=J5 at *;unfold stn at c3 c6;unfold wld at *;dsimp only at hF c3;clear hT ho hen hst ht hpl;refine wf hH cd210 fun w0 M Q hM hE hQ hR=>?_;refine wq ?_
 skip
 skip
 (have hX:=zA @y1 (zA @y3 (zA @x0 @l8));(repeat' first|refine zaa xF fun K hK=>?_|exact wt|refine wA ?_|(refine wE ?_ ?_<;>intro h0 h<;>first|exact wN h|((try replace hF:=wX hF);clear h0;first|exact hF.elim|((try subst (h:(_:Bool)=_));try replace hF:=wX hF)))|(refine wQ ?_;clear hQ hR)|refine wC c0 ?_|refine wO c1 ?_|(refine wI hH cd226 100 fun Q hQ hR=>?_;refine wq ?_;try refine wD ?_)|(refine wI hH cd231 200 fun Q hQ hR=>?_;refine wq ?_;try refine wD ?_)|(refine wI hH cd252 300 fun Q hQ hR=>?_;refine wq ?_;try refine wD ?_)|refine wS c2 ?_|refine wS c3 ?_|refine wU c4 ?_|refine wU c5 ?_|refine wC c6 ?_|refine wC c7 ?_|fail);all_goals clear hX)
 all_goals first|exact Option.some.inj hF|(exfalso;contradiction)|(exfalso;omega)
theorem del31_pc (hH:HasAll P inv) (l:List TrainD) (hl:l.length<=1000) (m:MoveD):PC P inv 271 [.sl 8 (l.map TrainD.c),.fn 264 [.ip 4 [m.c] 0 0]] (·=.n (zcB l m.tr)) :=
 zm7 hH (p:=fun t=>decide (t.id=m.tr)) l (fun x _=>zob hH m x) (by omega)
theorem zrO (hH:HasAll P inv) (hI:HasIds P inv) (p:Pln) (hp:Sm p) (s:State) (hs:SmS s) (l:List TrainD) (hl:l.length<=1000) (hls:∀ t∈l,t.secs.length<=1000) (hc:ckC p s l=0) (tr se ed:Int) (h5:zcB l tr<0\/¬zlR p (nth l (zcB l tr).toNat)=0) :
  PC P inv 210 [.agg p.c,.agg s.c,.agg (wld l),.agg [.i .u8 5,.n tr,.n se,.n ed]] (·=if zcB l tr<0 then zbJ 6 [] [] else zbJ 2 [] []):=by
 have c0:=zbj hH hI p hp s hs l hl hls;have c1:=zdf hH l (by omega) hls
 have c2:=zb0 hH l hl tr;have hT:=((zbH p s l).1 hc).2;have ho:=zar ((zbH p s l).1 hc).1;have hen:∀ x∈p.sections,x.ends.length<=3:=fun x hx=>(zaP ho.sec x hx).2.2.2.2
 rw[hc]at c0;unfold wld at *;rcases zb4 l tr with ⟨e,_⟩|⟨k,hk7,e,hid⟩<;>rw[e]at c2 h5 |-
 ·rw[if_pos (by omega)]
  unfold zbJ wld;clear hT ho hen;refine wf hH cd210 fun w0 M Q hM hE hQ hR=>?_;refine wq ?_
  skip
  (repeat' first|refine zaa ya fun K hK=>?_|exact wt|refine wA ?_|(refine wB ?_ ?_<;>intro h<;>first|exact wN h|subst (h:(_:Bool)=_)|skip)|(refine wQ ?_;clear hQ hR)|refine wC c0 ?_|refine wO c1 ?_|(refine wI hH cd226 100 fun Q hQ hR=>?_;refine wq ?_;try refine wD ?_)|(refine wI hH cd234 200 fun Q hQ hR=>?_;refine wq ?_;try refine wD ?_)|(refine wI hH cd252 300 fun Q hQ hR=>?_;refine wq ?_;try refine wD ?_)|refine wS c2 ?_|fail)
  all_goals first|rfl|(exfalso;contradiction)
 ·rw[if_neg (by omega)]
  rw[Int.toNat_natCast]at h5;have h6:=h5.resolve_left (by omega)
  clear h5;have hk8:=(zcE.1 (hT.may _ (zac hk7))).one;have c3:=ziw hH p.sections (nth (nth l k).secs 0) (nth l k).ed (Nat.le_trans hp.sec (by omega)) (fun x hx=>Nat.le_trans (hen x hx) (by omega))
  clear hT ho hen;unfold zlR nxJ at h6;generalize za0 p.sections (nth (nth l k).secs 0) (nth l k).ed=J at *;have y1:=tg1 hk7;have y3:=tg3 hk7;have x0:=zcq hk8;have h1:1<(nth l k).secs.length\/¬J.2=0\/¬J.1.to=0:=Decidable.byContradiction fun h=>h6 (if_neg h)
  clear h6
  ·unfold zbJ wld
   by_cases a1:1<(nth l k).secs.length
   ·refine wf hH cd210 fun w0 M Q hM hE hQ hR=>?_;refine wq ?_
    skip
    (have hX:=zA @y1 (zA @y3 (zA @x0 @a1));(repeat' first|refine zaa ya fun K hK=>?_|exact wt|refine wA ?_|(refine wB ?_ ?_<;>intro h<;>first|exact wN h|subst (h:(_:Bool)=_)|skip)|(refine wQ ?_;clear hQ hR)|refine wC c0 ?_|refine wO c1 ?_|(refine wI hH cd226 100 fun Q hQ hR=>?_;refine wq ?_;try refine wD ?_)|(refine wI hH cd234 200 fun Q hQ hR=>?_;refine wq ?_;try refine wD ?_)|(refine wI hH cd252 300 fun Q hQ hR=>?_;refine wq ?_;try refine wD ?_)|refine wS c2 ?_|refine wU c3 ?_|fail);all_goals clear hX)
    all_goals first|rfl|(exfalso;contradiction)|(exfalso;omega)
   ·by_cases a2:J.2=0
    ·have a3:¬J.1.to=0:=by
      rcases h1 with h1|h1|h1
      ·exact absurd h1 a1
      ·exact absurd a2 h1
      ·exact h1
     refine wf hH cd210 fun w0 M Q hM hE hQ hR=>?_;refine wq ?_
     skip
     (have hX:=zA @y1 (zA @y3 (zA @x0 @a2));(repeat' first|refine zaa ya fun K hK=>?_|exact wt|refine wA ?_|(refine wB ?_ ?_<;>intro h<;>first|exact wN h|subst (h:(_:Bool)=_)|skip)|(refine wQ ?_;clear hQ hR)|refine wC c0 ?_|refine wO c1 ?_|(refine wI hH cd226 100 fun Q hQ hR=>?_;refine wq ?_;try refine wD ?_)|(refine wI hH cd234 200 fun Q hQ hR=>?_;refine wq ?_;try refine wD ?_)|(refine wI hH cd252 300 fun Q hQ hR=>?_;refine wq ?_;try refine wD ?_)|refine wS c2 ?_|refine wU c3 ?_|fail);all_goals clear hX)
     all_goals first|rfl|(exfalso;contradiction)|(exfalso;omega)
    ·refine wf hH cd210 fun w0 M Q hM hE hQ hR=>?_;refine wq ?_
     skip
     (have hX:=zA @y1 (zA @y3 @x0);(repeat' first|refine zaa ya fun K hK=>?_|exact wt|refine wA ?_|(refine wB ?_ ?_<;>intro h<;>first|exact wN h|subst (h:(_:Bool)=_)|skip)|(refine wQ ?_;clear hQ hR)|refine wC c0 ?_|refine wO c1 ?_|(refine wI hH cd226 100 fun Q hQ hR=>?_;refine wq ?_;try refine wD ?_)|(refine wI hH cd234 200 fun Q hQ hR=>?_;refine wq ?_;try refine wD ?_)|(refine wI hH cd252 300 fun Q hQ hR=>?_;refine wq ?_;try refine wD ?_)|refine wS c2 ?_|refine wU c3 ?_|fail);all_goals clear hX)
     all_goals first|rfl|(exfalso;contradiction)|(exfalso;omega)
theorem zcS {l:List TrainD} {k:Nat} {t:TrainD} (hk:k<l.length) {i:Nat}:nth (l.set k t) i=if i=k then t else nth l i:=by
 rw[za9 _ _ _ _ hk]
theorem zpR {l:List TrainD} {k:Nat} {t:TrainD} {A:List (Int×Int)} {σ:AS} {r:AV} {R:List Int} (hk:k<l.length) (h8:l.length<=8) (hr:r=.tup [.agg [.sm 104 (l.length*8) 0 l.length 8],zpO A,.n 0])
  (hg:zah σ 104=some (.cells ((zbC 112 l.length l).set k (tX t (.sm (112+k) R.length 0 t.secs.length 1))).flatten true)) (hs:∀ i,i<l.length->i≠k->zah σ (112+i)=some (.cells ((nth l i).secs.map zaJ).flatten true))
  (hR:zah σ (112+k)=some (.cells (R.map zaJ).flatten true)) (h1:t.secs=R.take t.secs.length) (h2:t.secs.length<=R.length):XR0 (l.set k t) A r σ:=by
 have hl:((zbC 112 l.length l).set k (tX t (.sm (112+k) R.length 0 t.secs.length 1))).length=l.length:=by rw[List.length_set,zaF]
 refine ⟨_,by rw[hl,List.length_set];exact hr,hg,by rw[hl,List.length_set];omega,fun c hc=>?_,fun c hc=>?_,fun i hi=>?_⟩
 ·rcases List.mem_or_eq_of_mem_set hc with h|h
  ·exact zbL _ c h
  ·subst h;rfl
 ·rcases List.mem_or_eq_of_mem_set hc with h|h
  ·exact zlq (by omega) c h
  ·subst h;rw[zmw];simp only[AV.bound];omega
 ·rw[List.length_set]at hi
  rw[zcS hk,List.getElem?_set];by_cases e:i=k
  ·subst e
   rw[if_pos rfl,if_pos rfl,if_pos (by rw[zaF];exact hi)]
   exact ⟨_,R,rfl,hR,by omega,h1,h2⟩
  ·rw[if_neg e,if_neg (fun h=>e h.symm)]
   refine ⟨112+i,(nth l i).secs, ?_,hs i hi e,by omega,(List.take_length ..).symm,Nat.le_refl _⟩
   rw[List.getElem?_eq_getElem (by rw[zaF];exact hi),zbn hi,if_pos hi]
   rfl
theorem tailA (hH:HasAll P inv) (hI:HasIds P inv) (p:Pln) (hp:Sm p) (s:State) (hs:SmS s) (l:List TrainD) (hl:l.length<=1000) (hls:∀ t∈l,t.secs.length<=1000) (hc:ckC p s l=0) (tr se ed:Int) {k:Nat} (hk7:k<l.length) (ha:zcB l tr=(k:Int)) (h1:¬(nth l k).secs.length=1) (hM:∀ b,M b->b<w0.heap.size) :
  AC P inv w0 M 0 210 [.agg p.c,.agg s.c,.agg (wld l),.agg [.i .u8 3,.n tr,.n se,.n ed]] [] (XR0 (l.set k (zmv (nth l k))) [(nth (nth l k).secs ((nth l k).secs.length-1),0)]):=by
 have c0:=zbj hH hI p hp s hs l hl hls;have hT:=((zbH p s l).1 hc).2;have h8:=hT.len;have h0:0<l.length:=by omega
 have c1:=zfX hH l h0 (by omega) (fun t ht=>⟨(zcE.1 (hT.may t ht)).one,hls t ht⟩)
 have c2:=zb0 hH l hl tr;have hk8:=(zcE.1 (hT.may _ (zac hk7))).one;rw[hc]at c0;rw[ha]at c2;have hk9:=hls _ (zac hk7);clear hT hc;have hm:=rowM l h8;have w:=rowW l h8;have wk:=zqr hk7 h8;have hkr:k<(zbC 112 l.length l).length:=by rw[zaF];exact hk7
 have hlt:(nth l k).secs.length-1<(nth l k).secs.length:=by omega
 have x0:=zcq hlt;have x1:(((nth l k).secs.length:Int)-1).toNat=(nth l k).secs.length-1:=by omega
 have yp:=cl_set (zbL (b:=112) (l:=l) l.length) hkr (i:=1) (by omega) (.sm (112+k) (nth l k).secs.length 0 ((nth l k).secs.length-1) 1)
 rw[zbn hk7,if_pos hk7,show (tX (nth l k) (sX (112+k) (nth l k))).set 1 (.sm (112+k) (nth l k).secs.length 0 ((nth l k).secs.length-1) 1)=tX (nth l k) (.sm (112+k) (nth l k).secs.length 0 ((nth l k).secs.length-1) 1) from rfl]at yp
 have c3:=zex hH (nth (nth l k).secs ((nth l k).secs.length-1)) 0 (by omega)
 unfold wld at *;refine zad (F:=cd210) (hH.has _ _ rfl) (Nat.le_of_ble_eq_true rfl) fun Q hQ hR=>?_;have hE:=hH.callable;dsimp only[cd210]at hQ |-;refine wq ?_
 skip
 (have hX:=zA @w (zA @wk (zA @x0 (zA @x1 @yp)));(repeat' first|refine zaa xD fun K hK=>?_|exact wt|refine wA ?_|(refine wB ?_ ?_<;>intro h<;>first|exact wN h|subst (h:(_:Bool)=_)|skip)|(refine wQ ?_;clear hQ hR)|refine wC c0 ?_|refine wO c1 ?_|(refine wI hH cd226 100 fun Q hQ hR=>?_;refine wq ?_;try refine wD ?_)|(refine wI hH cd232 1200 fun Q hQ hR=>?_;refine wq ?_;try refine wD ?_)|(refine wI hH cd252 1300 fun Q hQ hR=>?_;refine wq ?_;try refine wD ?_)|(refine wJ 1400 ((ziK hM c2 h0 (by intro i hi;(repeat rw[zal (by omega)]);exact zbK (zaX hi) _) rfl (by (repeat rw[zal (by omega)]);(rw[hm.get _ (by omega)]);rfl))) ?_;try refine wD ?_)|refine wC c3 ?_|fail);all_goals clear hX)
 have ht:(zmv (nth l k)).secs.length=(nth l k).secs.length-1:=by show ((nth l k).secs.take _).length=_;rw[List.length_take];omega
 refine zpR (t:=zmv (nth l k)) (R:=(nth l k).secs) hk7 h8 rfl ?_ (fun i hi _=>?_) ?_ ?_ ?_
 ·(repeat rw[zal (by omega)])
  rw[ht];rfl
 ·(repeat rw[zal (by omega)])
  exact zbK (zaX hi) _
 ·(repeat rw[zal (by omega)])
  exact zbK (zaX hk7) _
 ·rw[ht];rfl
 ·rw[ht];omega
end Go.Lev
