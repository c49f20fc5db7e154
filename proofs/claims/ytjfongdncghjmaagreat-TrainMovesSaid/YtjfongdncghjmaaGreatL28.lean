/-
  Contracts of functions. Conditions: those that each theorem names.
-/
import Derived.Test.YtjfongdncghjmaaGreatL23
set_option linter.unusedSimpArgs false
set_option linter.unusedVariables false
set_option linter.unusedSectionVars false
namespace Go.Lev
open Go.Eng
set_option maxRecDepth 10000
set_option maxHeartbeats 8000000
variable {P:Program} {inv:Nat->Option Nat} {w0:World} {M:Nat->Prop}
theorem znG {b:Nat} {l:List TrainD} {k:Nat} {t:TrainD} (hk:k<l.length):∀ {j:Nat},j<=k->zbv b (l.set k t) j=zbv b l j
 |0,_=>rfl
 |j+1,h=>by rw[zbv,znG hk (by omega),zbv,zcS hk,if_neg (by omega)]
theorem zlb {b:Nat} {l:List TrainD} {k:Nat} {t:TrainD} {x:AO} (hk:k<l.length) (hx:x=.cells (t.secs.map zaJ).flatten true):∀ {j:Nat},k<j->∀ r:List (Nat×AO),sput (zbv b l j++r) (b+k) x=zbv b (l.set k t) j++r
 |j+1,h,r=>by
  rw[zbv,List.append_assoc,zbv,List.append_assoc];by_cases e:k=j
  ·subst e
   rw[zhw _ _ _ _ fun p hp=>by obtain ⟨i,hi,rfl⟩:=zeA hp;show b+i<b+k;omega,znG hk (Nat.le_refl _),zcS hk,if_pos rfl]
   simp only[List.singleton_append,sput,if_pos,hx]
  ·rw[zlb hk hx (by omega),zcS hk,if_neg (fun h=>e h.symm)]
theorem goes_ac {N:Nat} {p:Pln} {s:State} {l:List TrainD} {k:Nat} {r:AV} (hM:∀ b,M b->b<w0.heap.size) (c:PC P inv 260 [.ip 10 [stn p s++[.sl 8 (l.map TrainD.c)]] 0 0,.ip (l.length*8) [(l.map TrainD.c).flatten] 0 (k*8)] (·=r)) (hs:r.scalar=true) {σ:AS} {T q b:Nat} (hk:k<l.length)
  (hr:∀ i,i<l.length->zah σ (b+i)=some (.cells ((nth l i).secs.map zaJ).flatten true))
  (hT:zah σ T=some (.cells (zbC b l.length l).flatten true)) (hq:zah σ q=some (.cells (stn p s++[.sm T (l.length*8) 0 l.length 8]) true)) :
  AC P inv w0 M N 260 [.ptr q 10 0,.ptr T (l.length*8) (k*8)] σ fun r' σ'=>r'=r/\σ'=σ:=by
 refine zdu hM c ?_ hs;have h1:za5 4 σ T=some (l.map TrainD.c).flatten:=by
  simp only[za5,hT];exact congrArg some (zgb (k:=2) hr)
 have h2:za5 3 σ T=some (l.map TrainD.c).flatten:=by
  simp only[za5,hT];exact congrArg some (zgb (k:=1) hr)
 have h3:zbd 8 l.length (l.map TrainD.c).flatten=l.map TrainD.c:=zbi (c:=TrainD.c) l;have h5:(l.map TrainD.c).flatten.length=l.length*8:=zbo (c:=TrainD.c) l;have h6:za5 4 σ q=some (stn p s++[.sl 8 (l.map TrainD.c)]):=by
  have e:za5 4 σ q=some (zaT (za5 3 σ) (stn p s++[.sm T (l.length*8) 0 l.length 8])):=by
   show (match zah σ q with|some (.cells cs _)=>some (zaT (za5 3 σ) cs)|_=>none)=_
   rw[hq]
  rw[e];unfold stn Pln.c State.c;simp only[List.cons_append,List.nil_append,zaT,zaR,h2];rw[if_pos ⟨h5,by omega⟩,List.drop_zero,h3]
 simp only[zbF,zaT,zaR,h1,h6];rw[if_pos ⟨rfl,by omega⟩,if_pos ⟨h5,by omega⟩]
theorem headA (hH:HasAll P inv) (hI:HasIds P inv) (hIn:HasIns P inv) (p:Pln) (hp:Sm p) (s:State) (hs:SmS s) (l:List TrainD) (hl:l.length<=1000) (hls:∀ t∈l,t.secs.length<=1000) (hc:ckC p s l=0) (tr se ed:Int) {k:Nat} (hk7:k<l.length) (ha:zcB l tr=(k:Int))
  (b1:¬4<=(nth l k).secs.length) (b2:(goT p s (nth l k)).2.2=true) (b3:(nxJ p (nth l k)).2=0) (b4:¬(nxJ p (nth l k)).1.to=0) (b5:(nxS p (nth l k)).2=0) (b6:(nxE p s (nth l k)).2=0) (hM:∀ b,M b->b<w0.heap.size) :
  AC P inv w0 M 0 210 [.agg p.c,.agg s.c,.agg (wld l),.agg [.i .u8 2,.n tr,.n se,.n ed]] [] (XR0 (l.set k (zfr p s (nth l k))) [((nxS p (nth l k)).1.id,1)]):=by
 have c0:=zbj hH hI p hp s hs l hl hls;have hst:=((zbH p s l).1 hc).1;have hT:=((zbH p s l).1 hc).2;have h8:=hT.len;have h0:0<l.length:=by omega
 have c1:=zfX hH l h0 (by omega) (fun t ht=>⟨(zcE.1 (hT.may t ht)).one,hls t ht⟩)
 have c2:=zb0 hH l hl tr;have ho:=zar hst;have hen:∀ x∈p.sections,x.ends.length<=3:=fun x hx=>(zaP ho.sec x hx).2.2.2.2
 have ht:=zcE.1 (hT.may _ (zac hk7));have hk8:=ht.one;have hk9:=hls _ (zac hk7);have hpl:0<=(nth l k).pl:=by
  rcases ht.rt with h|h
  ·exact h.2.1
  ·omega
 have c3:=zlS hH hI p hp s hs hst l k hk7 hk8 hl hpl;have c4:=ziw hH p.sections (nth (nth l k).secs 0) (nth l k).ed (Nat.le_trans hp.sec (by omega)) (fun x hx=>Nat.le_trans (hen x hx) (by omega))
 have c5:=zdC hH p.sections (nxJ p (nth l k)).1.to (Nat.le_trans hp.sec (by omega)) (fun x hx=>Nat.le_trans (hen x hx) (by omega))
 have c6:=zn7 hH p s hs (nxS p (nth l k)).1.pt;have c7:=zqR hH (nxS p (nth l k)).1 (nxJ p (nth l k)).1.ed (zeu s (nxS p (nth l k)).1.pt);have c8:=zex hH (nxS p (nth l k)).1.id 1 (by omega)
 rw[hc]at c0;rw[ha]at c2;have hm:=rowM l h8;have w:=rowW l h8;have wk:=zqr hk7 h8;have hkr:k<(zbC 112 l.length l).length:=by rw[zaF];exact hk7
 have x0:=zcq hk8;have wz:∀ q,121<=q->(112+k=q)=False:=fun q hq=>eq_false (by omega)
 have wy:∀ q,q<=112->(112+k<q)=False:=fun q hq=>eq_false (by omega)
 have w2:=rowW (l.set k (zfr p s (nth l k))) (by rw[List.length_set];exact h8)
 rw[List.length_set]at w2;have ws:∀ r,sput (tl (zbv 112 l l.length) r) (112+k) (.cells (.n (nxS p (nth l k)).1.id::((nth l k).secs.map zaJ).flatten) true)=tl (zbv 112 (l.set k (zfr p s (nth l k))) l.length) r:=fun r=>zlb (b:=112) (t:=zfr p s (nth l k)) hk7 rfl hk7 r
 have yp:=zoA (zbL (b:=112) (l:=l) l.length) hkr (c:=tX (zfr p s (nth l k)) (.sm (112+k) ((nth l k).secs.length+1) 0 ((nth l k).secs.length+1) 1)) rfl;have hcl:((nth l k).secs.map zaJ).flatten.length=(nth l k).secs.length:=by rw[zbo (c:=zaJ),Nat.mul_one]
 generalize hHT:l.set k (zfr p s (nth l k))=L at *;unfold zfr tX ovl ovl ovl ovl ovl ovl ovl ovl ovl at yp;dsimp only at yp;change PC P inv 24 _ (·=.tup [.agg (nxJ p (nth l k)).1.c,.n (nxJ p (nth l k)).2]) at c4;change PC P inv 22 _ (·=.tup [.agg (nxS p (nth l k)).1.c,.n (nxS p (nth l k)).2]) at c5;change PC P inv 18 _ (·=.tup [.n (nxE p s (nth l k)).1,.n (nxE p s (nth l k)).2]) at c7;have a4:((nxJ p (nth l k)).1.to=0)=False:=eq_false b4;rw[b2]at c3;unfold stn at c6;unfold wld at *;clear hT ho hen hst ht hpl;refine zad (F:=cd210) (hH.has _ _ rfl) (Nat.le_of_ble_eq_true rfl) fun Q hQ hR=>?_;have hE:=hH.callable;dsimp only[cd210]at hQ |-;refine wq ?_
 skip
 (have hX:=zA @w (zA @wk (zA @x0 (zA @wz (zA @wy (zA @w2 (zA @ws (zA @yp (zA @b3 (zA @b5 (zA @b6 @a4))))))))));(repeat' first|refine zaa xF fun K hK=>?_|exact wt|refine wA ?_|(refine wB ?_ ?_<;>intro h<;>first|exact wN h|subst (h:(_:Bool)=_)|skip)|(refine wQ ?_;clear hQ hR)|refine wC c0 ?_|refine wO c1 ?_|(refine wI hH cd226 100 fun Q hQ hR=>?_;refine wq ?_;try refine wD ?_)|(refine wI hH cd231 1200 fun Q hQ hR=>?_;refine wq ?_;try refine wD ?_)|(refine wI hH cd252 1300 fun Q hQ hR=>?_;refine wq ?_;try refine wD ?_)|(refine wJ 1400 ((ziK hM c2 h0 (by intro i hi;(repeat rw[zal (by omega)]);exact zbK (zaX hi) _) rfl (by (repeat rw[zal (by omega)]);(rw[hm.get _ (by omega)]);rfl))) ?_;try refine wD ?_)|(refine wJ 1400 ((goes_ac hM c3 rfl hk7 (by intro i hi;(repeat rw[zal (by omega)]);exact zbK (zaX hi) _) rfl (by (repeat rw[zal (by omega)]);(rw[hm.get _ (by omega)]);rfl))) ?_;try refine wD ?_)|refine wU c4 ?_|refine wU c5 ?_|refine wC c6 ?_|refine wC c7 ?_|refine wC c8 ?_|(refine wJ 1500 ((ins_ac0 hIn.int (by (repeat rw[zal (by omega)]);exact zbK (zaX hk7) _) (by (repeat rw[zal (by omega)]);(rw[hm.get _ (by omega)]);rfl) (by omega) hcl rfl (by omega))) ?_;try refine wD ?_)|fail);all_goals clear hX)
 subst hHT;refine zpR (t:=zfr p s (nth l k)) (R:=(zfr p s (nth l k)).secs) hk7 h8 rfl ?_ (fun i hi he=>?_) ?_ ?_ ?_
 ·(repeat rw[zal (by omega)])
  rfl
 ·(repeat rw[zal (by omega)])
  rw[zbK (zaX hi) _,zcS hk7,if_neg he]
 ·(repeat rw[zal (by omega)])
  rw[zbK (zaX hk7) _,zcS hk7,if_pos rfl]
 ·exact (List.take_length ..).symm
 ·exact Nat.le_refl _
end Go.Lev
