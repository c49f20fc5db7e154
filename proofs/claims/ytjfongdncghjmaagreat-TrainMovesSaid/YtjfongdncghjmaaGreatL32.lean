/-
  Contracts of functions. Conditions: those that each theorem names.
-/
import Derived.Test.YtjfongdncghjmaaGreatL24
import Derived.Test.YtjfongdncghjmaaGreatL31
set_option linter.unusedSimpArgs false
set_option linter.unusedVariables false
set_option linter.unusedSectionVars false
namespace Go.Lev
open Go.Eng
set_option maxRecDepth 10000
set_option maxHeartbeats 8000000
variable {P:Program} {inv:Nat->Option Nat} {w0:World} {M:Nat->Prop}
theorem zpe (hH:HasAll P inv) (hI:HasIds P inv) (p:Pln) (hp:Sm p) (s:State) (hs:SmS s) (l:List TrainD) (hl:l.length<=1000) (hls:∀ t∈l,t.secs.length<=1000) (hc:¬ckC p s l=0) (kd tr se ed:Int) :
  PC P inv 210 [.agg p.c,.agg s.c,.agg (wld l),.agg [.i .u8 kd,.n tr,.n se,.n ed]] (·=zbJ (ckC p s l) [] []):=by
 have c0:=zbj hH hI p hp s hs l hl hls;generalize ckC p s l=e at *;unfold zbJ;unfold wld at *;refine wf hH cd210 fun w0 M Q hM hE hQ hR=>?_;refine wq ?_
 (repeat' first|refine zaa xP fun K hK=>?_|exact wt|refine wA ?_|(refine wB ?_ ?_<;>intro h<;>first|exact wN h|subst (h:(_:Bool)=_)|skip)|(refine wQ ?_;clear hQ hR hE hM)|refine wC c0 ?_|fail)
 all_goals first|rfl|(exfalso;contradiction)
theorem zpf (hH:HasAll P inv) (hI:HasIds P inv) (p:Pln) (hp:Sm p) (s:State) (hs:SmS s) (l:List TrainD) (hl:l.length<=1000) (hls:∀ t∈l,t.secs.length<=1000) (hc:ckC p s l=0) (kd tr se ed:Int) (hk:0<=kd/\kd<=255) (hk2:kd<1\/6<=kd) :
  PC P inv 210 [.agg p.c,.agg s.c,.agg (wld l),.agg [.i .u8 kd,.n tr,.n se,.n ed]] (·=zbJ 2 [] []):=by
 have c0:=zbj hH hI p hp s hs l hl hls;rw[hc]at c0;unfold zbJ;unfold wld at *;refine wf hH cd210 fun w0 M Q hM hE hQ hR=>?_;refine wq ?_
 skip
 (repeat' first|refine zaa xP fun K hK=>?_|exact wt|refine wA ?_|(refine wB ?_ ?_<;>intro h<;>first|exact wN h|subst (h:(_:Bool)=_)|skip)|(refine wQ ?_;clear hQ hR)|refine wC c0 ?_|(refine wI hH cd226 100 fun Q hQ hR=>?_;refine wq ?_;try refine wD ?_)|fail)
 all_goals first|rfl|(exfalso;contradiction)|(exfalso;omega)
theorem zq5 (hH:HasAll P inv) (hI:HasIds P inv) (hIn:HasIns P inv) (p:Pln) (hp:Sm p) (s:State) (hs:SmS s) (l:List TrainD) (hl:l.length<=1000) (hls:∀ t∈l,t.secs.length<=1000) (m:MoveD) (hk:0<=m.kind/\m.kind<=255) :
  PC P inv 210 [.agg p.c,.agg s.c,.agg (wld l),.agg m.c] (·=zjP (mvR p s l m)):=by
 by_cases h0:(mvR p s l m).1=0
 ·have:=xr0_pc fun w0 M hM=>moveA (w0:=w0) (M:=M) hH hI hIn p hp s hs l hl hls m hk h0 hM
  unfold zjP;rw[h0];exact this
 obtain ⟨kd,tr,se,ed⟩:=m;dsimp only at hk;unfold MoveD.c;unfold mvR at h0 |-
 dsimp only at h0 |-
 by_cases hc:ckC p s l=0
 ·rw[if_pos hc]at h0 |-
  by_cases h1:kd=1
  ·subst h1
   rw[if_pos rfl]at h0 |-
   rw[<-putF_eq];exact zpc hH hI hIn p hp s hs l hl hls hc tr se ed
  rw[if_neg h1]at h0 |-
  have ho:∀ f:Nat->TrainD->MvR,zcB l tr<0->zgC p s l tr f=(6,[],[]):=fun f h=>if_pos h
  have hn:∀ f:Nat->TrainD->MvR,¬zcB l tr<0->zgC p s l tr f=f (zcB l tr).toNat (nth l (zcB l tr).toNat):=fun f h=>if_neg h
  by_cases h2:kd=2
  ·subst h2
   rw[if_pos rfl]at h0 |-
   rcases zb4 l tr with ⟨e,_⟩|⟨k,hk7,e,hid⟩
   ·rw[ho _ (by omega)]
    exact zrG hH hI p hp s hs l hl hls hc tr se ed (by omega)
   ·rw[hn _ (by omega),e,Int.toNat_natCast,<-zok,zoj]
    cases hO:zrF p s (nth l k) with
    |some X=>exact headX_pc hH hI p hp s hs l hl hls hc tr se ed hk7 e X hO
    |none =>
     have h3:=zok p s l k (nth l k);rw[zoj,hO]at h3;rw[hn _ (by omega),e,Int.toNat_natCast]at h0
     refine absurd ?_ h0;unfold zjP zbJ at h3;simp only[Option.getD_none,AV.tup.injEq,List.cons.injEq,AV.i.injEq]at h3;exact h3.2.2.1.2.symm
  rw[if_neg h2]at h0 |-
  by_cases h3:kd=3
  ·subst h3
   rw[if_pos rfl]at h0 |-
   have h5:zcB l tr<0\/(nth l (zcB l tr).toNat).secs.length=1:=by
    by_cases h6:zcB l tr<0
    ·exact .inl h6
    ·rw[hn _ h6]at h0
     refine .inr (Decidable.byContradiction fun h=>h0 ?_)
     unfold zja;rw[if_neg h]
   have h7:=zpZ hH hI p hp s hs l hl hls hc tr se ed h5;by_cases h6:zcB l tr<0
   ·rw[if_pos h6]at h7;rw[ho _ h6];exact h7
   ·rw[if_neg h6]at h7;rw[hn _ h6,zja,if_pos (h5.resolve_left h6)];exact h7
  rw[if_neg h3]at h0 |-
  by_cases h4:kd=4
  ·subst h4
   rw[if_pos rfl]at h0 |-
   have h5:zcB l tr<0\/1<(nth l (zcB l tr).toNat).secs.length:=by
    by_cases h6:zcB l tr<0
    ·exact .inl h6
    ·rw[hn _ h6]at h0
     refine .inr (Decidable.byContradiction fun h=>h0 ?_)
     unfold zi9;rw[if_neg h]
   have h7:=zpX hH hI p hp s hs l hl hls hc tr se ed h5;by_cases h6:zcB l tr<0
   ·rw[if_pos h6]at h7;rw[ho _ h6];exact h7
   ·rw[if_neg h6]at h7;rw[hn _ h6,zi9,if_pos (h5.resolve_left h6)];exact h7
  rw[if_neg h4]at h0 |-
  by_cases h5:kd=5
  ·subst h5
   rw[if_pos rfl]at h0 |-
   have h8:zcB l tr<0\/¬zlR p (nth l (zcB l tr).toNat)=0:=by
    by_cases h6:zcB l tr<0
    ·exact .inl h6
    ·rw[hn _ h6]at h0
     refine .inr fun h=>h0 ?_
     unfold zje;rw[if_pos h]
   have h7:=zrO hH hI p hp s hs l hl hls hc tr se ed h8;by_cases h6:zcB l tr<0
   ·rw[if_pos h6]at h7;rw[ho _ h6];exact h7
   ·rw[if_neg h6]at h7;rw[hn _ h6,zje,if_neg (h8.resolve_left h6)];exact h7
  rw[if_neg h5];exact zpf hH hI p hp s hs l hl hls hc kd tr se ed hk (by omega)
 ·rw[if_neg hc]
  exact zpe hH hI p hp s hs l hl hls hc kd tr se ed
end Go.Lev
