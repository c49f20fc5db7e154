/-
  Contracts of functions. Conditions: those that each theorem names.
-/
import Derived.Test.YtjfongdncghjmaaGreatL29
import Derived.Test.YtjfongdncghjmaaGreatL30
import Derived.Test.YtjfongdncghjmaaGreatL32
set_option linter.unusedSimpArgs false
set_option linter.unusedVariables false
set_option linter.unusedSectionVars false
namespace Go.Lev
open Go.Eng
set_option maxRecDepth 10000
set_option maxHeartbeats 8000000
variable {P:Program} {inv:Nat->Option Nat} {w0:World} {M:Nat->Prop}
theorem zmY (hH:HasAll P inv) (p:Pln) (hp:Sm p) (s:State) (hs:SmS s) (l:List TrainD) (hl:l.length<=1000) (hls:∀ t∈l,t.secs.length<=1000) (hc:¬ckC p s l=0) (kd tr se ed:Int) :
  PC P inv 387 [.agg p.c,.agg s.c,.agg (wld l),.agg [.i .u8 kd,.n tr,.n se,.n ed]] (·=zbJ (ckC p s l) [] []):=by
 have c0:=zbY hH p hp s hs l hl hls;generalize ckC p s l=e at *;unfold zbJ;unfold wld at *;refine wf hH cd387 fun w0 M Q hM hE hQ hR=>?_;refine wq ?_
 (repeat' first|refine zaa yo fun K hK=>?_|exact wt|refine wA ?_|(refine wB ?_ ?_<;>intro h<;>first|exact wN h|subst (h:(_:Bool)=_)|skip)|(refine wQ ?_;clear hQ hR hE hM)|refine wC c0 ?_|fail)
 all_goals first|rfl|(exfalso;contradiction)
theorem zmZ (hH:HasAll P inv) (p:Pln) (hp:Sm p) (s:State) (hs:SmS s) (l:List TrainD) (hl:l.length<=1000) (hls:∀ t∈l,t.secs.length<=1000) (hc:ckC p s l=0) (kd tr se ed:Int) (hk:0<=kd/\kd<=255) (hk2:kd<1\/6<=kd) :
  PC P inv 387 [.agg p.c,.agg s.c,.agg (wld l),.agg [.i .u8 kd,.n tr,.n se,.n ed]] (·=zbJ 2 [] []):=by
 have c0:=zbY hH p hp s hs l hl hls;rw[hc]at c0;unfold zbJ;unfold wld at *;refine wf hH cd387 fun w0 M Q hM hE hQ hR=>?_;refine wq ?_
 (repeat' first|refine zaa yo fun K hK=>?_|exact wt|refine wA ?_|(refine wB ?_ ?_<;>intro h<;>first|exact wN h|subst (h:(_:Bool)=_)|skip)|(refine wQ ?_;clear hQ hR hE hM)|refine wC c0 ?_|fail)
 all_goals first|rfl|(exfalso;contradiction)|(exfalso;omega)
theorem zpg (hH:HasAll P inv) (p:Pln) (hp:Sm p) (s:State) (hs:SmS s) (l:List TrainD) (hl:l.length<=1000) (hls:∀ t∈l,t.secs.length<=1000) (m:MoveD) (hk:0<=m.kind/\m.kind<=255) :
  PC P inv 387 [.agg p.c,.agg s.c,.agg (wld l),.agg m.c] (·=zjP (mvR p s l m)):=by
 obtain ⟨kd,tr,se,ed⟩:=m;dsimp only at hk;unfold MoveD.c mvR;dsimp only;by_cases hc:ckC p s l=0
 ·rw[if_pos hc]
  by_cases h1:kd=1
  ·subst h1
   rw[if_pos rfl];exact zmX hH p hp s hs l hl hls hc tr se ed
  rw[if_neg h1];by_cases hb:2<=kd/\kd<=5
  ·rcases zb4 l tr with ⟨e,_⟩|⟨k,hk7,e,_⟩
   ·have:=zpd hH p hp s hs l hl hls hc kd tr se ed hb e
    have h9:∀ f,zgC p s l tr f=(6,[],[]):=fun f=>by unfold zgC;rw[if_pos (by omega)]
    rw[h9,h9,h9,h9];rcases (show kd=2\/kd=3\/kd=4\/kd=5 by omega) with rfl|rfl|rfl|rfl<;>exact this
   ·have h9:∀ f,zgC p s l tr f=f k (nth l k):=fun f=>by unfold zgC;rw[if_neg (by omega),e,Int.toNat_natCast]
    rw[h9,h9,h9,h9];rcases (show kd=2\/kd=3\/kd=4\/kd=5 by omega) with rfl|rfl|rfl|rfl
    ·exact zlJ hH p hp s hs l hl hls hc tr se ed hk7 e
    ·exact zlI hH p hp s hs l hl hls hc tr se ed hk7 e
    ·exact zlH hH p hp s hs l hl hls hc tr se ed hk7 e
    ·exact zlK hH p hp s hs l hl hls hc tr se ed hk7 e
  ·rw[if_neg (by omega),if_neg (by omega),if_neg (by omega),if_neg (by omega)]
   exact zmZ hH p hp s hs l hl hls hc kd tr se ed hk (by omega)
 ·rw[if_neg hc]
  exact zmY hH p hp s hs l hl hls hc kd tr se ed
theorem zoO (hH:HasAll P inv) (l:List TrainD) (h1:l.length<=1000) (h2:∀ t∈l,t.secs.length<=1000):PC P inv 386 [.agg (wld l)] (·=.agg (wld l)):=by
 refine (zcN hH l h1 h2).pc.mono fun r h=>h.trans ?_
 have h3:zbd 8 l.length (l.map TrainD.c).flatten=l.map TrainD.c:=zbi (c:=TrainD.c) l;have h5:(l.map TrainD.c).flatten.length=l.length*8:=zbo (c:=TrainD.c) l;have h6:za5 4 [(3,AO.cells (l.map TrainD.c).flatten (decide (0<l.length)))] 3=some (l.map TrainD.c).flatten:=by
  show some (zaT (za5 3 _) (l.map TrainD.c).flatten)=_
  rw[zd4 (c:=TrainD.c)]
 unfold zfZ wld;simp only[zaR,zaT,h6];rw[if_pos ⟨h5,by omega⟩,List.drop_zero,h3]
def xS (l X:List TrainD) (CL:List (List AV)) (τ:AS):AS :=
 (2,.cells [.sl 8 (l.map TrainD.c)] true)::(4,.cells [.sl 8 (l.map TrainD.c)] true)::(109,.cells CL.flatten true)::tl τ [(2005,.cells [] false),(2006,.cells [.sm 109 (CL.length*8) 0 X.length 8] true)]
theorem xS_eq (l X:List TrainD) (CL:List (List AV)) (τ:AS):xS l X CL τ=(2,.cells [.sl 8 (l.map TrainD.c)] true)::(4,.cells [.sl 8 (l.map TrainD.c)] true)::(109,.cells CL.flatten true)::tl τ [(2005,.cells [] false),(2006,.cells [.sm 109 (CL.length*8) 0 X.length 8] true)]:=rfl
theorem xgW {X:List TrainD} {CL:List (List AV)} {τ:AS} (h:XG X CL τ):(∀ r q,(q<110\/2005<=q)->zah (tl τ r) q=zah r q)/\(∀ r q,2005<=q->∀ x,sput (tl τ r) q x=tl τ (sput r q x))/\(∀ q o r,2005<=q+1->zax (tl τ ((q,o)::r))=zax ((q,o)::r))/\(∀ σ:AS,SLe σ σ=True) :=
 have hm:=h.mid
 ⟨fun r q hq=>hm.get r hq,fun r q hq x=>hm.put r hq x,fun q o r hq=>hm.bound (j:=q) o r hq,fun σ=>eq_true fun l o e _=>e⟩
theorem zsd {X:List TrainD} {CL:List (List AV)} {i:Nat} {Y:AV} (hc:∀ x∈CL,x.length=8) (h:CL[i]?=some (tX (nth X i) Y)):CL.flatten[i*8+1]?=some Y:=by
 have hi:i<CL.length:=Decidable.byContradiction fun h2=>by rw[List.getElem?_eq_none (by omega)]at h;cases h
 rw[cl_get hc hi (by omega)]
 rw[List.getElem?_eq_getElem hi]at h;rw[Option.some.inj h];rfl
theorem xgM {X:List TrainD} {CL:List (List AV)} {τ:AS} (h:XG X CL τ) {m:Nat} {o:AO} (e:zah τ m=some o):(∀ r,zah (tl τ r) m=some o)/\(∀ r x,sput (tl τ r) m x=tl (sput τ m x) r)/\(∀ q,q<110->(m=q)=False)/\(∀ q,q<110->(m<q)=False) :=
 have hm:=h.mid.key e
 ⟨fun r=>zbK e r,fun r x=>zp9 r ⟨o,e⟩,fun q hq=>eq_false (by omega),fun q hq=>eq_false (by omega)⟩
theorem zmp {X:List TrainD} {CL:List (List AV)} {τ:AS} (h:XG X CL τ) {σ:AS} {A B C D E:AO} (h0:zah σ 2=some A) (h1:zah σ 4=some B) (h2:zah σ 109=some C) (h3:∀ k o,zah τ k=some o->zah σ k=some o) (h4:zah σ 2005=some D) (h5:zah σ 2006=some E) :
  zdG ((2,A)::(4,B)::(109,C)::tl τ [(2005,D),(2006,E)]) σ:=zfE fun p hp=>by
 simp only[List.mem_cons,tl,List.mem_append,List.not_mem_nil,or_false]at hp;rcases hp with rfl|rfl|rfl|hp|rfl|rfl
 ·exact h0
 ·exact h1
 ·exact h2
 ·exact h3 _ _ (h.srt.get hp)
 ·exact h4
 ·exact h5
theorem zpS {l X:List TrainD} {CL:List (List AV)} {τ:AS} (h:XG X CL τ):zdG (xS l X CL τ) (xS l X CL τ):=by
 unfold xS;exact zmp h rfl rfl rfl (fun k o e=>by have:=h.mid.key e;(repeat rw[zal (by omega)]);exact zbK e _) (by (repeat rw[zal (by omega)]);rw[h.mid.get _ (by omega)];rfl) (by (repeat rw[zal (by omega)]);rw[h.mid.get _ (by omega)];rfl)
theorem trainMoves_pc (hH:HasAll P inv) (hI:HasIds P inv) (hIn:HasIns P inv) (p:Pln) (hp:Pln.ok p) (s:State) (l:List TrainD) (m:MoveD) (hk:0<=m.kind/\m.kind<=255):PC P inv 377 [.agg p.c,.agg s.c,.agg (wld l),.agg m.c] (·=.b true):=by
 have c1:=zpq hH p s l;cases hg:(gPl p||(zkM s||gTr l)) with
 |true =>
  rw[hg]at c1;unfold wld at *;unfold MoveD.c;refine wf hH cd377 fun w0 M Q hM hE hQ hR=>?_;refine wq ?_
  (repeat' first|refine zaa kQ fun K hK=>?_|exact wt|refine wA ?_|(refine wB ?_ ?_<;>intro h<;>first|exact wN h|subst (h:(_:Bool)=_)|skip)|(refine wQ ?_;clear hQ hR hE hM)|refine wC c1 ?_|fail)
  all_goals trace_state
 |false =>
  rw[hg]at c1;simp only[Bool.or_eq_false_iff]at hg;have hp':=sm31 hp hg.1;have hs':=smS_of hg.2.1;obtain ⟨hl30,hls30⟩:=tr31 hg.2.2;have hls:∀ t∈l,t.secs.length<=1000:=fun t ht=>Nat.le_trans (hls30 t ht) (by omega)
  have c2:=zoO hH l (by omega) hls
  have c3:=zq5 hH hI hIn p hp' s hs' l (by omega) hls m hk
  have c4:=zpg hH p hp' s hs' l (by omega) hls m hk
  have c5:=zbj hH hI p hp' s hs' l (by omega) hls
  have c6:=zbY hH p hp' s hs' l (by omega) hls
  have c9:=zgN hH l l (by omega) hls
  rw[decide_eq_true rfl]at c9;have hXl:=mvR_len p s l m;have hX1:=mvR_secs p s m hls30;have hA1:=mvR_acts p s l m;by_cases h1:(mvR p s l m).1=0
  ·have cm:=fun (w0:World) (M:Nat->Prop) (hM:∀ b,M b->b<w0.heap.size)=>xr0_rows (moveA hH hI hIn p hp' s hs' l (by omega) hls m hk h1 hM) (by omega)
   generalize hR:mvR p s l m=R at *;obtain ⟨e,X,A⟩:=R;dsimp only at h1 hXl hX1 hA1 cm;subst h1;have hXs:∀ t∈X,t.secs.length<=1000:=fun t ht=>Nat.le_trans (hX1 t ht) (by omega)
   have c7:=zgN hH X X (by omega) hXs
   have c8:=zjS hH A A (Nat.le_trans hA1 (by omega))
   rw[decide_eq_true rfl]at c7 c8;unfold zjP zbJ at c4;dsimp only at c4;clear c3 hR hX1 hA1;generalize ckC p s l=e at *;unfold wld MoveD.c at *;refine wf hH cd377 fun w0 M Q hM hE hQ hR=>?_;refine wq ?_
   (repeat' first|refine zaa kQ fun K hK=>?_|exact wt|refine wA ?_|(refine wB ?_ ?_<;>intro h<;>first|exact wN h|subst (h:(_:Bool)=_)|skip)|(refine wQ ?_;clear hQ hR hE hM)|refine wC c1 ?_|refine wC c2 ?_|fail)
   refine xf_call (c:=5) hM cm wF fun CL τ hx=>?_
   have hg:=hx.g;have w:=xgW hg;have fl:CL.flatten.length=CL.length*8:=zdp hx.cl;have wb:∀ N,2005<=N->(zab CL.flatten<=N)=True:=fun N h=>eq_true (Nat.le_trans hx.bd h)
   have hX:=zA @w @wb
   (refine wD ?_;try exact wt)
   clear hX;(have hX:=zA @w @wb;(repeat' first|refine zaa kQ fun K hK=>?_|exact wt|refine wA ?_|(refine wB ?_ ?_<;>intro h<;>first|exact wN h|subst (h:(_:Bool)=_)|skip)|(refine wQ ?_;clear hQ hR hE hM)|refine wC c4 ?_|refine wC c5 ?_|refine wC c6 ?_|(refine wJ 3000 ((same_ac hM c7 hx rfl (fun m o e=>by have:=hx.mid.key e;(repeat rw[zal (by omega)]);exact zbK e _))) ?_;try refine wD ?_)|refine wC c8 ?_|fail);all_goals clear hX)
   refine zbu (ι:=Nat×AS) (fun z=>[(6,.ptr 2 1 0),(9,.ptr 4 1 0),(10,.ptr 2006 1 0),(16,.b true),(17,.n z.1)]) (fun z=>xS l X CL z.2) (fun z=>z.1<=X.length/\XG X CL z.2) (fun z=>X.length-z.1) (0,τ) ⟨Nat.zero_le _,hg⟩ ?_ ?_ ?_
   ·refine wD ?_
    first|exact wt|omega
   ·exact zmp hg rfl rfl rfl (fun k o e=>by have:=hg.mid.key e;(repeat rw[zal (by omega)]);exact zbK e _) (by (repeat rw[zal (by omega)]);rw[hg.mid.get _ (by omega)];rfl) (by (repeat rw[zal (by omega)]);rw[hg.mid.get _ (by omega)];rfl)
   clear hg w wb;rintro ⟨i,τ⟩ ⟨hi,hg⟩;dsimp only at hi hg;have w:=xgW hg;rcases Nat.lt_or_ge i X.length with hlt|hge
   ·obtain ⟨m,R,e1,e2,e3⟩:=hg.row i hlt
    have fg:=zsd hx.cl e1;(try dsimp only)
    rw[xS_eq l X CL τ];(have hX:=zA @w (zA @fl @fg);(repeat' first|refine zaa kQ fun K hK=>?_|exact wt|refine wA ?_|(refine wB ?_ ?_<;>intro h<;>first|exact wN h|subst (h:(_:Bool)=_)|skip)|(refine wQ ?_;clear hQ hR hE hM)|fail);all_goals clear hX)
    refine zbu (ι:=Nat×AS) (fun z=>[(6,.ptr 2 1 0),(9,.ptr 4 1 0),(10,.ptr 2006 1 0),(16,.b true),(17,.n i),(18,.n z.1)]) (fun z=>xS l X CL z.2) (fun z=>z.1<=(nth X i).secs.length/\XG X CL z.2) (fun z=>(nth X i).secs.length-z.1) (0,τ) ⟨Nat.zero_le _,hg⟩ ?_ ?_ ?_
    ·refine wD ?_
     first|exact wt|omega
    ·exact zmp hg rfl rfl rfl (fun k o e=>by have:=hg.mid.key e;(repeat rw[zal (by omega)]);exact zbK e _) (by (repeat rw[zal (by omega)]);rw[hg.mid.get _ (by omega)];rfl) (by (repeat rw[zal (by omega)]);rw[hg.mid.get _ (by omega)];rfl)
    clear hg w e1 e2 e3 fg;rintro ⟨k,τ⟩ ⟨hk,hg⟩;dsimp only at hk hg;have w:=xgW hg;obtain ⟨m,R,e1,e2,e3⟩:=hg.row i hlt;have fg:=zsd hx.cl e1;(try dsimp only)
    rw[xS_eq l X CL τ];have fR:(R.map zaJ).flatten.length=R.length:=by rw[zbo (c:=zaJ),Nat.mul_one]
    have mk:=hg.mid.key e2;have wm:=xgM hg e2;have hb:=hXs _ (zac hlt);rcases Nat.lt_or_ge k (nth X i).secs.length with hlt2|hge2
    ·have x0:=zcq (show k<R.length by omega)
     have hg2:=hg.put e2 (show k<R.length by omega) (IntKind.i64.wrap (nth R k+1))
     (have hX:=zA @w (zA @wm (zA @fl (zA @fg (zA @x0 @fR))));(repeat' first|refine zaa kQ fun K hK=>?_|exact wt|refine wA ?_|(refine wB ?_ ?_<;>intro h<;>first|exact wN h|subst (h:(_:Bool)=_)|skip)|(refine wQ ?_;clear hQ hR hE hM)|fail);all_goals clear hX)
     exact ⟨(k+1,_),by (try dsimp only);omega,⟨by (try dsimp only);omega,hg2⟩,by (try dsimp only);omega,zpS hg2⟩
    ·(have hX:=zA @w (zA @wm (zA @fl (zA @fg @fR)));(repeat' first|refine zaa kQ fun K hK=>?_|exact wt|refine wA ?_|(refine wB ?_ ?_<;>intro h<;>first|exact wN h|subst (h:(_:Bool)=_)|skip)|(refine wQ ?_;clear hQ hR hE hM)|fail);all_goals clear hX)
     exact ⟨(i+1,_),by (try dsimp only);omega,⟨by (try dsimp only);omega,hg⟩,by (try dsimp only);omega,zpS hg⟩
   ·(try dsimp only)
    rw[xS_eq l X CL τ];(have hX:=@w;(repeat' first|refine zaa kQ fun K hK=>?_|exact wt|refine wA ?_|(refine wB ?_ ?_<;>intro h<;>first|exact wN h|subst (h:(_:Bool)=_)|skip)|(refine wQ ?_;clear hQ hR hE hM)|refine wC c9 ?_|fail);all_goals clear hX)
  ·have hno:=mvR_no p s l m h1
   generalize hR:mvR p s l m=R at *;obtain ⟨e,X,A⟩:=R;dsimp only at h1 hno;obtain ⟨rfl,rfl⟩:=Prod.mk.inj hno;have c7:=zgN hH [] [] (by decide) (fun t ht=>nomatch ht)
   have c8:=zjS hH [] [] (by decide)
   rw[decide_eq_true rfl]at c7 c8;unfold zjP zbJ at c3 c4;dsimp only at c3 c4;clear hR hXl hX1 hA1 hno;generalize ckC p s l=e at *;unfold wld MoveD.c at *;dsimp only[List.map]at c3 c4 c7 c8;refine wf hH cd377 fun w0 M Q hM hE hQ hR=>?_;refine wq ?_
   (repeat' first|refine zaa kQ fun K hK=>?_|exact wt|refine wA ?_|(refine wB ?_ ?_<;>intro h<;>first|exact wN h|subst (h:(_:Bool)=_)|skip)|(refine wQ ?_;clear hQ hR hE hM)|refine wC c1 ?_|refine wC c2 ?_|refine wC c3 ?_|refine wC c4 ?_|refine wC c5 ?_|refine wC c6 ?_|refine wC c7 ?_|refine wC c8 ?_|fail)
   refine zaj (ι:=Nat) [6,8,9,10,16,17] (fun z=>[(17,.n z)]) (fun _=>[]) (fun z=>z) (0) (fun _=>True) (0) ?_;rintro k ⟨hk,-⟩;(try dsimp only at hk |-);rcases Nat.lt_or_ge k 0 with hlt|hge
   ·omega
   ·(repeat' first|refine zaa kQ fun K hK=>?_|exact wt|refine wA ?_|(refine wB ?_ ?_<;>intro h<;>first|exact wN h|subst (h:(_:Bool)=_)|skip)|(refine wQ ?_;clear hQ hR hE hM)|refine wC c9 ?_|fail)
end Go.Lev
