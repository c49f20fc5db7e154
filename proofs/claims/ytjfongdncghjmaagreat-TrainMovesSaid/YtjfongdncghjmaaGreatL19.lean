/-
  Contracts of functions. Conditions: those that each theorem names.
-/
import Derived.Test.YtjfongdncghjmaaGreatL14
import Derived.Test.YtjfongdncghjmaaGreatL15
set_option linter.unusedSimpArgs false
set_option linter.unusedVariables false
set_option linter.unusedSectionVars false
namespace Go.Lev
open Go.Eng
set_option maxRecDepth 10000
set_option maxHeartbeats 8000000
variable {P:Program} {inv:Nat->Option Nat} {w0:World} {M:Nat->Prop}
theorem zbj (hH:HasAll P inv) (hI:HasIds P inv) (p:Pln) (hp:Sm p) (s:State) (hs:SmS s) (l:List TrainD) (hl:l.length<=1000) (hls:∀ t∈l,t.secs.length<=1000):PC P inv 225 [.agg p.c,.agg s.c,.agg (wld l)] (·=.n (ckC p s l)):=by
 have c0:=zoU hH hI p hp s hs;unfold ckC wld;by_cases hst:zav p s=0
 ·rw[hst]at c0
  rw[if_pos hst];have ct:=fun t=>zoP hH hI p hp s hs hst t
  unfold stn at ct;obtain ⟨X,hF⟩:∃ X,ckF p s l=X:=⟨_,rfl⟩;rw[hF];unfold ckF ckT ckM at hF;clear hst;refine wf hH cd225 fun w0 M Q hM hE hQ hR=>?_;refine wq ?_
  skip
  (repeat' first|refine zaa kw fun K hK=>?_|exact wt|refine wA ?_|(refine wE ?_ ?_<;>intro h0 h<;>first|exact wN h|((try replace hF:=wX hF);clear h0;first|exact hF.elim|((try subst (h:(_:Bool)=_));try replace hF:=wX hF)))|(refine wQ ?_;clear hQ hR hE hM)|refine wC c0 ?_|fail)
  all_goals first|(exfalso;contradiction)|skip
  refine zaI hF fun Bd Ed hBd hEd hF=>?_;refine zaj (ι:=Nat×(List (Int×Int))) [5,6,8,9,25,26,27] (fun z=>[(27,.n z.1)]) (fun z=>[(3,.imap z.2)]) (fun z=>z.1) (l.length) (fun z=>(zaZ Bd Ed (l.length-z.1) z.1 z.2=X)) (0,([]:List (Int×Int))) ?_;rintro ⟨i,m⟩ ⟨hk,hF⟩;(try dsimp only at hk hF |-);rcases Nat.lt_or_ge i l.length with hlt|hge
  ·rw[zas hBd hlt]at hF;(try dsimp only at hF)
   have hi9:i<l.length:=by assumption
   have d1:=ct (nth l i);have hk:=hls _ (zac hi9);have x2:((i:Int)-1).toNat=i-1:=by omega
   (have hX:=@x2;(repeat' first|refine zaa kw fun K hK=>?_|exact wt|refine wA ?_|(refine wE ?_ ?_<;>intro h0 h<;>first|exact wN h|((try replace hF:=wX hF);clear h0;first|exact hF.elim|((try subst (h:(_:Bool)=_));try replace hF:=wX hF)))|(refine wQ ?_;clear hQ hR hE hM)|refine wC d1 ?_|fail);all_goals clear hX)
   all_goals first|(exfalso;contradiction)|exact hF|exact congrArg AV.n hF|skip
   all_goals
    refine zaI hF fun Bd Ed hBd hEd hF=>?_;refine zaj (ι:=Nat×(List (Int×Int))) [5,6,8,9,25,26,27,63,64,65] (fun z=>[(65,.n z.1)]) (fun z=>[(3,.imap z.2)]) (fun z=>z.1) ((nth l i).secs.length) (fun z=>(zaZ Bd Ed ((nth l i).secs.length-z.1) z.1 z.2=X)) (0,m) ?_;rintro ⟨k,m2⟩ ⟨hk,hF⟩;(try dsimp only at hk hF |-);rcases Nat.lt_or_ge k (nth l i).secs.length with hlt|hge
    ·rw[zas hBd hlt]at hF;(try dsimp only at hF)
     have hk9:k<(nth l i).secs.length:=by assumption
     have x0:=zcq hk9;(have hX:=@x0;(repeat' first|refine zaa kw fun K hK=>?_|exact wt|refine wA ?_|(refine wE ?_ ?_<;>intro h0 h<;>first|exact wN h|((try replace hF:=wX hF);clear h0;first|exact hF.elim|((try subst (h:(_:Bool)=_));try replace hF:=wX hF)))|(refine wQ ?_;clear hQ hR hE hM)|fail);all_goals clear hX)
     all_goals first|(exfalso;contradiction)|exact hF|exact congrArg AV.n hF|exact nX (k+1,_)
    ·rw[zaH hge,hEd]at hF;(try dsimp only at hF)
     (repeat' first|refine zaa kw fun K hK=>?_|exact wt|refine wA ?_|(refine wE ?_ ?_<;>intro h0 h<;>first|exact wN h|((try replace hF:=wX hF);clear h0;first|exact hF.elim|((try subst (h:(_:Bool)=_));try replace hF:=wX hF)))|(refine wQ ?_;clear hQ hR hE hM)|fail)
     all_goals first|(exfalso;contradiction)|exact hF|exact congrArg AV.n hF|exact nX (i+1,_)
  ·rw[zaH hge,hEd]at hF;(try dsimp only at hF)
   (repeat' first|refine zaa kw fun K hK=>?_|exact wt|refine wA ?_|(refine wE ?_ ?_<;>intro h0 h<;>first|exact wN h|((try replace hF:=wX hF);clear h0;first|exact hF.elim|((try subst (h:(_:Bool)=_));try replace hF:=wX hF)))|(refine wQ ?_;clear hQ hR hE hM)|fail)
   all_goals first|(exfalso;contradiction)|exact hF|exact congrArg AV.n hF
 ·rw[if_neg hst]
  generalize zav p s=e at *;refine wf hH cd225 fun w0 M Q hM hE hQ hR=>?_;refine wq ?_
  (repeat' first|refine zaa kw fun K hK=>?_|exact wt|refine wA ?_|(refine wB ?_ ?_<;>intro h<;>first|exact wN h|subst (h:(_:Bool)=_)|skip)|(refine wQ ?_;clear hQ hR hE hM)|refine wC c0 ?_|fail)
  all_goals first|rfl|(exfalso;contradiction)
section
variable {l:List TrainD} {k:Nat}
theorem tg0 (h9:k<l.length):(l.map TrainD.c).flatten[k*8]?=some (.n (nth l k).id):=zc7 (c:=TrainD.c) (l:=l) (k:=k) (i:=0) h9 (by omega)
theorem tg1 (h9:k<l.length):(l.map TrainD.c).flatten[k*8+1]?=some (.sl 1 ((nth l k).secs.map zaJ)):=zc7 (c:=TrainD.c) (l:=l) (k:=k) (i:=1) h9 (by omega)
theorem tg3 (h9:k<l.length):(l.map TrainD.c).flatten[k*8+3]?=some (.n (nth l k).ed):=zc7 (c:=TrainD.c) (l:=l) (k:=k) (i:=3) h9 (by omega)
theorem tg4 (h9:k<l.length):(l.map TrainD.c).flatten[k*8+4]?=some (.n (nth l k).rt):=zc7 (c:=TrainD.c) (l:=l) (k:=k) (i:=4) h9 (by omega)
theorem tg5 (h9:k<l.length):(l.map TrainD.c).flatten[k*8+5]?=some (.n (nth l k).pl):=zc7 (c:=TrainD.c) (l:=l) (k:=k) (i:=5) h9 (by omega)
theorem tg6 (h9:k<l.length):(l.map TrainD.c).flatten[k*8+6]?=some (.n (nth l k).may):=zc7 (c:=TrainD.c) (l:=l) (k:=k) (i:=6) h9 (by omega)
theorem tg7 (h9:k<l.length):(l.map TrainD.c).flatten[k*8+7]?=some (.n (nth l k).nx):=zc7 (c:=TrainD.c) (l:=l) (k:=k) (i:=7) h9 (by omega)
end
theorem ofW_len {p:Pln} (ho:OkP p) (n:Int):(ofW p n).1.path.length<=6:=by
 unfold ofW;split
 ·split
  ·rename_i r e
   have h1:=(zeP ho (List.mem_of_find?_eq_some e)).2.1;unfold zao;split
   ·simp
   ·exact h1
  ·simp[WayR.z]
 ·simp[WayR.z]
theorem zlS (hH:HasAll P inv) (hI:HasIds P inv) (p:Pln) (hp:Sm p) (s:State) (hs:SmS s) (hst:zav p s=0) (l:List TrainD) (k:Nat) (hk7:k<l.length) (hk8:0<(nth l k).secs.length) (hk6:l.length<=1000) (hpl:0<=(nth l k).pl) :
  PC P inv 260 [.ip 10 [stn p s++[.sl 8 (l.map TrainD.c)]] 0 0,.ip (l.length*8) [(l.map TrainD.c).flatten] 0 (k*8)] (·=.tup [.n (goT p s (nth l k)).1,.n (goT p s (nth l k)).2.1,.b (goT p s (nth l k)).2.2]):=by
 have c1:=zk9 hH hI p hp (nth l k).rt;have c2:=zhT hH hI p hp s (nth (nth l k).secs 0) (nth l k).ed;have c3:=zmQ hH hI p hp s hs hst (zhQ p (nth (nth l k).secs 0) (nth l k).ed);have x0:=zcq hk8;have hwl:=ofW_len (zar hst) (nth l k).rt;have y1:=tg1 hk7;have y3:=tg3 hk7;have y4:=tg4 hk7;have y5:=tg5 hk7;have y6:=tg6 hk7;have y7:=tg7 hk7;unfold goT;unfold stn at c2 c3 |-
 generalize ofW p (nth l k).rt=W at *;generalize hsg:zhQ p (nth (nth l k).secs 0) (nth l k).ed=sg at *;generalize prId p s sg=r at *;by_cases h1:W.2=0/\(nth l k).pl<(W.1.path.length:Int)-1
 ·rw[if_pos h1]
  obtain ⟨w1,w2⟩:=h1;refine wf hH cd260 fun w0 M Q hM hE hQ hR=>?_;refine wq ?_
  (have hX:=zA @w1 (zA @w2 (zA @y1 (zA @y3 (zA @y4 (zA @y5 (zA @y6 @y7))))));(repeat' first|refine zaa yZ fun K hK=>?_|exact wt|refine wA ?_|(refine wB ?_ ?_<;>intro h<;>first|exact wN h|subst (h:(_:Bool)=_)|skip)|(refine wQ ?_;clear hQ hR hE hM)|refine wU c1 ?_|refine wC c1 ?_|fail);all_goals clear hX)
  all_goals first|rfl|(exfalso;contradiction)|(exfalso;omega)
 ·rw[if_neg h1]
  by_cases h2:sg=0
  ·rw[if_pos h2]
   refine wf hH cd260 fun w0 M Q hM hE hQ hR=>?_;refine wq ?_
   (have hX:=zA @x0 (zA @h2 (zA @y1 (zA @y3 (zA @y4 (zA @y5 (zA @y6 @y7))))));(repeat' first|refine zaa yZ fun K hK=>?_|exact wt|refine wA ?_|(refine wB ?_ ?_<;>intro h<;>first|exact wN h|subst (h:(_:Bool)=_)|skip)|(refine wQ ?_;clear hQ hR hE hM)|refine wU c1 ?_|refine wC c1 ?_|refine wC c2 ?_|refine wC c3 ?_|fail);all_goals clear hX)
   all_goals first|rfl|(exfalso;contradiction)|(exfalso;omega)
  ·rw[if_neg h2]
   by_cases h3:0<r
   ·rw[if_pos h3]
    refine wf hH cd260 fun w0 M Q hM hE hQ hR=>?_;refine wq ?_
    (have hX:=zA @x0 (zA @y1 (zA @y3 (zA @y4 (zA @y5 (zA @y6 @y7)))));(repeat' first|refine zaa yZ fun K hK=>?_|exact wt|refine wA ?_|(refine wB ?_ ?_<;>intro h<;>first|exact wN h|subst (h:(_:Bool)=_)|skip)|(refine wQ ?_;clear hQ hR hE hM)|refine wU c1 ?_|refine wC c1 ?_|refine wC c2 ?_|refine wC c3 ?_|fail);all_goals clear hX)
    all_goals first|rfl|(exfalso;contradiction)|(exfalso;omega)
   ·rw[if_neg h3]
    refine wf hH cd260 fun w0 M Q hM hE hQ hR=>?_;refine wq ?_
    (have hX:=zA @x0 (zA @y1 (zA @y3 (zA @y4 (zA @y5 (zA @y6 @y7)))));(repeat' first|refine zaa yZ fun K hK=>?_|exact wt|refine wA ?_|(refine wB ?_ ?_<;>intro h<;>first|exact wN h|subst (h:(_:Bool)=_)|skip)|(refine wQ ?_;clear hQ hR hE hM)|refine wU c1 ?_|refine wC c1 ?_|refine wC c2 ?_|refine wC c3 ?_|fail);all_goals clear hX)
    all_goals first|rfl|(exfalso;contradiction)|(exfalso;omega)
theorem zjD {α:Type} {c:α->List AV} {sz:Nat} [Cells c sz] [Inhabited α] {l:List α} {k:Nat} (hk:k<l.length):(l.map c).flatten=((l.take k).map c).flatten++(c (nth l k)++((l.drop (k+1)).map c).flatten):=by
 have e:l=l.take k++nth l k::l.drop (k+1):=by rw[zay hk,<-List.drop_eq_getElem_cons hk,List.take_append_drop]
 conv=>lhs;rw[e]
 simp
theorem flat_ovl {α:Type} {c:α->List AV} {sz:Nat} [hc:Cells c sz] [Inhabited α] {l:List α} {k:Nat} (hk:k<l.length) (a:α):ovl (l.map c).flatten (k*sz) (c a)=((l.set k a).map c).flatten:=by
 have hlen:∀ r:List α,((r.map c).flatten).length=r.length*sz:=fun r=>by
  induction r with
  |nil=>simp
  |cons x r ih=>rw[List.map_cons,List.flatten_cons,List.length_append,ih,hc.len x,List.length_cons,Nat.add_mul];omega
 have h1:((l.take k).map c).flatten.length=k*sz:=by rw[hlen,List.length_take,Nat.min_eq_left (by omega)]
 have h2:=hlen l;have h3:(k+1)*sz<=l.length*sz:=Nat.mul_le_mul_right _ hk;have h4:(k+1)*sz=k*sz+sz:=by rw[Nat.add_mul,Nat.one_mul]
 rw[zir _ _ _ (by rw[hc.len a,h2];omega),zjD (c:=c) (sz:=sz) hk,zjD (c:=c) (sz:=sz) (l:=l.set k a) (k:=k) (by simpa using hk)]
 rw[List.take_left' h1,List.take_set_of_le (Nat.le_refl k),za9 _ _ _ _ hk,if_pos rfl,List.drop_set_of_lt (by omega),List.append_assoc]
 congr 2
 rw[<-List.append_assoc];exact List.drop_left' (by rw[List.length_append,h1,hc.len,hc.len])
theorem zpY {l:List TrainD} {k:Nat} (h9:k<l.length) (t:TrainD) :
  (((((((((l.map TrainD.c).flatten.set (k*8) (.n t.id)).set (k*8+1) (.sl 1 (t.secs.map zaJ))).set (k*8+1+1) (.n t.fr)).set (k*8+1+1+1) (.n t.ed)).set (k*8+1+1+1+1) (.n t.rt)).set (k*8+1+1+1+1+1) (.n t.pl)).set (k*8+1+1+1+1+1+1) (.n t.may)).set (k*8+1+1+1+1+1+1+1) (.n t.nx))=((l.set k t).map TrainD.c).flatten :=
 flat_ovl (c:=TrainD.c) (sz:=8) h9 t
theorem zfl {l:List TrainD} {n:Nat} (h:l.length=n):zbd 8 n (l.map TrainD.c).flatten=l.map TrainD.c:=by
 subst h;exact zbi (c:=TrainD.c) l
theorem nf1:Value.nilFunc.oneCell'=true:=rfl
attribute [go_sem] nf1
def zbJ (e:Int) (L:List TrainD) (A:List (Int×Int)):AV:=.tup [.agg (wld L),.sl 4 (A.map zla),.n e]
theorem zb0 (hH:HasAll P inv) (l:List TrainD) (hl:l.length<=1000) (n:Int):PC P inv 271 [.sl 8 (l.map TrainD.c),.fn 272 [.ip 1 [[.n n]] 0 0]] (·=.n (zcB l n)) :=
 zm7 hH (p:=fun t=>decide (t.id=n)) l (fun x _=>is272_pc hH n x) (by omega)
theorem zpX (hH:HasAll P inv) (hI:HasIds P inv) (p:Pln) (hp:Sm p) (s:State) (hs:SmS s) (l:List TrainD) (hl:l.length<=1000) (hls:∀ t∈l,t.secs.length<=1000) (hc:ckC p s l=0) (tr se ed:Int) (h5:zcB l tr<0\/1<(nth l (zcB l tr).toNat).secs.length) :
  PC P inv 210 [.agg p.c,.agg s.c,.agg (wld l),.agg [.i .u8 4,.n tr,.n se,.n ed]] (·=if zcB l tr<0 then zbJ 6 [] [] else zbJ 2 [] []):=by
 have c0:=zbj hH hI p hp s hs l hl hls;have c1:=zdf hH l (by omega) hls
 have c2:=zb0 hH l hl tr;rw[hc]at c0;unfold wld at *;rcases zb4 l tr with ⟨e,_⟩|⟨k,hk7,e,hid⟩<;>rw[e]at c2 h5 |-
 ·rw[if_pos (by omega)]
  unfold zbJ wld;refine wf hH cd210 fun w0 M Q hM hE hQ hR=>?_;refine wq ?_
  skip
  (repeat' first|refine zaa xC fun K hK=>?_|exact wt|refine wA ?_|(refine wB ?_ ?_<;>intro h<;>first|exact wN h|subst (h:(_:Bool)=_)|skip)|(refine wQ ?_;clear hQ hR)|refine wC c0 ?_|refine wO c1 ?_|(refine wI hH cd226 100 fun Q hQ hR=>?_;refine wq ?_;try (refine wD ?_;try exact wt))|(refine wI hH cd233 200 fun Q hQ hR=>?_;refine wq ?_;try (refine wD ?_;try exact wt))|(refine wI hH cd252 300 fun Q hQ hR=>?_;refine wq ?_;try (refine wD ?_;try exact wt))|refine wS c2 ?_|fail)
  all_goals first|rfl|(exfalso;contradiction)
 ·rw[if_neg (by omega)]
  rw[Int.toNat_natCast]at h5;have h1:=h5.resolve_left (by omega)
  have y1:=tg1 hk7;unfold zbJ wld;refine wf hH cd210 fun w0 M Q hM hE hQ hR=>?_;refine wq ?_
  skip
  (have hX:=@y1;(repeat' first|refine zaa xC fun K hK=>?_|exact wt|refine wA ?_|(refine wB ?_ ?_<;>intro h<;>first|exact wN h|subst (h:(_:Bool)=_)|skip)|(refine wQ ?_;clear hQ hR)|refine wC c0 ?_|refine wO c1 ?_|(refine wI hH cd226 100 fun Q hQ hR=>?_;refine wq ?_;try (refine wD ?_;try exact wt))|(refine wI hH cd233 200 fun Q hQ hR=>?_;refine wq ?_;try (refine wD ?_;try exact wt))|(refine wI hH cd252 300 fun Q hQ hR=>?_;refine wq ?_;try (refine wD ?_;try exact wt))|refine wS c2 ?_|fail);all_goals clear hX)
  all_goals first|rfl|(exfalso;contradiction)|(exfalso;omega)
theorem rowJ_put {b n:Nat} {l:List TrainD} {k:Nat} (hk:k<l.length) (hn:n=l.length) (t:TrainD):(zbC b n l).set k (tX t (sX (b+k) t))=zbC b n (l.set k t):=by
 refine List.ext_getElem (by rw[List.length_set,zaF,zaF,List.length_set]) fun i h1 h2=>?_
 have hi:i<l.length:=by rw[zaF,List.length_set]at h2;exact h2
 rw[List.getElem_set,zbn (l:=l.set k t) (by rw[List.length_set];exact hi),za9 _ _ _ _ hk]
 by_cases h:k=i
 ·subst h;rw[if_pos rfl,if_pos rfl,if_pos (by omega)]
 ·rw[if_neg h,if_neg (fun e=>h e.symm),zbn hi]
theorem zlq {n b:Nat} {X:List TrainD} (hb:b+X.length<=2000):∀ c∈zbC b n X,zab c<=2000:=fun c hc=>by
 obtain ⟨i,hi,rfl⟩:=List.getElem_of_mem hc;have hi2:i<X.length:=by rw[zaF]at hi;exact hi
 rw[zbn hi2,zmw];split
 ·unfold sX;simp only[AV.bound];omega
 ·simp[AV.bound]
theorem xr0_of {X:List TrainD} {A:List (Int×Int)} {σ:AS} {n:Nat} {r:AV} (hn:X.length=n) (hr:r=.tup [.agg [.sm 104 (n*8) 0 n 8],zpO A,.n 0]) (h0:0<n) (h8:n<=8) (hg:zah σ 104=some (.cells (zbC 112 n X).flatten true)) (hs:∀ i,i<n->zah σ (112+i)=some (.cells ((nth X i).secs.map zaJ).flatten true)):XR0 X A r σ:=by
 subst hn;refine ⟨zbC 112 X.length X,by rw[zaF];exact hr,hg,by rw[zaF];omega,zbL _,zlq (by omega),fun i hi=>⟨112+i,(nth X i).secs, ?_,hs i hi,by omega,(List.take_length ..).symm,Nat.le_refl _⟩⟩
 rw[List.getElem?_eq_getElem (by rw[zaF];exact hi),zbn hi,if_pos hi]
 rfl
theorem rowM (l:List TrainD) (h8:l.length<=8):Mid (zbv 112 l l.length) 112 1102:=zhO (Nat.le_refl _) (by omega)
theorem rowW (l:List TrainD) (h8:l.length<=8):(∀ r q,(q<112\/1102<=q)->zah (tl (zbv 112 l l.length) r) q=zah r q)/\(∀ r q,1102<=q->∀ x,sput (tl (zbv 112 l l.length) r) q x=tl (zbv 112 l l.length) (sput r q x))/\(∀ q o r,1102<=q+1->zax (tl (zbv 112 l l.length) ((q,o)::r))=zax ((q,o)::r))
  /\ (∀ r x,zg9 (tl (zbv 112 l l.length) r) x=tl (zbv 112 l l.length) (zg9 r x))/\(∀ τ r,shS 102 (tl τ r)=tl (shS 102 τ) (shS 102 r))/\shS 102 (zbv 10 l l.length)=zbv 112 l l.length/\shL 102 (zbC 10 l.length l).flatten=(zbC 112 l.length l).flatten/\(∀ N,120<=N->(zab (zbC 112 l.length l).flatten<=N)=True)/\(zbC 112 l.length l).flatten.length=l.length*8 :=
 have hm:=rowM l h8
 ⟨fun r q hq=>hm.get r hq,fun r q hq x=>hm.put r hq x,fun q o r hq=>hm.bound (j:=q) o r hq,zqo _,shS_tl 102,znF 102 10 l _,row_sh 102 10 _ l,fun N h=>eq_true (zqu (by omega)),by rw[zdp (zbL _),zaF]⟩
theorem zqr {l:List TrainD} {k:Nat} (hk7:k<l.length) (h8:l.length<=8):(∀ r,zah (tl (zbv 112 l l.length) r) (112+k)=some (.cells ((nth l k).secs.map zaJ).flatten true))/\(∀ q,q<112->(112+k=q)=False)/\(∀ N,120<=N->(112+k+1<=N)=True)/\(∀ N,120<=N->(112+k<=N)=True)/\(∀ N,N<112->(112+k+1<=N)=False)/\(∀ N,N<112->(112+k<=N)=False)/\(∀ N,121<=N->(N<=112+k+1)=False)/\(∀ N,121<=N->(N<=112+k)=False)/\(∀ N,N<=112->(N<=112+k+1)=True)/\(∀ N,N<=112->(N<=112+k)=True)
  /\ ((nth l k).secs.map zaJ).flatten.length=(nth l k).secs.length/\(zbC 112 l.length l).flatten[k*8]?=some (.n (nth l k).id)/\(zbC 112 l.length l).flatten[k*8+1]?=some (.sm (112+k) (nth l k).secs.length 0 (nth l k).secs.length 1)/\(zbC 112 l.length l).flatten[k*8+2]?=some (.n (nth l k).fr)/\(zbC 112 l.length l).flatten[k*8+3]?=some (.n (nth l k).ed):=by
 have hkr:k<(zbC 112 l.length l).length:=by rw[zaF];exact hk7
 have hrg:=zbn (b:=112) (j:=l.length) hk7;rw[if_pos hk7]at hrg;have yg:=fun i (hi:i<8)=>(cl_get (zbL (b:=112) (l:=l) l.length) hkr hi).trans (congrArg (fun c:List AV=>c[i]?) hrg)
 exact ⟨fun r=>zbK (zaX hk7) r,fun q hq=>eq_false (by omega),fun N h=>eq_true (by omega),fun N h=>eq_true (by omega),fun N h=>eq_false (by omega),fun N h=>eq_false (by omega),fun N h=>eq_false (by omega),fun N h=>eq_false (by omega),fun N h=>eq_true (by omega),fun N h=>eq_true (by omega),by rw[zbo (c:=zaJ),Nat.mul_one],yg 0 (by omega),yg 1 (by omega),yg 2 (by omega),yg 3 (by omega)⟩
theorem turnA (hH:HasAll P inv) (hI:HasIds P inv) (p:Pln) (hp:Sm p) (s:State) (hs:SmS s) (l:List TrainD) (hl:l.length<=1000) (hls:∀ t∈l,t.secs.length<=1000) (hc:ckC p s l=0) (tr se ed:Int) {k:Nat} (hk7:k<l.length) (ha:zcB l tr=(k:Int)) (h1:¬1<(nth l k).secs.length) (hM:∀ b,M b->b<w0.heap.size) :
  AC P inv w0 M 0 210 [.agg p.c,.agg s.c,.agg (wld l),.agg [.i .u8 4,.n tr,.n se,.n ed]] [] (XR0 (l.set k (zjV (nth l k))) []):=by
 have c0:=zbj hH hI p hp s hs l hl hls;have hT:=((zbH p s l).1 hc).2;have h8:=hT.len;have h0:0<l.length:=by omega
 have c1:=zfX hH l h0 (by omega) (fun t ht=>⟨(zcE.1 (hT.may t ht)).one,hls t ht⟩)
 have c2:=zb0 hH l hl tr;rw[hc]at c0;rw[ha]at c2;have hk9:=hls _ (zac hk7);clear hT hc;have hm:=rowM l h8;have w:=rowW l h8;have wk:=zqr hk7 h8;have hkr:k<(zbC 112 l.length l).length:=by rw[zaF];exact hk7
 have yp:=zoA (zbL (b:=112) (l:=l) l.length) hkr (c:=tX (zjV (nth l k)) (sX (112+k) (zjV (nth l k)))) rfl;rw[rowJ_put hk7 rfl]at yp;unfold tX sX zjV at yp;unfold ovl ovl ovl ovl ovl ovl ovl ovl ovl at yp;dsimp only at yp;unfold wld at *;refine zad (F:=cd210) (hH.has _ _ rfl) (Nat.le_of_ble_eq_true rfl) fun Q hQ hR=>?_;have hE:=hH.callable;dsimp only[cd210]at hQ |-;refine wq ?_
 skip
 (have hX:=zA @w (zA @wk @yp);(repeat' first|refine zaa xC fun K hK=>?_|exact wt|refine wA ?_|(refine wB ?_ ?_<;>intro h<;>first|exact wN h|subst (h:(_:Bool)=_)|skip)|(refine wQ ?_;clear hQ hR)|refine wC c0 ?_|refine wO c1 ?_|(refine wI hH cd226 100 fun Q hQ hR=>?_;refine wq ?_;try (refine wD ?_;try exact wt))|(refine wI hH cd233 1200 fun Q hQ hR=>?_;refine wq ?_;try (refine wD ?_;try exact wt))|(refine wI hH cd252 1300 fun Q hQ hR=>?_;refine wq ?_;try (refine wD ?_;try exact wt))|(refine wJ 1400 ((ziK hM c2 h0 (by intro i hi;(repeat rw[zal (by omega)]);exact zbK (zaX hi) _) rfl (by (repeat rw[zal (by omega)]);(rw[hm.get _ (by omega)]);rfl))) ?_;try (refine wD ?_;try exact wt))|fail);all_goals clear hX)
 refine xr0_of (n:=l.length) (List.length_set ..) rfl h0 h8 ?_ fun i hi=>?_
 ·(repeat rw[zal (by omega)])
  rfl
 ·have he:(nth (l.set k (zjV (nth l k))) i).secs=(nth l i).secs:=by
   rw[za9 _ _ _ _ hk7];split
   ·rename_i e;subst e;rfl
   ·rfl
  rw[he]
  (repeat rw[zal (by omega)])
  exact zbK (zaX hi) _
end Go.Lev
namespace Go.Eng
open Go.RowKit
variable {P:Program} {inv:Nat->Option Nat}
theorem AC.pcR {j:Nat} {args:List AV} {R:AV->AS->Prop} (h:∀ (w0:World) (M:Nat->Prop),(∀ b,M b->b<w0.heap.size)->AC P inv w0 M 0 j args [] R):PC P inv j args fun r=>∃ r0 σ',R r0 σ'/\r=zfZ 4 σ' r0:=by
 intro g hg M w vs hM ha;have hm:=Mem.none (inv:=inv) (M:=M) w;have hle:(⟨inv,w,M,fun _=>none⟩:Ctx).Le (ctx inv M [] (fun _=>0) w):=⟨rfl,Nat.le_refl _,fun _ _ _=>rfl,fun b _ h=>by
  rcases h with h|⟨l,o,e,_⟩
  ·exact h
  ·simp[zah]at e⟩
 have hS:(ctx inv M [] (fun _=>0) w).S=fun _=>none:=by funext l;simp[ctx,zai,zah]
 refine (h w M hM g hg (fun _=>0) w vs hm (zco (N:=0) hle _ _ (.inr hS) ha)).mono ?_
 rintro e w' ⟨v,r',σ',β',rfl,hR,hm',_,hr⟩;have hf:=zec hm' hM (A':=M) (fun _ h=>h) 4
 exact ⟨v,_,rfl,⟨r',σ',hR,rfl⟩,hm'.below,ze2 hf _,zeC hm' hM (fun _ h=>h) hf _ v hr⟩
theorem zeT {sz:Nat}:∀ {CL:List (List AV)} {n:Nat},(∀ c∈CL,c.length=sz)->n<=CL.length->zbd sz n CL.flatten=CL.take n
 |CL,0,_,_=>by simp[zbd]
 |[],n+1,_,h=>by simp at h
 |c::r,n+1,hc,h=>by
  have h1:=hc c (by simp)
  rw[zbd,List.flatten_cons,List.take_left' h1,List.drop_left' h1,zeT (fun x hx=>hc x (by simp[hx])) (by simpa using h),List.take_succ_cons]
end Go.Eng
namespace Go.Lev
open Go.Eng
set_option maxRecDepth 10000
variable {P:Program} {inv:Nat->Option Nat}
theorem xr0_snap {X:List TrainD} {A:List (Int×Int)} {r:AV} {σ:AS} (h:XR0 X A r σ):zfZ 4 σ r=zbJ 0 X A:=by
 obtain ⟨CL,rfl,hg,⟨hl0,hl,_⟩,hc8,_,hr⟩:=h;have h8:∀ c∈CL.map (zaT (za5 3 σ)),c.length=8:=fun c hc=>by
  obtain ⟨x,hx,rfl⟩:=List.mem_map.1 hc;rw[zcA,hc8 x hx]
 have h1:za5 4 σ 104=some (CL.map (zaT (za5 3 σ))).flatten:=by
  show (match zah σ 104 with|some (.cells cs _)=>some (zaT (za5 3 σ) cs)|_=>none)=_
  rw[hg,<-zkY]
 have h2:(CL.map (zaT (za5 3 σ))).flatten.length=CL.length*8:=by rw[zdp h8,List.length_map]
 have h3:zbd 8 X.length (CL.map (zaT (za5 3 σ))).flatten=X.map TrainD.c:=by
  rw[zeT h8 (by rw[List.length_map];exact hl)]
  refine List.ext_getElem (by rw[List.length_take,List.length_map,List.length_map];omega) fun i h1 h2=>?_
  have hi:i<X.length:=by rw[List.length_map]at h2;exact h2
  obtain ⟨m,R,e1,e2,_,e3,e4⟩:=hr i hi;rw[List.getElem_take,List.getElem_map,List.getElem_map,<-zay hi];rw[List.getElem?_eq_getElem (by omega)]at e1
  rw[Option.some.inj e1];have hF:za5 3 σ m=some (R.map zaJ).flatten:=by
   show (match zah σ m with|some (.cells cs _)=>some (zaT (za5 2 σ) cs)|_=>none)=_
   rw[e2];show some (zaT (za5 2 σ) _)=_
   rw[zd4 (c:=zaJ)]
  have hlen:(R.map zaJ).flatten.length=R.length:=by rw[zbo (c:=zaJ),Nat.mul_one]
  have hch:zbd 1 (nth X i).secs.length (R.map zaJ).flatten=(nth X i).secs.map zaJ:=by
   rw[zeT (sz:=1) (fun c hc=>by obtain ⟨x,_,rfl⟩:=List.mem_map.1 hc;rfl) (by rw[List.length_map];exact e4),<-List.map_take,<-e3]
  unfold tX TrainD.c;simp only[zaT,zaR,hF];rw[if_pos ⟨hlen,by omega⟩,List.drop_zero,hch]
 have h4:zaR (za5 4 σ) (zpO A)=.sl 4 (A.map zla):=by
  cases A with
  |nil=>simp only[zpO,zaR];rfl
  |cons a r=>simp only[zpO,zaR]
 unfold zfZ zbJ wld;simp only[zaR,zaT,h1,h4];rw[if_pos ⟨h2,by omega⟩,List.drop_zero,h3]
theorem xr0_pc {args:List AV} {X:List TrainD} {A:List (Int×Int)} (h:∀ (w0:World) (M:Nat->Prop),(∀ b,M b->b<w0.heap.size)->AC P inv w0 M 0 210 args [] (XR0 X A)):PC P inv 210 args (·=zbJ 0 X A) :=
 (AC.pcR h).mono fun _ ⟨_,_,h1,h2⟩=>h2.trans (xr0_snap h1)
set_option maxHeartbeats 4000000
variable {w0:World} {M:Nat->Prop}
theorem zod {l:List Int} {k:Nat} (h:k<l.length):(l.map zaJ).flatten[k]?=some (.n (nth l k)):=by
 have:=zc7 (c:=zaJ) (l:=l) (k:=k) (i:=0) h (by omega)
 rw[Nat.mul_one,Nat.add_zero]at this;rw[this];rfl
theorem ask_ix (hH:HasAll P inv) {p:Pln} (hp:Sm p) {s:State} (hst:zav p s=0) {i:Nat} (hi:i<p.routes.length) {a:AskR} (ha:a∈zeX p i):∃ q:Nat,q<p.points.length/\q<s.switches.length/\PC P inv 294 [.agg p.c,.n a.pnt] (·=.n q)/\(nth s.switches q).call=zdq s a.pnt/\(nth s.switches q).id=a.pnt:=by
 have ho:=zar hst;have hpa:=(zam hst).2.1;have hpl:=zaC hpa;obtain ⟨⟨x,hx,ex⟩,_⟩:=zdF ho (zac hi) ha;have c3:=zn1 hH p (by have:=hp.pts;omega) a.pnt
 rcases zcb Pnt.id a.pnt p.points with ⟨_,h4⟩|⟨q,hq,h4,h5⟩
 ·exact absurd ex (h4 x hx)
 ·rw[h4]at c3
  have hsw:=zj0 hpa (show q<s.switches.length by omega)
  exact ⟨q,hq,by omega,c3,by rw[<-h5,<-hsw];exact (zmd ho hpa (zac (by omega))).symm,by rw[hsw,h5]⟩
theorem znT {p:Pln} {s:State} (h:zav p s=0) {i:Nat} (hi:i<s.locks.length):zmG s (nth s.locks i).id=true↔(nth s.locks i).phase=1:=by
 unfold zmG;rw[List.any_eq_true];constructor
 ·rintro ⟨x,hx,e⟩
  simp only[Bool.and_eq_true,decide_eq_true_eq]at e;obtain ⟨j,hj,rfl⟩:=zbN hx;obtain rfl:=zrb h hi hj e.1;exact e.2.1.symm
 ·intro e
  have h2:=zn8 (zam h).2.1 hi;simp only[zev,zdK,e,Bool.and_eq_true]at h2;have h3:=h2.2;simp at h3;exact ⟨_,zac hi,by simp[e,h3.1,h3.2]⟩
structure Prvd (p:Pln) (s:State) (i:Nat):Prop where
 ph:(nth s.locks i).phase=1
 sec:∀ x∈znU p i,zd2 s x=0
 ask:∀ a∈zeX p i,∀ k,k<s.switches.length->(nth s.switches k).id=a.pnt->(nth s.switches k).lie=a.lie
theorem zm1 {p:Pln} {s:State} (h:zav p s=0) {a:AskR} (ha:zri p a.pnt=true):zpM s a=true↔∀ k,k<s.switches.length->(nth s.switches k).id=a.pnt->(nth s.switches k).lie=a.lie:=by
 have ho:=zar h;have hpa:=(zam h).2.1;have hpl:=zaC hpa;obtain ⟨m,hm,em⟩:=zoa ha;have hms:m<s.switches.length:=by omega
 have hnd:(s.switches.map Switch.id).Nodup:=by rw[zfB hpa];exact zeM ho
 have es:(nth s.switches m).id=a.pnt:=by rw[zj0 hpa hms,em]
 unfold zpM;rw[List.any_eq_true];constructor
 ·rintro ⟨x,hx,e⟩ k hk ek
  simp only[Bool.and_eq_true,decide_eq_true_eq]at e;obtain ⟨j,hj,rfl⟩:=zbN hx;obtain rfl:=zkz Switch.id hnd hj hk (e.1.trans ek.symm);exact e.2
 ·intro e
  refine ⟨_,zac hms, ?_⟩;simp only[Bool.and_eq_true,decide_eq_true_eq];exact ⟨es,e m hms es⟩
theorem rt_id {p:Pln} {s:State} (h:zan p s=true) {i:Nat} (hi:i<s.locks.length):(nth p.routes i).id=(nth s.locks i).id:=by
 have hl2:=zn8 h hi;simp only[zev,Bool.and_eq_true,decide_eq_true_eq]at hl2;exact hl2.1.symm
theorem prv_iff {p:Pln} {s:State} (h:zav p s=0) {i:Nat} (hi:i<p.routes.length):zdh p s (nth p.routes i)=true↔Prvd p s i:=by
 have ho:=zar h;have hpa:=(zam h).2.1;have hpl:=zaC hpa;have hr:nth p.routes i∈p.routes:=zac hi;unfold zdh zik;rw[rt_id hpa (by omega)]
 simp only[Bool.and_eq_true,Bool.not_eq_true',List.any_eq_false,Bool.not_eq_false];rw[znT h (by omega)]
 constructor
 ·rintro ⟨h1,h2,h3,h4⟩
  refine ⟨h1,fun x hx=>?_,fun a ha=>?_⟩
  ·have:frT s x=true:=by
    rcases List.mem_append.1 hx with h5|h5
    ·simpa using h2 x h5
    ·simpa using h3 x h5
   rw[zrU ho hpa,decide_eq_true_eq]at this;exact this
  ·have:zpM s a=true:=by simpa using h4 a ha
   exact (zm1 h (ziA ho hr ha)).1 this
 ·rintro ⟨h1,h2,h3⟩
  have hf:∀ x∈znU p i,frT s x=true:=fun x hx=>by rw[zrU ho hpa,decide_eq_true_eq];exact h2 x hx
  refine ⟨h1,fun x hx=>?_,fun x hx=>?_,fun a ha=>?_⟩
  ·simp[hf x (List.mem_append.2 (.inl hx))]
  ·simp[hf x (List.mem_append.2 (.inr hx))]
  ·simp[(zm1 h (ziA ho hr ha)).2 (h3 a ha)]
end Go.Lev
