/-
  A part of the engine that walks the functions' codes, and of the functions' contracts. Conditions: those that each theorem names.
-/
import Derived.Test.YtibpmipffibbpaaGreatL8
import Derived.IntWalk
set_option linter.unusedSimpArgs false
set_option linter.unusedVariables false
set_option linter.unusedSectionVars false
namespace Go.Lev
open Go.Eng
set_option maxRecDepth 10000
set_option maxHeartbeats 4000000
variable {P:Program} {inv:Nat→Option Nat}
theorem idx_trk (hH:HasAll P inv) {jc:Nat} {caps:List AV} {p:Track→Bool} (l:List Track) (hc:∀ x∈l,PC P inv jc ([.agg x.c]++caps) (·=.b (p x))) (hl:l.length≤1000000000):PC P inv 96 [.sl 2 (l.map Track.c),.fn jc caps] (·=.n (zaZ p 0 l)):=by
 refine PC.fn hH cd96 fun w0 M Q hM hE hQ hR=>?_;dsimp only[cd96,qm,ql,qf,qi,qb,qc,qp,qv,qN,qT,qF,qt]at hQ ⊢
 (repeat' first|refine zaa [0,1,4,5,7,8,9,16] fun K hK=>?_|(refine hK.go ?_;clear hK K)|with_reducible exact wT|refine wA ?_|(refine wB (fun h=>?_) (fun h=>?_)<;>first|exact wN h|subst (h:(_:Bool)=_)|skip)|(refine wQ ?_;clear hQ hR hE hM)|fail)
 refine zb8 (fun k=>[(0,.sl 2 (l.map Track.c)),(1,.fn jc caps),(7,.n l.length),(8,.n k)]) (fun k=>[]) (l.length) (fun k=>zaZ p k (l.drop k)=zaZ p 0 l) ?_;rintro k ⟨hk,hg⟩;rcases Nat.lt_or_ge k l.length with hlt|hge
 ·rw[zae hlt]at hg
  rw[zaZ]at hg
  (repeat' first|refine zaa [0,1,4,5,7,8,9,16] fun K hK=>?_|(refine hK.go ?_;clear hK K)|with_reducible exact wT|refine wA ?_|(refine wB (fun h=>?_) (fun h=>?_)<;>first|exact wN h|subst (h:(_:Bool)=_)|skip)|(refine wQ ?_;clear hQ hR hE hM)|(refine zau hM (hc _ (zab hlt)) ?_;try (refine no_implicit_lambda% (st ?_);try with_reducible exact wT))|fail)
  ·rw[←hg,if_pos h]
  ·exact ⟨k+1,by omega,⟨by omega,by rw[←hg,if_neg (by rw[h];simp)];rfl⟩,(by (try dsimp only);(first|omega|(simp;done)|(simp;omega)))⟩
 ·rw[List.drop_eq_nil_of_le hge]at hg
  (repeat' first|refine zaa [0,1,4,5,7,8,9,16] fun K hK=>?_|(refine hK.go ?_;clear hK K)|with_reducible exact wT|refine wA ?_|(refine wB (fun h=>?_) (fun h=>?_)<;>first|exact wN h|subst (h:(_:Bool)=_)|skip)|(refine wQ ?_;clear hQ hR hE hM)|fail)
  rw[←hg];rfl
end Go.Lev
namespace Go.Lev
open Go.Eng
theorem ziM {α:Type} [Inhabited α] (f:Nat→α→α) {l:List α} {i:Nat} (h:i<l.length):nth (l.mapIdx f) i=f i (nth l i):=by
 rw[zaE (by simpa using h),zaE h,List.getElem_mapIdx]
theorem ext_nth {α:Type} [Inhabited α] {a b:List α} (hl:a.length=b.length) (h:∀ i,i<a.length→nth a i=nth b i):a=b:=by
 refine List.ext_getElem hl fun i h1 h2=>?_
 rw[←zaE h1,←zaE h2]
 exact h i h1
end Go.Lev
namespace Go.Lev
open Go.Eng
set_option maxRecDepth 10000
set_option maxHeartbeats 4000000
variable {P:Program} {inv:Nat→Option Nat} {w0:World} {M:Nat→Prop}
theorem trk_of {p:Pln} {s:State} (h:zak p s=true) {n:Int} (hs:∃ x∈p.sections,x.id=n):zpF s n:=by
 obtain ⟨x,hx,rfl⟩:=hs
 have:x.id∈s.tracks.map Track.id:=by rw[zlA h];exact List.mem_map_of_mem hx
 obtain ⟨t,ht,e⟩:=List.mem_map.1 this
 exact ⟨t,ht,e⟩
end Go.Lev
namespace Go.Lev
open Go.Eng
set_option maxRecDepth 10000
set_option maxHeartbeats 4000000
variable {P:Program} {inv:Nat→Option Nat} {w0:World} {M:Nat→Prop}
theorem is187_pc (hH:HasAll P inv) (n:Int) (x:Track):PC P inv 187 ([.agg x.c]++[.ip 1 [[.n n]] 0 0]) (·=.b (decide (x.id=n))):=by
 refine PC.fn hH cd187 fun w0 M Q hM hE hQ hR=>?_;dsimp only[cd187,qm,ql,qf,qi,qb,qc,qp,qv,qN,qT,qF,qt]at hQ ⊢
 (repeat' first|refine zaa [0,1,2,3] fun K hK=>?_|(refine hK.go ?_;clear hK K)|with_reducible exact wT|refine wA ?_|(refine wB (fun h=>?_) (fun h=>?_)<;>first|exact wN h|subst (h:(_:Bool)=_)|skip)|(refine wQ ?_;clear hQ hR hE hM)|fail)
theorem is_pc (hH:HasAll P inv) (s:State) (hs:s.tracks.length≤1000000000) {m:Nat} (hm:m<s.tracks.length) {n:Int} (he:zaZ (fun x=>decide (Track.id x=n)) 0 s.tracks=(m:Int)):PC P inv 186 ([.n n]++[.ip 3 [s.c] 0 0]) (·=.i .u8 (nth s.tracks m).is):=by
 have c1:=idx_trk hH s.tracks (fun x _=>is187_pc hH n x) hs
 rw[he]at c1
 refine PC.fn hH cd186 fun w0 M Q hM hE hQ hR=>?_;dsimp only[cd186,qm,ql,qf,qi,qb,qc,qp,qv,qN,qT,qF,qt]at hQ ⊢
 (repeat' first|refine zaa [0,1,2,3] fun K hK=>?_|(refine hK.go ?_;clear hK K)|with_reducible exact wT|refine wA ?_|(refine wB (fun h=>?_) (fun h=>?_)<;>first|exact wN h|subst (h:(_:Bool)=_)|skip)|(refine wQ ?_;clear hQ hR hE hM)|refine wS c1 ?_|fail)
theorem zjb (hH:HasAll P inv) {jc:Nat} {caps:List AV} {n v:Int} (hc:PC P inv jc ([.n n]++caps) (·=.i .u8 v)):PC P inv 190 ([.n n]++[.ip 1 [[.fn jc caps]] 0 0]) (·=.b (decide (v=1))):=by
 refine PC.fn hH cd190 fun w0 M Q hM hE hQ hR=>?_;dsimp only[cd190,qm,ql,qf,qi,qb,qc,qp,qv,qN,qT,qF,qt]at hQ ⊢
 (repeat' first|refine zaa [0,1,3] fun K hK=>?_|(refine hK.go ?_;clear hK K)|with_reducible exact wT|refine wA ?_|(refine wB (fun h=>?_) (fun h=>?_)<;>first|exact wN h|subst (h:(_:Bool)=_)|skip)|(refine wQ ?_;clear hQ hR hE hM)|refine wC hc ?_|fail)
theorem step_pc (hH:HasAll P inv) (r:Rte) (l:Lock) (is:Int→Int) {jc:Nat} {caps:List AV} (hpl:zay caps=true) (hc:∀ n∈r.path,PC P inv jc ([.n n]++caps) (·=.i .u8 (is n))) (h0:0<r.path.length) (h1:r.path.length≤1000) (hg:0≤l.gone∧l.gone≤(r.path.length:Int)-1):PC P inv 188 [.agg r.c,.agg l.c,.fn jc caps] (·=.agg (zcb r is l).c):=by
 have c1:=zpV hH r.path (fun x hx=>zjb hH (hc x hx)) (by omega)
 have d1:=hc _ (zab (show r.path.length-1<r.path.length by omega))
 have d2:=hc _ (zab (show l.gone.toNat<r.path.length by omega))
 have t1:=zjb hH d1
 have hb:=zb1 caps hpl
 have hbd:zac caps=0:=zbh _ hb
 have hsn:∀ (k:Nat) (σ:AS),zbT k σ caps=caps:=fun k σ=>zfi k σ hpl
 unfold zcb
 generalize (r.path.any fun n=>decide (is n=1))=anyT at *
 by_cases hp:l.phase=1∨l.phase=4
 ·rw[if_pos hp]
  rcases hp with hp|hp
  all_goals cases anyT
  all_goals refine PC.fn hH cd188 fun w0 M Q hM hE hQ hR=>?_;dsimp only[cd188,qm,ql,qf,qi,qb,qc,qp,qv,qN,qT,qF,qt]at hQ ⊢
  all_goals (have hX:=zA @hp (zA @hb (zA @hbd @hsn));(repeat' first|refine zaa [0,1,2,3,4,5,6,7,8,15,16,22,26,28,41,53,59,79,91,97,105,106] fun K hK=>?_|(refine hK.go ?_;clear hK K)|with_reducible exact wT|refine wA ?_|(refine wB (fun h=>?_) (fun h=>?_)<;>first|exact wN h|subst (h:(_:Bool)=_)|skip)|(refine wQ ?_;clear hQ hR hE hM)|refine wS c1 ?_|fail);all_goals clear hX)
  all_goals first|rfl|(exfalso;contradiction)|trace_state
 ·rw[if_neg hp]
  have hp1:¬l.phase=1:=fun h=>hp (.inl h)
  have hp4:¬l.phase=4:=fun h=>hp (.inr h)
  have e1:decide (l.phase=1)=false:=decide_eq_false hp1
  have e4:decide (l.phase=4)=false:=decide_eq_false hp4
  by_cases hp2:l.phase=2
  ·rw[if_pos hp2]
   by_cases hgl:l.gone<(r.path.length:Int)-1
   ·have d3:=hc _ (zab (show l.gone.toNat+1<r.path.length by omega))
    have t3:=zjb hH d3
    have hn1:(l.gone+1).toNat=l.gone.toNat+1:=by omega
    have hge:¬l.gone=(r.path.length:Int)-1:=by omega
    simp only[hgl,hge,true_and,false_and,if_false]
    generalize is (nth r.path l.gone.toNat)=v1 at *
    generalize is (nth r.path (l.gone.toNat+1))=v2 at *
    have egl:decide (l.gone<(r.path.length:Int)-1)=true:=decide_eq_true hgl
    have ege:decide (l.gone=(r.path.length:Int)-1)=false:=decide_eq_false hge
    refine PC.fn hH cd188 fun w0 M Q hM hE hQ hR=>?_;dsimp only[cd188,qm,ql,qf,qi,qb,qc,qp,qv,qN,qT,qF,qt]at hQ ⊢
    (have hX:=zA @hp2 (zA @hb (zA @hbd (zA @hsn (zA @hn1 (zA @egl @ege)))));(repeat' first|refine zaa [0,1,2,3,4,5,6,7,8,15,16,22,26,28,41,53,59,79,91,97,105,106] fun K hK=>?_|(refine hK.go ?_;clear hK K)|with_reducible exact wT|refine wA ?_|(refine wB (fun h=>?_) (fun h=>?_)<;>first|exact wN h|subst (h:(_:Bool)=_)|skip)|(refine wQ ?_;clear hQ hR hE hM)|refine wC d2 ?_|refine wS t3 ?_|fail);all_goals clear hX)
    all_goals first|(exfalso;contradiction)|rfl|(simp[*];done)|trace_state
   ·have hge:l.gone=(r.path.length:Int)-1:=by omega
    have hn2:((r.path.length:Int)-1).toNat=r.path.length-1:=by omega
    simp only[hgl,hge,true_and,false_and,if_false]
    generalize is (nth r.path (r.path.length-1))=v1 at *
    have egl:decide (l.gone<(r.path.length:Int)-1)=false:=decide_eq_false hgl
    have ege:decide (l.gone=(r.path.length:Int)-1)=true:=decide_eq_true hge
    refine PC.fn hH cd188 fun w0 M Q hM hE hQ hR=>?_;dsimp only[cd188,qm,ql,qf,qi,qb,qc,qp,qv,qN,qT,qF,qt]at hQ ⊢
    (have hX:=zA @hp2 (zA @hb (zA @hbd (zA @hsn (zA @hn2 (zA @egl @ege)))));(repeat' first|refine zaa [0,1,2,3,4,5,6,7,8,15,16,22,26,28,41,53,59,79,91,97,105,106] fun K hK=>?_|(refine hK.go ?_;clear hK K)|with_reducible exact wT|refine wA ?_|(refine wB (fun h=>?_) (fun h=>?_)<;>first|exact wN h|subst (h:(_:Bool)=_)|skip)|(refine wQ ?_;clear hQ hR hE hM)|refine wC d1 ?_|refine wS t1 ?_|fail);all_goals clear hX)
    all_goals first|(exfalso;contradiction)|rfl|(simp[*];done)|trace_state
  ·rw[if_neg hp2]
   have e2:decide (l.phase=2)=false:=decide_eq_false hp2
   have hn2:((r.path.length:Int)-1).toNat=r.path.length-1:=by omega
   by_cases hp3:l.phase=3
   ·rw[if_pos hp3]
    generalize is (nth r.path (r.path.length-1))=v1 at *
    refine PC.fn hH cd188 fun w0 M Q hM hE hQ hR=>?_;dsimp only[cd188,qm,ql,qf,qi,qb,qc,qp,qv,qN,qT,qF,qt]at hQ ⊢
    (have hX:=zA @hp3 (zA @hb (zA @hbd (zA @hsn @hn2)));(repeat' first|refine zaa [0,1,2,3,4,5,6,7,8,15,16,22,26,28,41,53,59,79,91,97,105,106] fun K hK=>?_|(refine hK.go ?_;clear hK K)|with_reducible exact wT|refine wA ?_|(refine wB (fun h=>?_) (fun h=>?_)<;>first|exact wN h|subst (h:(_:Bool)=_)|skip)|(refine wQ ?_;clear hQ hR hE hM)|refine wC d1 ?_|fail);all_goals clear hX)
    all_goals first|(exfalso;contradiction)|rfl|(simp[*];done)|trace_state
   ·rw[if_neg hp3]
    have e3:decide (l.phase=3)=false:=decide_eq_false hp3
    refine PC.fn hH cd188 fun w0 M Q hM hE hQ hR=>?_;dsimp only[cd188,qm,ql,qf,qi,qb,qc,qp,qv,qN,qT,qF,qt]at hQ ⊢
    (have hX:=zA @e1 (zA @e2 (zA @e3 (zA @e4 (zA @hb (zA @hbd @hsn)))));(repeat' first|refine zaa [0,1,2,3,4,5,6,7,8,15,16,22,26,28,41,53,59,79,91,97,105,106] fun K hK=>?_|(refine hK.go ?_;clear hK K)|with_reducible exact wT|refine wA ?_|(refine wB (fun h=>?_) (fun h=>?_)<;>first|exact wN h|subst (h:(_:Bool)=_)|skip)|(refine wQ ?_;clear hQ hR hE hM)|fail);all_goals clear hX)
    all_goals first|(exfalso;contradiction)|rfl|(simp[*];done)|trace_state
end Go.Lev
namespace Go.Eng
section
variable {P:Program} {inv:Nat→Option Nat} {w0:World} {M:Nat→Prop} {n N:Nat} {φ φ0:AF} {σ σ0:AS}
theorem zom {x:ACode} {Q:Exit→AF→AS→Prop} (l:Nat) (hf:ziq (.seq (.label l) x) l=some (.seq .skip x)) (I:Nat→AF→AS→Prop) (m0:Nat) (h0:I m0 φ0 σ0) (h1:zgT φ0 φ) (h2:zfe σ0 σ)
  (pass:∀ m φ σ,I m φ σ→AWp P inv w0 M N n x (zgM l (fun φ' σ'=>∃ m' φ2 σ2,m'<m∧I m' φ2 σ2∧zgT φ2 φ'∧zfe σ2 σ') Q) φ σ):AWp P inv w0 M N n (.scope (.seq (.label l) x)) Q φ σ:=by
 refine AWp.scope l hf I ?_ fun m φ σ h=>AWp.seq fun K hK=>AWp.skip (hK _ _ (pass m φ σ h))
 refine AWp.sub (AWp.seq fun K hK=>AWp.label (hK _ _ (AWp.mono ?_ (pass m0 φ0 σ0 h0)))) h1 h2
 intro e φ' σ' q
 cases e with
 |goto l'=>obtain ⟨rfl,m',φ2,σ2,_,q1,q2,q3⟩:=q;exact ⟨rfl,m',φ2,σ2,q1,q2,q3⟩
 |normal=>exact q
 |exit id=>exact q
 |ret=>exact q
 |panic ch=>exact q
 |outgrown=>exact q
end
end Go.Eng
namespace Go.Lev
open Go.Eng
set_option maxRecDepth 10000
set_option maxHeartbeats 4000000
variable {P:Program} {inv:Nat→Option Nat} {w0:World} {M:Nat→Prop}
theorem zg0 {r:Rte} {is:Int→Int} {l:Lock} (h:zat l r=true) (h0:0<r.path.length) (ht:1≤r.timer):zat (zcb r is l) r=true∧(zcb r is l≠l→zed r (zcb r is l)<zed r l):=by
 unfold zcb
 by_cases h1:l.phase=1∨l.phase=4
 ·rw[if_pos h1]
  split
  ·refine ⟨by simp[zat];omega,fun _=>?_⟩
   unfold zed
   rw[if_neg (by simp),if_pos rfl,if_pos h1]
   simp;omega
  ·exact ⟨h,fun e=>absurd rfl e⟩
 ·rw[if_neg h1]
  by_cases h2:l.phase=2
  ·rw[if_pos h2]
   simp only[zat,h2]at h
   simp at h
   split
   ·rename_i h3
    refine ⟨by simp[zat,h2];omega,fun _=>?_⟩
    unfold zed
    rw[if_neg h1,if_pos h2,if_neg h1,if_pos h2]
    dsimp only
    omega
   ·split
    ·refine ⟨by simp[zat];omega,fun _=>?_⟩
     unfold zed
     rw[if_neg (by simp),if_neg (by simp),if_pos rfl,if_neg h1,if_pos h2]
     omega
    ·split
     ·refine ⟨by simp[zat],fun _=>?_⟩
      unfold zed
      rw[if_neg (by simp),if_neg (by simp),if_neg (by simp),if_neg h1,if_pos h2]
      omega
     ·exact ⟨by simp[zat,h2];omega,fun e=>absurd rfl e⟩
  ·rw[if_neg h2]
   by_cases h3:l.phase=3
   ·rw[if_pos h3]
    split
    ·refine ⟨by simp[zat],fun _=>?_⟩
     unfold zed
     rw[if_neg (by simp),if_neg (by simp),if_neg (by simp),if_neg h1,if_neg h2,if_pos h3]
     omega
    ·exact ⟨h,fun e=>absurd rfl e⟩
   ·rw[if_neg h3]
    exact ⟨h,fun e=>absurd rfl e⟩
theorem zgs {r:Rte} {is:Int→Int} (h0:0<r.path.length) (ht:1≤r.timer):∀ (m:Nat) (l:Lock),zat l r=true→zed r l≤m→zcN r is m l=zcN r is (zed r l) l:=by
 intro m
 induction m using Nat.strongRecOn with
 |ind m ih =>
  intro l hl hm
  obtain ⟨k1,k2⟩:=zg0 (is:=is) hl h0 ht
  cases m with
  |zero=>rw[show zed r l=0 by omega]
  |succ m =>
   cases hr:zed r l with
   |zero =>
    have:zcb r is l=l:=Classical.byContradiction fun e=>by have:=k2 e;omega
    rw[zcN,zcN,if_pos this]
   |succ q =>
    rw[zcN,zcN]
    split
    ·rfl
    ·rename_i e
     have:=k2 e
     rw[ih m (by omega) _ k1 (by omega),ih q (by omega) _ k1 (by omega)]
theorem zkt {r:Rte} {is:Int→Int} {l:Lock} (hl:zat l r=true) (h0:0<r.path.length) (ht:1≤r.timer):zdF r is (zcb r is l)=zdF r is l:=by
 obtain ⟨k1,k2⟩:=zg0 (is:=is) hl h0 ht
 by_cases e:zcb r is l=l
 ·rw[e]
 ·have:=k2 e
  unfold zdF
  cases hr:zed r l with
  |zero=>omega
  |succ q=>rw[zcN,if_neg e,zgs h0 ht q _ k1 (by omega)]
theorem zlO {r:Rte} {is:Int→Int} {l:Lock} (e:zcb r is l=l):zdF r is l=l:=by
 unfold zdF
 cases zed r l with
 |zero=>rfl
 |succ q=>rw[zcN,if_pos e]
end Go.Lev
namespace Go.Lev
open Go.Eng
set_option maxRecDepth 10000
set_option maxHeartbeats 4000000
variable {P:Program} {inv:Nat→Option Nat} {w0:World} {M:Nat→Prop}
theorem isOf_at2 {p:Pln} {s:State} (ho:OkP p) (h:zak p s=true) {k:Nat} (hk:k<s.tracks.length):zc6 s (nth s.tracks k).id=(nth s.tracks k).is:=by
 unfold zc6
 rw[zjZ Track.id (by rw[zlA h];exact zkv ho) hk rfl]
theorem zkM {l:Lock} {r:Rte} (h0:0<r.path.length) (h:zat l r=true):0≤l.gone∧l.gone≤(r.path.length:Int)-1:=by
 unfold zat at h
 repeat' split at h
 all_goals (simp at h;try omega)
theorem zks (hH:HasAll P inv) (hI:HasIds P inv) (p:Pln) (hp:Sm p) (s:State) (hs:SmS s) (he:zag p s=0):PO P inv 179 [.agg p.c,.agg s.c] (.tup [zgN 5 (zc5 p s),.n 0]) (zeZ 5 (zc5 p s)):=by
 have c0:=zeq hH hI p hp s hs
 rw[he]at c0
 have c1:=zea hH s hs
 have hok:=zar he
 have hpa:=(zad he).2.1
 have hpl:=zan hpa
 have hph:∀ k,k<s.locks.length→zat (nth s.locks k) (nth p.routes k)=true:=fun k hk=>by
  have:=zcH hpa hk
  simp only[zbJ,Bool.and_eq_true]at this
  exact this.2
 have hrt:∀ k,k<p.routes.length→0<(nth p.routes k).path.length∧(nth p.routes k).path.length≤1000∧1≤(nth p.routes k).timer:=fun k hk=>by
  have hr:=zab hk
  have h1:=zcO hok hr
  have h2:=zfd hok hr
  exact ⟨by omega,by omega,h2.1⟩
 have hcl:∀ (L:List Lock) (k:Nat),k<p.routes.length→∀ n∈(nth p.routes k).path,PC P inv 186 ([.n n]++[.ip 3 [State.c ⟨s.tracks,s.switches,L⟩] 0 0]) (·=.i .u8 (zc6 s n)):=fun L k hk n hn=>by
  obtain ⟨q,hq,e⟩:=(zcc hok (zab hk)).1 n (List.mem_append_left _ hn)
  obtain ⟨t,ht,et⟩:=trk_of hpa ⟨q,hq,e⟩
  rcases zaV Track.id n s.tracks with ⟨_,q1⟩|⟨m,hm,q1,q2⟩
  ·exact absurd et (q1 t ht)
  ·have:=is_pc hH ⟨s.tracks,s.switches,L⟩ (by have:=hs.1;dsimp only;omega) (m:=m) hm q1
   dsimp only at this
   rw[←isOf_at2 hok hpa hm,q2]at this
   exact this
 obtain ⟨h1,h2,h3⟩:=hs
 have hrl:=hp.rte
 unfold stV stR at c1
 refine PO.fn hH cd179 fun w0 M Q hM hE hQ hR=>?_;dsimp only[cd179,qm,ql,qf,qi,qb,qc,qp,qv,qN,qT,qF,qt]at hQ ⊢
 (repeat' first|refine zaa [0,1,2,3,4,5,6,7,8,9,10,15,22,23,24,25,43] fun K hK=>?_|(refine hK.go ?_;clear hK K)|with_reducible exact wT|refine wA ?_|(refine wB (fun h=>?_) (fun h=>?_)<;>first|exact wN h|subst (h:(_:Bool)=_)|skip)|(refine wR ?_;clear hQ hR hE hM)|refine wC c0 ?_|refine wO c1 ?_|fail)
 all_goals first|(exfalso;contradiction)|skip
 refine zai (ι:=Nat) [3,4,5,7,22,23,24] (fun z=>[(24,.n z)]) (fun z=>[(7,.cells ((zb4 (zjm p s) z s.locks).map Lock.c).flatten (decide (0<s.locks.length)))]) (fun z=>z) (p.routes.length) (fun _=>True) (0) ?_;rintro k ⟨hk,-⟩;(try dsimp only at hk ⊢);rcases Nat.lt_or_ge k p.routes.length with hlt|hge
 ·have hk2:k<s.locks.length:=by omega
  have e1:=zbo (zjm p s) hk2
  have en:=zbe (zjm p s) hk2
  have hlen:(zb4 (zjm p s) k s.locks).length=s.locks.length:=zaW _ _ _
  generalize hU:zb4 (zjm p s) k s.locks=U at *
  have hkU:k<U.length:=by omega
  have hid:U.set k (nth s.locks k)=U:=by rw[←en,zaE hkU,List.set_getElem_self]
  obtain ⟨hr0,hr1,hrt1⟩:=hrt k hlt
  have hcl2:=fun L=>hcl L k hlt
  have hdec:decide (0<s.locks.length)=decide (0<s.locks.length):=rfl
  (repeat' first|refine zaa [0,1,2,3,4,5,6,7,8,9,10,15,22,23,24,25,43] fun K hK=>?_|(refine hK.go ?_;clear hK K)|with_reducible exact wT|refine wA ?_|(refine wB (fun h=>?_) (fun h=>?_)<;>first|exact wN h|subst (h:(_:Bool)=_)|skip)|(refine wR ?_;clear hQ hR hE hM)|fail)
  refine zom 0 rfl (fun m φ σ=>∃ l':Lock,(zed (nth p.routes k) l'=m∧zat l' (nth p.routes k)=true∧zdF (nth p.routes k) (zc6 s) l'=zjm p s k (nth s.locks k)) ∧
    φ=[(3,.ptr 1 3 0),(4,.ptr 2 3 0),(5,.n 0),(7,.fn 186 [.ptr 1 3 0]),(8,.n k),(9,.ptr 8 7 0),(22,.sl 7 (p.routes.map Rte.c)),(23,.n p.routes.length),(24,.n k)] ∧
    σ=[(0,.cells p.c true),(1,.cells [.sm 5 (s.tracks.length*2) 0 s.tracks.length 2,.sm 6 (s.switches.length*3) 0 s.switches.length 3,.sm 7 (s.locks.length*4) 0 s.locks.length 4] true),(2,.cells [.s0 2,.s0 3,.s0 4] true),
     (5,.cells (s.tracks.map Track.c).flatten (decide (0<s.tracks.length))),(6,.cells (s.switches.map Switch.c).flatten (decide (0<s.switches.length))),(7,.cells ((U.set k l').map Lock.c).flatten (decide (0<s.locks.length))),(8,.cells (nth p.routes k).c true)])
   (zed (nth p.routes k) (nth s.locks k)) ⟨nth s.locks k,⟨rfl,hph k hk2,rfl⟩,rfl,rfl⟩ (by (refine no_implicit_lambda% (st ?_);try with_reducible exact wT)) (by rw[hid];(refine no_implicit_lambda% (st ?_);try with_reducible exact wT)) ?_
  rintro m φ σ ⟨l',⟨hm,hl',hset⟩,rfl,rfl⟩
  have cs:=step_pc hH (nth p.routes k) l' (zc6 s) (jc:=186) (caps:=[.ip 3 [State.c ⟨s.tracks,s.switches,U.set k l'⟩] 0 0]) rfl (hcl2 _) hr0 hr1 (zkM hr0 hl')
  have fa:zcm ((U.set k l').map Lock.c).flatten (k*4) (some 4)=some (.agg l'.c):=by
   rw[zeG (c:=Lock.c) (l:=U.set k l') (k:=k) (by simpa using hkU) (by omega),zei hkU]
  have fc:zbS 4 s.locks.length ((U.set k l').map Lock.c).flatten=(U.set k l').map Lock.c:=by
   have:=zcw (c:=Lock.c) (U.set k l')
   rw[List.length_set,hlen]at this
   exact this
  obtain ⟨k1,k2⟩:=zg0 (is:=zc6 s) hl' hr0 hrt1
  have k3:=zkt (is:=zc6 s) hl' hr0 hrt1
  by_cases hx:zcb (nth p.routes k) (zc6 s) l'=l'
  ·rw[hx]at cs
   have hfin:U.set k l'=zb4 (zjm p s) (k+1) s.locks:=by rw[←e1,←hset,zlO hx]
   (have hX:=zA @fa (zA @fc @hlen);(repeat' first|refine zaa [0,1,2,3,4,5,6,7,8,9,10,15,22,23,24,25,43] fun K hK=>?_|(refine hK.go ?_;clear hK K)|with_reducible exact wT|refine wA ?_|(refine wB (fun h=>?_) (fun h=>?_)<;>first|exact wN h|subst (h:(_:Bool)=_)|skip)|(refine wR ?_;clear hQ hR hE hM)|refine wP cs ?_|fail);all_goals clear hX)
   all_goals first|(exfalso;contradiction)|exact ⟨k+1,by omega,by omega,by omega,by rw[hfin]⟩
  ·have k2:=k2 hx
   rw[hset]at k3
   generalize zcb (nth p.routes k) (zc6 s) l'=nx at *
   have hne:(decide (nx.id=l'.id)&&(decide (nx.phase=l'.phase)&&(decide (nx.gone=l'.gone)&&decide (nx.left=l'.left))))=false:=by
    rw[Bool.eq_false_iff]
    intro h
    simp only[Bool.and_eq_true,decide_eq_true_eq]at h
    exact hx ((ze9 _ _).2 h)
   (have hX:=zA @fa (zA @fc (zA @hlen (zA @hne (zA (zg4 hkU) (zA (zbs hkU) (zA (zbr hkU) (zbq hkU)))))));(repeat' first|refine zaa [0,1,2,3,4,5,6,7,8,9,10,15,22,23,24,25,43] fun K hK=>?_|(refine hK.go ?_;clear hK K)|with_reducible exact wT|refine wA ?_|(refine wB (fun h=>?_) (fun h=>?_)<;>first|exact wN h|subst (h:(_:Bool)=_)|skip)|(refine wR ?_;clear hQ hR hE hM)|refine wP cs ?_|fail);all_goals clear hX)
   all_goals first|(exfalso;contradiction)|skip
   refine ⟨_,_,_, ?_,⟨nx,⟨rfl,k1,k3⟩,rfl,rfl⟩, ?_, ?_⟩
   ·rw[←hm];exact k2
   ·(refine no_implicit_lambda% (st ?_);try with_reducible exact wT)
   ·(refine no_implicit_lambda% (st ?_);try with_reducible exact wT)
 ·rw[zfc _ (by omega)]
  (repeat' first|refine zaa [0,1,2,3,4,5,6,7,8,9,10,15,22,23,24,25,43] fun K hK=>?_|(refine hK.go ?_;clear hK K)|with_reducible exact wT|refine wA ?_|(refine wB (fun h=>?_) (fun h=>?_)<;>first|exact wN h|subst (h:(_:Bool)=_)|skip)|(refine wR ?_;clear hQ hR hE hM)|fail)
  all_goals (left;unfold zgN zeZ zc5;dsimp only;rw[List.length_mapIdx];constructor)
  all_goals (refine no_implicit_lambda% (st ?_);try with_reducible exact wT)
theorem zoN (hH:HasAll P inv) (hI:HasIds P inv) (p:Pln) (hp:Sm p) (s:State) (hs:SmS s):PC P inv 179 [.agg p.c,.agg s.c] (·=.tup [.agg (zjl p s).c,.n (zag p s)]):=by
 unfold zjl
 by_cases he:zag p s=0
 ·have:=(zks hH hI p hp s hs he).pc
  rw[zcU]at this
  rw[if_pos he,he]
  exact this
 ·have c0:=zeq hH hI p hp s hs
  rw[if_neg he]
  generalize zag p s=e at c0 he ⊢
  refine PC.fn hH cd179 fun w0 M Q hM hE hQ hR=>?_;dsimp only[cd179,qm,ql,qf,qi,qb,qc,qp,qv,qN,qT,qF,qt]at hQ ⊢
  (repeat' first|refine zaa [0,1,2,3,4,5,6,7,8,9,10,15,22,23,24,25,43] fun K hK=>?_|(refine hK.go ?_;clear hK K)|with_reducible exact wT|refine wA ?_|(refine wB (fun h=>?_) (fun h=>?_)<;>first|exact wN h|subst (h:(_:Bool)=_)|skip)|(refine wQ ?_;clear hQ hR hE hM)|refine wC c0 ?_|fail)
  all_goals first|rfl|(exfalso;contradiction)|skip
end Go.Lev
namespace Go.Lev
open Go.Eng
section
variable {p:Pln} {s t:State} (h:zag p s=0) (g:OnS p s t)
include h g
end
theorem stepL_on {r:Rte} {is:Int→Int} {l:Lock} (h:zat l r=true):On l (zcb r is l):=by
 unfold zcb
 by_cases h1:l.phase=1∨l.phase=4
 ·rw[if_pos h1]
  have hg:l.gone=0:=by
   rcases h1 with e|e
   ·simp only[zat,e]at h;simp at h;exact h.1
   ·simp only[zat,e]at h;simp at h;exact h.1
  split
  ·exact .inr ⟨rfl,.inr ⟨by omega,by dsimp only;omega,by dsimp only;omega⟩⟩
  ·exact .inl rfl
 ·rw[if_neg h1]
  by_cases h2:l.phase=2
  ·rw[if_pos h2]
   simp only[zat,h2]at h
   simp at h
   split
   ·exact .inr ⟨rfl,.inr ⟨by omega,by dsimp only;omega,by dsimp only;omega⟩⟩
   ·split
    ·exact .inr ⟨rfl,.inr ⟨by omega,by dsimp only;omega,by dsimp only;omega⟩⟩
    ·split
     ·exact .inr ⟨rfl,.inl rfl⟩
     ·exact .inl rfl
  ·rw[if_neg h2]
   by_cases h3:l.phase=3
   ·rw[if_pos h3]
    split
    ·exact .inr ⟨rfl,.inl rfl⟩
    ·exact .inl rfl
   ·rw[if_neg h3]
    exact .inl rfl
end Go.Lev
namespace Go.Lev
open Go.Eng
theorem zkV {r:Rte} {is:Int→Int} {l:Lock} (e:zcb r is l=l):∀ m,zdj r is m l=l
 |0=>rfl
 |m+1=>by rw[zdj,e];exact zkV e m
theorem zpE (r:Rte) (is:Int→Int):∀ (m:Nat) (l:Lock),zdj r is m l=zcN r is m l
 |0,_=>rfl
 |m+1,l=>by
  rw[zdj,zcN]
  split
  ·rename_i e;rw[e];exact zkV e m
  ·exact zpE r is m _
theorem zkU {r:Rte} {is:Int→Int} {l:Lock} (h:zat l r=true) (h0:0<r.path.length) (h6:r.path.length≤6) (ht:1≤r.timer):zdj r is 10 l=zdF r is l:=by
 rw[zpE]
 refine zgs h0 ht 10 l h ?_
 unfold zed
 split
 ·omega
 ·split
  ·simp only[zat,show l.phase=2 by assumption]at h
   simp at h
   omega
  ·split<;>omega
theorem ziP (r:Rte) (is:Int→Int):∀ (m:Nat) (l:Lock),zdj r is (m+1) l=zcb r is (zdj r is m l)
 |0,_=>rfl
 |m+1,l=>by rw[zdj,ziP r is m];rfl
end Go.Lev
namespace Go.Lev
open Go.Eng
section
variable {p:Pln} {s:State} {n m:Int} {i j:Nat} (h:MaySet p s n i)
include h
theorem MaySet.again:lkC p (zgP s n (zbX p i)) n=180:=by
 have hi':i<(zgP s n (zbX p i)).locks.length:=by rw[zjo h];exact h.lt
 have hl:=h.lock h.lt
 rw[if_pos rfl]at hl
 rw[zpx h.code hi' (by rw[hl]),hl,if_neg (show ¬(1:Int)=0 by decide)]
end
end Go.Lev
namespace Go.Lev
open Go.Eng
section
variable {p:Pln} {s:State} (h:zag p s=0) {i:Nat} (hi:i<s.locks.length)
include h hi
theorem setl_at:nth (zc5 p s).locks i=zdF (nth p.routes i) (zc6 s) (nth s.locks i):=by
 show nth (s.locks.mapIdx (zjm p s)) i=_
 rw[ziM _ hi]
 rfl
theorem zjk:nth p.routes i∈p.routes∧0<(nth p.routes i).path.length∧1≤(nth p.routes i).timer∧zat (nth s.locks i) (nth p.routes i)=true:=by
 have hpa:=(zad h).2.1
 have hr:nth p.routes i∈p.routes:=zab (by have:=zan hpa;omega)
 have h1:=zcH hpa hi
 simp only[zbJ,Bool.and_eq_true,decide_eq_true_eq]at h1
 exact ⟨hr,by have:=(zcO (zar h) hr).1;omega,(zfd (zar h) hr).1,h1.2⟩
end
theorem zmR (p:Pln) (s:State):(zc5 p s).locks.length=s.locks.length:=by simp[zc5]
theorem setl_sm {p:Pln} {s:State} (hs:SmS s):SmS (zc5 p s):=⟨hs.1,hs.2.1,by rw[zmR];exact hs.2.2⟩
section
variable {p:Pln} {s:State} (h:zag p s=0) {n:Int}
include h
end
end Go.Lev
namespace Go.Lev
open Go.Eng
set_option maxRecDepth 10000
set_option maxHeartbeats 4000000
variable {P:Program} {inv:Nat→Option Nat} {w0:World} {M:Nat→Prop}
theorem zlI (hH:HasAll P inv) (p:Pln) (hp:Sm p) (S:State) {k:Nat} (hk:k<p.routes.length) (q:Int→Int) (hc:∀ n∈(nth p.routes k).path,PC P inv 335 [.agg p.c,.agg S.c,.n n] (·=.i .u8 (q n)))
  (h0:0<(nth p.routes k).path.length) (h6:(nth p.routes k).path.length≤6) (l:Lock) (hl:zat l (nth p.routes k)=true):PC P inv 372 [.agg p.c,.agg S.c,.agg l.c,.n k] (·=.agg (zcb (nth p.routes k) q l).c):=by
 have hrl:=hp.rte
 have d1:=hc _ (zab (show (nth p.routes k).path.length-1<(nth p.routes k).path.length by omega))
 have g1:=zdL (show (nth p.routes k).path.length-1<(nth p.routes k).path.length by omega)
 have t1:(((nth p.routes k).path.length:Int)-1).toNat=(nth p.routes k).path.length-1:=by omega
 obtain ⟨id,ph,gn,lf⟩:=l
 by_cases h1:ph=1∨ph=4
 ·have e:zcb (nth p.routes k) q ⟨id,ph,gn,lf⟩=if ((nth p.routes k).path.any fun n=>decide (q n=1))=true then ⟨id,2,0,0⟩ else ⟨id,ph,gn,lf⟩:=by unfold zcb;rw[if_pos h1]
  rw[e]
  clear e hl d1 g1
  have hpl:(((nth p.routes k).path.length:Int)-1)+1=(nth p.routes k).path.length:=by omega
  cases hb:((nth p.routes k).path.any fun n=>decide (q n=1)) with
  |true =>
   rw[if_pos rfl]
   refine PC.fn hH cd372 fun w0 M Q hM hE hQ hR=>?_;dsimp only[cd372,qm,ql,qf,qi,qb,qc,qp,qv,qN,qT,qF,qt]at hQ ⊢
   (repeat' first|refine zaa [0,1,2,3,4,5,6,8,9,10,11,12,29,32,42,43,56,65,77,79,92,104,114] fun K hK=>?_|(refine hK.go ?_;clear hK K)|with_reducible exact wT|refine wA ?_|(refine wB (fun h=>?_) (fun h=>?_)<;>first|exact wN h|subst (h:(_:Bool)=_)|skip)|(refine wQ ?_;clear hQ hR hE hM)|fail)
   all_goals first|(exfalso;omega)|skip
   all_goals
    refine zai (ι:=Nat) [4,5,6,8,9,10,11] (fun z=>[(11,.n z)]) (fun _=>[]) (fun z=>z) ((nth p.routes k).path.length) (fun z=>(((nth p.routes k).path.drop z).any (fun n=>decide (q n=1))=(nth p.routes k).path.any (fun n=>decide (q n=1)))) (0) ?_;rintro j ⟨hk,hg⟩;(try dsimp only at hk hg ⊢);rcases Nat.lt_or_ge j (nth p.routes k).path.length with hlt|hge
    ·have hj:j<(nth p.routes k).path.length:=by assumption
     rw[hb,zae hj,List.any_cons]at hg
     have d1:=hc _ (zab hj)
     have x0:=zdL hj
     generalize q (nth (nth p.routes k).path j)=a at *
     by_cases ha:a=1
     ·subst ha
      (have hX:=@x0;(repeat' first|refine zaa [0,1,2,3,4,5,6,8,9,10,11,12,29,32,42,43,56,65,77,79,92,104,114] fun K hK=>?_|(refine hK.go ?_;clear hK K)|with_reducible exact wT|refine wA ?_|(refine wB (fun h=>?_) (fun h=>?_)<;>first|exact wN h|subst (h:(_:Bool)=_)|skip)|(refine wQ ?_;clear hQ hR hE hM)|refine wC d1 ?_|refine wU d1 ?_|fail);all_goals clear hX)
      all_goals first|rfl|(exfalso;contradiction)|(exfalso;omega)|trace_state
     ·have z:=decide_eq_false ha
      rw[z,Bool.false_or]at hg
      (have hX:=zA @x0 @z;(repeat' first|refine zaa [0,1,2,3,4,5,6,8,9,10,11,12,29,32,42,43,56,65,77,79,92,104,114] fun K hK=>?_|(refine hK.go ?_;clear hK K)|with_reducible exact wT|refine wA ?_|(refine wB (fun h=>?_) (fun h=>?_)<;>first|exact wN h|subst (h:(_:Bool)=_)|skip)|(refine wQ ?_;clear hQ hR hE hM)|refine wC d1 ?_|refine wU d1 ?_|fail);all_goals clear hX)
      all_goals first|(exfalso;contradiction)|(exfalso;omega)|exact ⟨j+1,by omega,⟨by omega,hg.trans hb.symm⟩,by omega⟩|trace_state
    ·rw[hb,List.drop_eq_nil_of_le (by assumption),List.any_nil]at hg
     cases hg
  |false =>
   rw[if_neg (by decide)]
   have hn:=List.any_eq_false.1 hb
   refine PC.fn hH cd372 fun w0 M Q hM hE hQ hR=>?_;dsimp only[cd372,qm,ql,qf,qi,qb,qc,qp,qv,qN,qT,qF,qt]at hQ ⊢
   (repeat' first|refine zaa [0,1,2,3,4,5,6,8,9,10,11,12,29,32,42,43,56,65,77,79,92,104,114] fun K hK=>?_|(refine hK.go ?_;clear hK K)|with_reducible exact wT|refine wA ?_|(refine wB (fun h=>?_) (fun h=>?_)<;>first|exact wN h|subst (h:(_:Bool)=_)|skip)|(refine wQ ?_;clear hQ hR hE hM)|fail)
   all_goals first|(exfalso;omega)|skip
   all_goals
    refine zai (ι:=Nat) [4,5,6,8,9,10,11] (fun z=>[(11,.n z)]) (fun _=>[]) (fun z=>z) ((nth p.routes k).path.length) (fun _=>True) (0) ?_;rintro j ⟨hk,-⟩;(try dsimp only at hk ⊢);rcases Nat.lt_or_ge j (nth p.routes k).path.length with hlt|hge
    ·have hj:j<(nth p.routes k).path.length:=by assumption
     have d1:=hc _ (zab hj)
     have x0:=zdL hj
     have ha:=hn _ (zab hj)
     have ha:¬q (nth (nth p.routes k).path j)=1:=by simpa using ha
     generalize q (nth (nth p.routes k).path j)=a at *
     have z:=decide_eq_false ha
     (have hX:=zA @x0 @z;(repeat' first|refine zaa [0,1,2,3,4,5,6,8,9,10,11,12,29,32,42,43,56,65,77,79,92,104,114] fun K hK=>?_|(refine hK.go ?_;clear hK K)|with_reducible exact wT|refine wA ?_|(refine wB (fun h=>?_) (fun h=>?_)<;>first|exact wN h|subst (h:(_:Bool)=_)|skip)|(refine wQ ?_;clear hQ hR hE hM)|refine wC d1 ?_|refine wU d1 ?_|fail);all_goals clear hX)
     all_goals first|(exfalso;contradiction)|(exfalso;omega)|exact ⟨j+1,by omega,by omega,by omega⟩|trace_state
    ·(repeat' first|refine zaa [0,1,2,3,4,5,6,8,9,10,11,12,29,32,42,43,56,65,77,79,92,104,114] fun K hK=>?_|(refine hK.go ?_;clear hK K)|with_reducible exact wT|refine wA ?_|(refine wB (fun h=>?_) (fun h=>?_)<;>first|exact wN h|subst (h:(_:Bool)=_)|skip)|(refine wQ ?_;clear hQ hR hE hM)|fail)
     all_goals first|rfl|(exfalso;contradiction)|(exfalso;omega)|trace_state
 ·by_cases h2:ph=2
  ·subst h2
   simp only[zat]at hl
   simp at hl
   obtain ⟨g,rfl⟩:∃ g:Nat,gn=g:=⟨gn.toNat,by omega⟩
   by_cases h3:(g:Int)<((nth p.routes k).path.length:Int)-1
   ·have d2:=hc _ (zab (show g<(nth p.routes k).path.length by omega))
    have d3:=hc _ (zab (show g+1<(nth p.routes k).path.length by omega))
    have g2:=zdL (show g<(nth p.routes k).path.length by omega)
    have g3:=zdL (show g+1<(nth p.routes k).path.length by omega)
    have t2:((g:Int)+1).toNat=g+1:=by omega
    have e:zcb (nth p.routes k) q ⟨id,2,g,lf⟩=if q (nth (nth p.routes k).path g)=0∧q (nth (nth p.routes k).path (g+1))=1 then ⟨id,2,(g:Int)+1,lf⟩ else ⟨id,2,g,lf⟩:=by
     unfold zcb
     rw[if_neg (by dsimp only;omega),if_pos rfl]
     dsimp only
     rw[Int.toNat_natCast]
     by_cases hq:q (nth (nth p.routes k).path g)=0∧q (nth (nth p.routes k).path (g+1))=1
     ·rw[if_pos ⟨h3,hq⟩,if_pos hq]
     ·rw[if_neg (fun h=>hq h.2),if_neg hq,if_neg (fun h=>by omega),if_neg (fun h=>by omega)]
    rw[e]
    clear e d1 g1
    generalize q (nth (nth p.routes k).path g)=a at *
    generalize q (nth (nth p.routes k).path (g+1))=b at *
    refine PC.fn hH cd372 fun w0 M Q hM hE hQ hR=>?_;dsimp only[cd372,qm,ql,qf,qi,qb,qc,qp,qv,qN,qT,qF,qt]at hQ ⊢
    (have hX:=zA @g2 (zA @g3 (zA @t2 @Int.toNat_natCast));(repeat' first|refine zaa [0,1,2,3,4,5,6,8,9,10,11,12,29,32,42,43,56,65,77,79,92,104,114] fun K hK=>?_|(refine hK.go ?_;clear hK K)|with_reducible exact wT|refine wA ?_|(refine wB (fun h=>?_) (fun h=>?_)<;>first|exact wN h|subst (h:(_:Bool)=_)|skip)|(refine wQ ?_;clear hQ hR hE hM)|refine wC d2 ?_|refine wC d3 ?_|refine wU d2 ?_|fail);all_goals clear hX)
    all_goals first|(exfalso;omega)|rfl|(simp[*];done)|trace_state
   ·have e:zcb (nth p.routes k) q ⟨id,2,g,lf⟩=if q (nth (nth p.routes k).path ((nth p.routes k).path.length-1))=0 then ⟨id,0,0,0⟩ else if q (nth (nth p.routes k).path ((nth p.routes k).path.length-1))=1 then ⟨id,3,((nth p.routes k).path.length:Int)-1,(nth p.routes k).timer⟩ else ⟨id,2,g,lf⟩:=by
     unfold zcb
     rw[if_neg (by dsimp only;omega),if_pos rfl]
     dsimp only
     rw[if_neg (fun h=>by omega)]
     have hg:(g:Int)=((nth p.routes k).path.length:Int)-1:=by omega
     by_cases hq:q (nth (nth p.routes k).path ((nth p.routes k).path.length-1))=1
     ·rw[if_pos ⟨hg,hq⟩,if_neg (by omega),if_pos hq]
     ·rw[if_neg (fun h=>hq h.2)]
      by_cases hq0:q (nth (nth p.routes k).path ((nth p.routes k).path.length-1))=0
      ·rw[if_pos ⟨hg,hq0⟩,if_pos hq0]
      ·rw[if_neg (fun h=>hq0 h.2),if_neg hq0,if_neg hq]
    rw[e]
    clear e
    generalize q (nth (nth p.routes k).path ((nth p.routes k).path.length-1))=a at *
    refine PC.fn hH cd372 fun w0 M Q hM hE hQ hR=>?_;dsimp only[cd372,qm,ql,qf,qi,qb,qc,qp,qv,qN,qT,qF,qt]at hQ ⊢
    (have hX:=zA @g1 @t1;(repeat' first|refine zaa [0,1,2,3,4,5,6,8,9,10,11,12,29,32,42,43,56,65,77,79,92,104,114] fun K hK=>?_|(refine hK.go ?_;clear hK K)|with_reducible exact wT|refine wA ?_|(refine wB (fun h=>?_) (fun h=>?_)<;>first|exact wN h|subst (h:(_:Bool)=_)|skip)|(refine wQ ?_;clear hQ hR hE hM)|refine wC d1 ?_|fail);all_goals clear hX)
    all_goals first|(exfalso;omega)|rfl|(simp[*];done)|trace_state
  ·have e:zcb (nth p.routes k) q ⟨id,ph,gn,lf⟩=if ph=3∧q (nth (nth p.routes k).path ((nth p.routes k).path.length-1))=0 then ⟨id,0,0,0⟩ else ⟨id,ph,gn,lf⟩:=by
    unfold zcb
    rw[if_neg h1,if_neg h2]
    dsimp only
    by_cases h3:ph=3
    ·rw[if_pos h3]
     by_cases hq0:q (nth (nth p.routes k).path ((nth p.routes k).path.length-1))=0
     ·rw[if_pos hq0,if_pos ⟨h3,hq0⟩]
     ·rw[if_neg hq0,if_neg (fun h=>hq0 h.2)]
    ·rw[if_neg h3,if_neg (fun h=>h3 h.1)]
   rw[e]
   clear e hl
   generalize q (nth (nth p.routes k).path ((nth p.routes k).path.length-1))=a at *
   refine PC.fn hH cd372 fun w0 M Q hM hE hQ hR=>?_;dsimp only[cd372,qm,ql,qf,qi,qb,qc,qp,qv,qN,qT,qF,qt]at hQ ⊢
   (have hX:=zA @g1 @t1;(repeat' first|refine zaa [0,1,2,3,4,5,6,8,9,10,11,12,29,32,42,43,56,65,77,79,92,104,114] fun K hK=>?_|(refine hK.go ?_;clear hK K)|with_reducible exact wT|refine wA ?_|(refine wB (fun h=>?_) (fun h=>?_)<;>first|exact wN h|subst (h:(_:Bool)=_)|skip)|(refine wQ ?_;clear hQ hR hE hM)|refine wC d1 ?_|fail);all_goals clear hX)
   all_goals first|(exfalso;omega)|rfl|(simp[*];done)|trace_state
theorem updI_at {α:Type} [Inhabited α] (f:Nat→α→α) (k:Nat) {l:List α} {j:Nat} (hj:j<l.length):nth (zb4 f k l) j=if j<k then f j (nth l j) else nth l j:=by
 rw[zaE (by rw[zaW];exact hj)]
 unfold zb4
 by_cases h:j<k
 ·rw[if_pos h,List.getElem_append_left (by simp;omega),List.getElem_take,List.getElem_mapIdx,zaE hj]
 ·rw[if_neg h,List.getElem_append_right (by simp;omega),List.getElem_drop,zaE hj]
  congr 1
  simp
  omega
theorem zjR {r:Rte} {is:Int→Int} (h0:0<r.path.length) (ht:1≤r.timer):∀ (m:Nat) (l:Lock),zat l r=true→On l (zdj r is m l)∧zat (zdj r is m l) r=true
 |0,l,h=>⟨.inl rfl,h⟩
 |m+1,l,h=>by
  have h1:=(zg0 (is:=is) h h0 ht).1
  have ih:=zjR (is:=is) h0 ht m (zcb r is l) h1
  exact ⟨(stepL_on h).trans ih.1,ih.2⟩
theorem setS_on {p:Pln} {s:State} (h:zag p s=0) {i:Nat} (hi:i<s.locks.length) (m:Nat):OnS p s (setS p s i m):=by
 have both:∀ (m j:Nat),j<s.locks.length→On (nth s.locks j) (zdj (nth p.routes j) (zc6 s) m (nth s.locks j))∧zbJ (zdj (nth p.routes j) (zc6 s) m (nth s.locks j)) (nth p.routes j)=true:=fun m j hj=>by
  obtain ⟨_,h2,h3,h4⟩:=zjk h hj
  have h5:=zjR (is:=zc6 s) h2 h3 m _ h4
  have h6:=zcH (zad h).2.1 hj
  simp only[zbJ,Bool.and_eq_true,decide_eq_true_eq]at h6 ⊢
  exact ⟨h5.1,h5.1.id.trans h6.1,h5.2⟩
 have key:∀ j,j<s.locks.length→nth (setS p s i m).locks j=if j=i then zdj (nth p.routes i) (zc6 s) m (nth s.locks i) else if j<i then itS p s j (nth s.locks j) else nth s.locks j:=fun j hj=>by
  show nth ((zb4 (itS p s) i s.locks).set i _) j=_
  rw[za4 _ _ _ _ (by rw[zaW];exact hi),updI_at _ _ hj]
 refine ⟨rfl,rfl,by show ((zb4 (itS p s) i s.locks).set i _).length=_;rw[List.length_set,zaW],fun j hj=>?_,fun j hj=>?_⟩
 ·rw[key j hj]
  split
  ·rename_i e;subst e;exact (both m j hj).1
  ·split
   ·exact (both 10 j hj).1
   ·exact .inl rfl
 ·rw[key j hj]
  split
  ·rename_i e;subst e;exact (both m j hj).2
  ·split
   ·exact (both 10 j hj).2
   ·exact zcH (zad h).2.1 hj
theorem znD {p:Pln} {s:State} (h:zag p s=0):s.locks.mapIdx (itS p s)=(zc5 p s).locks:=by
 refine ext_nth (by simp[zc5]) fun i hi=>?_
 have hi':i<s.locks.length:=by simpa using hi
 obtain ⟨hr,h2,h3,h4⟩:=zjk h hi'
 rw[ziM _ hi',setl_at h hi']
 exact zkU h4 h2 (zcO (zar h) hr).2.1 h3
theorem znC (hH:HasAll P inv) (p:Pln) (hp:Sm p) (s:State) (hs:SmS s) (hst:zag p s=0):PO P inv 370 [.agg p.c,.agg s.c] (zgN 5 (zc5 p s)) (zeZ 5 (zc5 p s)):=by
 have c1:=zeb hH s hs
 have hpl:=zan (zad hst).2.1
 have hS:∀ i m,i<s.locks.length→PC P inv 372 [.agg p.c,.agg (setS p s i m).c,.agg (zdj (nth p.routes i) (zc6 s) m (nth s.locks i)).c,.n i] (·=.agg (zdj (nth p.routes i) (zc6 s) (m+1) (nth s.locks i)).c):=fun i m hi=>by
  have hon:=setS_on hst hi m
  have hc:=hon.code hst
  obtain ⟨hr,h2,h3,h4⟩:=zjk hst hi
  rw[ziP]
  refine zlI hH p hp _ (by omega) (zc6 s) (fun n hn=>?_) h2 (zcO (zar hst) hr).2.1 _ (zjR h2 h3 m _ h4).2
  obtain ⟨q,hq,e⟩:=(zcc (zar hst) hr).1 n (List.mem_append.2 (.inl hn))
  exact zjT hH p hp _ (hon.sm hst hs) hc (List.any_eq_true.2 ⟨q,hq,by simpa using e⟩)
 have hEE:=znD hst
 have e1:(zc5 p s).tracks=s.tracks:=rfl
 have e2:(zc5 p s).switches=s.switches:=rfl
 have hLl:(zc5 p s).locks.length=s.locks.length:=zmR p s
 obtain ⟨h1,h2,h3⟩:=hs
 unfold setS at hS
 clear hst
 generalize zc5 p s=T at *
 generalize hit:itS p s=F at *
 have hit2:∀ i,i<s.locks.length→F i (nth s.locks i)=zdj (nth p.routes i) (zc6 s) 10 (nth s.locks i):=fun i _=>by rw[←hit];rfl
 clear hit
 generalize zc6 s=q at *
 unfold stV stR at c1
 refine PO.fn hH cd370 fun w0 M Q hM hE hQ hR=>?_;dsimp only[cd370,qm,ql,qf,qi,qb,qc,qp,qv,qN,qT,qF,qt]at hQ ⊢
 (repeat' first|refine zaa [0,1,2,3,4,5,6,13,17] fun K hK=>?_|(refine hK.go ?_;clear hK K)|with_reducible exact wT|refine wA ?_|(refine wB (fun h=>?_) (fun h=>?_)<;>first|exact wN h|subst (h:(_:Bool)=_)|skip)|(refine wR ?_;clear hQ hR hE hM)|refine wO c1 ?_|fail)
 refine zai (ι:=Nat) [2,3,4,5] (fun z=>[(5,.n z)]) (fun z=>[(7,.cells ((zb4 F z s.locks).map Lock.c).flatten (decide (0<s.locks.length)))]) (fun z=>z) (s.locks.length) (fun _=>True) (0) ?_;rintro i ⟨hk,-⟩;(try dsimp only at hk ⊢);rcases Nat.lt_or_ge i s.locks.length with hlt|hge
 ·have hi9:i<s.locks.length:=by assumption
  have e1':=zbo F hi9
  have en:=zbe F hi9
  have hlen:(zb4 F i s.locks).length=s.locks.length:=zaW F i s.locks
  have hitF:=hit2 i hi9
  have hSi:=fun m=>hS i m hi9
  generalize hU:zb4 F i s.locks=U at *
  have hkU:i<U.length:=by omega
  have hid:U.set i (nth s.locks i)=U:=by rw[←en,zaE hkU,List.set_getElem_self]
  (repeat' first|refine zaa [0,1,2,3,4,5,6,13,17] fun K hK=>?_|(refine hK.go ?_;clear hK K)|with_reducible exact wT|refine wA ?_|(refine wB (fun h=>?_) (fun h=>?_)<;>first|exact wN h|subst (h:(_:Bool)=_)|skip)|(refine wR ?_;clear hQ hR hE hM)|fail)
  rw[←hid]
  refine zai (ι:=Nat×Lock) [2,3,4,5,6] (fun z=>[(6,.n z.1)]) (fun z=>[(7,.cells ((U.set i z.2).map Lock.c).flatten (decide (0<s.locks.length)))]) (fun z=>z.1) (10) (fun z=>(z.2=zdj (nth p.routes i) q z.1 (nth s.locks i))) (0,nth s.locks i) ?_;rintro ⟨m,l9⟩ ⟨hk,hl⟩;(try dsimp only at hk hl ⊢);rcases Nat.lt_or_ge m 10 with hlt|hge
  ·have hm9:m<10:=by assumption
   have cs:=hSi m
   rw[←hl]at cs
   generalize hn9:zdj (nth p.routes i) q (m+1) (nth s.locks i)=nx at *
   have fa:zcm ((U.set i l9).map Lock.c).flatten (i*4) (some 4)=some (.agg l9.c):=by
    rw[zeG (c:=Lock.c) (l:=U.set i l9) (k:=i) (by simpa using hkU) (by omega),zei hkU]
   have fc:zbS 4 s.locks.length ((U.set i l9).map Lock.c).flatten=(U.set i l9).map Lock.c:=by
    have:=zcw (c:=Lock.c) (U.set i l9)
    rw[List.length_set,hlen]at this
    exact this
   clear hSi hS hitF
   (have hX:=zA @fa (zA @fc (zA @hlen (zA (zg4 hkU) (zA (zbs hkU) (zA (zbr hkU) (zbq hkU))))));(repeat' first|refine zaa [0,1,2,3,4,5,6,13,17] fun K hK=>?_|(refine hK.go ?_;clear hK K)|with_reducible exact wT|refine wA ?_|(refine wB (fun h=>?_) (fun h=>?_)<;>first|exact wN h|subst (h:(_:Bool)=_)|skip)|(refine wR ?_;clear hQ hR hE hM)|refine wP cs ?_|refine wS cs ?_|fail);all_goals clear hX)
   all_goals first|(exfalso;contradiction)|exact ⟨(m+1,nx),by dsimp only;omega,⟨by dsimp only;omega,hn9.symm⟩,by dsimp only;omega,rfl⟩|trace_state
  ·obtain rfl:m=10:=by omega
   have hfin:U.set i l9=zb4 F (i+1) s.locks:=by rw[hl,←hitF];exact e1'
   clear hSi hS hitF
   (repeat' first|refine zaa [0,1,2,3,4,5,6,13,17] fun K hK=>?_|(refine hK.go ?_;clear hK K)|with_reducible exact wT|refine wA ?_|(refine wB (fun h=>?_) (fun h=>?_)<;>first|exact wN h|subst (h:(_:Bool)=_)|skip)|(refine wR ?_;clear hQ hR hE hM)|fail)
   all_goals first|(exfalso;contradiction)|exact ⟨i+1,by omega,by omega,by omega,by rw[hfin]⟩|trace_state
 ·rw[zfc _ (by omega),hEE]
  clear hS hit2 hEE
  (repeat' first|refine zaa [0,1,2,3,4,5,6,13,17] fun K hK=>?_|(refine hK.go ?_;clear hK K)|with_reducible exact wT|refine wA ?_|(refine wB (fun h=>?_) (fun h=>?_)<;>first|exact wN h|subst (h:(_:Bool)=_)|skip)|(refine wR ?_;clear hQ hR hE hM)|fail)
  all_goals (left;unfold zgN zeZ;rw[e1,e2,hLl];constructor)
  all_goals (refine no_implicit_lambda% (st ?_);try with_reducible exact wT)
end Go.Lev
namespace Go.Lev
open Go.Eng
set_option maxRecDepth 10000
set_option maxHeartbeats 4000000
variable {P:Program} {inv:Nat→Option Nat} {w0:World} {M:Nat→Prop}
theorem zku (hH:HasAll P inv) (p:Pln) (hp:Sm p) (s:State) (hs:SmS s):PC P inv 363 [.agg p.c,.agg s.c] (·=.tup [.agg (zjl p s).c,.n (zag p s)]):=by
 have c0:=zc2 hH p hp s hs
 unfold zjl
 by_cases hst:zag p s=0
 ·have c1:=(znC hH p hp s hs hst).pc
  rw[zkj]at c1
  rw[hst]at c0 ⊢
  rw[if_pos rfl]
  generalize zc5 p s=T at *
  clear hst
  refine PC.fn hH cd363 fun w0 M Q hM hE hQ hR=>?_;dsimp only[cd363,qm,ql,qf,qi,qb,qc,qp,qv,qN,qT,qF,qt]at hQ ⊢
  (repeat' first|refine zaa [0,1,2,3,4,5,6,11] fun K hK=>?_|(refine hK.go ?_;clear hK K)|with_reducible exact wT|refine wA ?_|(refine wB (fun h=>?_) (fun h=>?_)<;>first|exact wN h|subst (h:(_:Bool)=_)|skip)|(refine wQ ?_;clear hQ hR hE hM)|refine wC c0 ?_|refine wC c1 ?_|fail)
  all_goals first|rfl|(exfalso;contradiction)|trace_state
 ·rw[if_neg hst]
  unfold State.z
  generalize zag p s=e at *
  refine PC.fn hH cd363 fun w0 M Q hM hE hQ hR=>?_;dsimp only[cd363,qm,ql,qf,qi,qb,qc,qp,qv,qN,qT,qF,qt]at hQ ⊢
  (repeat' first|refine zaa [0,1,2,3,4,5,6,11] fun K hK=>?_|(refine hK.go ?_;clear hK K)|with_reducible exact wT|refine wA ?_|(refine wB (fun h=>?_) (fun h=>?_)<;>first|exact wN h|subst (h:(_:Bool)=_)|skip)|(refine wQ ?_;clear hQ hR hE hM)|refine wC c0 ?_|fail)
  all_goals first|rfl|(exfalso;contradiction)|trace_state
theorem passSettles_pc (hH:HasAll P inv) (hI:HasIds P inv) (p:Pln) (hp:Pln.ok p) (s:State):PC P inv 357 [.agg p.c,.agg s.c] (·=.b true):=by
 have c1:=zgF hH p
 have c2:=zkq hH s
 cases g1:ziT p with
 |true =>
  rw[g1]at c1
  refine PC.fn hH cd357 fun w0 M Q hM hE hQ hR=>?_;dsimp only[cd357,qm,ql,qf,qi,qb,qc,qp,qv,qN,qT,qF,qt]at hQ ⊢
  (repeat' first|refine zaa [0,1,2,3,4,5,6,7,8,9,10,11,17,40,45,57] fun K hK=>?_|(refine hK.go ?_;clear hK K)|with_reducible exact wT|refine wA ?_|(refine wB (fun h=>?_) (fun h=>?_)<;>first|exact wN h|subst (h:(_:Bool)=_)|skip)|(refine wQ ?_;clear hQ hR hE hM)|refine wC c1 ?_|fail)
 |false =>
  rw[g1]at c1
  cases g2:zjV s with
  |true =>
   rw[g2]at c2
   refine PC.fn hH cd357 fun w0 M Q hM hE hQ hR=>?_;dsimp only[cd357,qm,ql,qf,qi,qb,qc,qp,qv,qN,qT,qF,qt]at hQ ⊢
   (repeat' first|refine zaa [0,1,2,3,4,5,6,7,8,9,10,11,17,40,45,57] fun K hK=>?_|(refine hK.go ?_;clear hK K)|with_reducible exact wT|refine wA ?_|(refine wB (fun h=>?_) (fun h=>?_)<;>first|exact wN h|subst (h:(_:Bool)=_)|skip)|(refine wQ ?_;clear hQ hR hE hM)|refine wC c1 ?_|refine wC c2 ?_|fail)
  |false =>
   rw[g2]at c2
   have sp:=sm_of hp g1
   have ss:=smS_of g2
   have c3:=zeb hH s ss
   have c4:=zku hH p sp s ss
   have c7:=zbV hH ss (rfl:s=s)
   have hl1:=ss.1
   have hl2:=ss.2.1
   have hl3:=ss.2.2
   unfold stV stR at c3
   by_cases he:zag p s=0
   ·have c8:=zks hH hI p sp s ss he
    have sT:=setl_sm (p:=p) ss
    rw[he,show zjl p s=zc5 p s by unfold zjl;rw[if_pos he]]at c4
    have c9:=zbV hH sT (rfl:zc5 p s=zc5 p s)
    have hnr:=zjG 5 (zc5 p s)
    have hl4:=sT.1
    have hl5:=sT.2.2
    have hl6:=sT.2.1
    clear he
    generalize zc5 p s=T at *
    unfold zgN zeZ at c8
    unfold zeZ at hnr
    refine PC.fn hH cd357 fun w0 M Q hM hE hQ hR=>?_;dsimp only[cd357,qm,ql,qf,qi,qb,qc,qp,qv,qN,qT,qF,qt]at hQ ⊢
    (repeat' first|refine zaa [0,1,2,3,4,5,6,7,8,9,10,11,17,40,45,57] fun K hK=>?_|(refine hK.go ?_;clear hK K)|with_reducible exact wT|refine wA ?_|(refine wB (fun h=>?_) (fun h=>?_)<;>first|exact wN h|subst (h:(_:Bool)=_)|skip)|(refine wQ ?_;clear hQ hR hE hM)|refine wC c1 ?_|refine wC c2 ?_|refine wO c3 ?_|refine wV c8 ?_|refine wC c4 ?_|refine wS c9 ?_|fail)
    all_goals first|(exfalso;contradiction)|skip
    refine zai (ι:=Nat) [3,4,5,6,10] (fun z=>[(10,.n z)]) (fun z=>[(15,.cells ((zb4 k9 z T.locks).map Lock.c).flatten (decide (0<T.locks.length)))]) (fun z=>z) (T.locks.length) (fun _=>True) (0) ?_;rintro k2 ⟨hk,-⟩;(try dsimp only at hk ⊢);rcases Nat.lt_or_ge k2 T.locks.length with hlt|hge
    ·have hlt2:k2<T.locks.length:=by assumption
     have d1:=zbo k9 hlt2
     have d2:=zbt (c:=Lock.c) (l:=zb4 k9 k2 T.locks) (k:=k2) (i:=1) (by rw[zaW];exact hlt2) (by omega) (.i .u8 9) (k9 k2 (nth T.locks k2)) (by rw[zbe _ hlt2];rfl)
     rw[d1]at d2
     (have hX:=@d2;(repeat' first|refine zaa [0,1,2,3,4,5,6,7,8,9,10,11,17,40,45,57] fun K hK=>?_|(refine hK.go ?_;clear hK K)|with_reducible exact wT|refine wA ?_|(refine wB (fun h=>?_) (fun h=>?_)<;>first|exact wN h|subst (h:(_:Bool)=_)|skip)|(refine wQ ?_;clear hQ hR hE hM)|fail);all_goals clear hX)
     all_goals first|(exfalso;contradiction)|exact ⟨k2+1,by omega,by omega,by omega,rfl⟩|trace_state
    ·(repeat' first|refine zaa [0,1,2,3,4,5,6,7,8,9,10,11,17,40,45,57] fun K hK=>?_|(refine hK.go ?_;clear hK K)|with_reducible exact wT|refine wA ?_|(refine wB (fun h=>?_) (fun h=>?_)<;>first|exact wN h|subst (h:(_:Bool)=_)|skip)|(refine wQ ?_;clear hQ hR hE hM)|fail)
     refine zai (ι:=Nat) [3,4,5,6,11] (fun z=>[(11,.n z)]) (fun z=>[(13,.cells ((zb4 t9 z T.tracks).map Track.c).flatten (decide (0<T.tracks.length)))]) (fun z=>z) (T.tracks.length) (fun _=>True) (0) ?_;rintro k3 ⟨hk,-⟩;(try dsimp only at hk ⊢);rcases Nat.lt_or_ge k3 T.tracks.length with hlt|hge
     ·have hlt2:k3<T.tracks.length:=by assumption
      have d1:=zbo t9 hlt2
      have d2:=zbt (c:=Track.c) (l:=zb4 t9 k3 T.tracks) (k:=k3) (i:=1) (by rw[zaW];exact hlt2) (by omega) (.i .u8 9) (t9 k3 (nth T.tracks k3)) (by rw[zbe _ hlt2];rfl)
      rw[d1]at d2
      (have hX:=@d2;(repeat' first|refine zaa [0,1,2,3,4,5,6,7,8,9,10,11,17,40,45,57] fun K hK=>?_|(refine hK.go ?_;clear hK K)|with_reducible exact wT|refine wA ?_|(refine wB (fun h=>?_) (fun h=>?_)<;>first|exact wN h|subst (h:(_:Bool)=_)|skip)|(refine wQ ?_;clear hQ hR hE hM)|fail);all_goals clear hX)
      all_goals first|(exfalso;contradiction)|exact ⟨k3+1,by omega,by omega,by omega,rfl⟩|trace_state
     ·(repeat' first|refine zaa [0,1,2,3,4,5,6,7,8,9,10,11,17,40,45,57] fun K hK=>?_|(refine hK.go ?_;clear hK K)|with_reducible exact wT|refine wA ?_|(refine wB (fun h=>?_) (fun h=>?_)<;>first|exact wN h|subst (h:(_:Bool)=_)|skip)|(refine wQ ?_;clear hQ hR hE hM)|refine wS c7 ?_|fail)
      all_goals first|rfl|(exfalso;contradiction)|trace_state
   ·have c8:=zoN hH hI p sp s ss
    have e1:zjl p s=State.z:=by unfold zjl;rw[if_neg he]
    have c9:=zbV hH (a:=State.z) ⟨by decide,by decide,by decide⟩ (rfl:State.z=State.z)
    rw[e1]at c4 c8
    unfold State.z at c4 c8 c9
    clear e1
    generalize zag p s=e at *
    refine PC.fn hH cd357 fun w0 M Q hM hE hQ hR=>?_;dsimp only[cd357,qm,ql,qf,qi,qb,qc,qp,qv,qN,qT,qF,qt]at hQ ⊢
    (repeat' first|refine zaa [0,1,2,3,4,5,6,7,8,9,10,11,17,40,45,57] fun K hK=>?_|(refine hK.go ?_;clear hK K)|with_reducible exact wT|refine wA ?_|(refine wB (fun h=>?_) (fun h=>?_)<;>first|exact wN h|subst (h:(_:Bool)=_)|skip)|(refine wQ ?_;clear hQ hR hE hM)|refine wC c1 ?_|refine wC c2 ?_|refine wO c3 ?_|refine wS c8 ?_|refine wC c4 ?_|refine wS c9 ?_|fail)
    all_goals first|(exfalso;contradiction)|skip
    refine zai (ι:=Nat) [3,4,5,6,10] (fun z=>[(10,.n z)]) (fun _=>[]) (fun z=>z) (0) (fun _=>True) (0) ?_;rintro k ⟨hk,-⟩;(try dsimp only at hk ⊢);rcases Nat.lt_or_ge k 0 with hlt|hge
    ·exact absurd hlt (by omega)
    ·(repeat' first|refine zaa [0,1,2,3,4,5,6,7,8,9,10,11,17,40,45,57] fun K hK=>?_|(refine hK.go ?_;clear hK K)|with_reducible exact wT|refine wA ?_|(refine wB (fun h=>?_) (fun h=>?_)<;>first|exact wN h|subst (h:(_:Bool)=_)|skip)|(refine wQ ?_;clear hQ hR hE hM)|fail)
     refine zai (ι:=Nat) [3,4,5,6,11] (fun z=>[(11,.n z)]) (fun _=>[]) (fun z=>z) (0) (fun _=>True) (0) ?_;rintro k2 ⟨hk,-⟩;(try dsimp only at hk ⊢);rcases Nat.lt_or_ge k2 0 with hlt|hge
     ·exact absurd (show k2<0 by assumption) (by omega)
     ·(repeat' first|refine zaa [0,1,2,3,4,5,6,7,8,9,10,11,17,40,45,57] fun K hK=>?_|(refine hK.go ?_;clear hK K)|with_reducible exact wT|refine wA ?_|(refine wB (fun h=>?_) (fun h=>?_)<;>first|exact wN h|subst (h:(_:Bool)=_)|skip)|(refine wQ ?_;clear hQ hR hE hM)|refine wS c7 ?_|fail)
      all_goals first|rfl|(exfalso;contradiction)|trace_state
end Go.Lev
