/-
  A part of the engine that walks the functions' codes, and of the functions' contracts. Conditions: those that each theorem names.
-/
import Derived.Test.YthjfjbajmhkbbaaGreatL8
import Derived.IntWalk
set_option linter.unusedSimpArgs false
set_option linter.unusedVariables false
set_option linter.unusedSectionVars false
namespace Go.Lev
open Go.Eng
set_option maxRecDepth 10000
set_option maxHeartbeats 4000000
variable {P:Program} {inv:Nat→Option Nat}
theorem idx_lck (hH:HasAll P inv) {jc:Nat} {caps:List AV} {p:Lock→Bool} (l:List Lock) (hc:∀ x∈l,PC P inv jc ([.agg x.c]++caps) (·=.b (p x))) (hl:l.length≤1000000000):PC P inv 173 [.sl 4 (l.map Lock.c),.fn jc caps] (·=.n (zbd p 0 l)):=by
 refine PC.fn hH cd173 fun w0 M Q hM hE hQ hR=>?_;dsimp only[cd173,qm,ql,qf,qi,qb,qc,qp,qv,qN,qT,qF,qt]at hQ ⊢
 (repeat' first|refine zaa [0,1,4,5,7,8,9,16] fun K hK=>?_|(refine hK.go ?_;clear hK K)|with_reducible exact wT|refine wA ?_|(refine wB (fun h=>?_) (fun h=>?_)<;>first|exact wN h|subst (h:(_:Bool)=_)|skip)|(refine wQ ?_;clear hQ hR hE hM)|fail)
 refine zcm (fun k=>[(0,.sl 4 (l.map Lock.c)),(1,.fn jc caps),(7,.n l.length),(8,.n k)]) (fun k=>[]) (l.length) (fun k=>zbd p k (l.drop k)=zbd p 0 l) ?_;rintro k ⟨hk,hg⟩;rcases Nat.lt_or_ge k l.length with hlt|hge
 ·rw[zaf hlt]at hg
  rw[zbd]at hg
  (repeat' first|refine zaa [0,1,4,5,7,8,9,16] fun K hK=>?_|(refine hK.go ?_;clear hK K)|with_reducible exact wT|refine wA ?_|(refine wB (fun h=>?_) (fun h=>?_)<;>first|exact wN h|subst (h:(_:Bool)=_)|skip)|(refine wQ ?_;clear hQ hR hE hM)|(refine zaA hM (hc _ (zab hlt)) ?_;try (refine no_implicit_lambda% (st ?_);try with_reducible exact wT))|fail)
  ·rw[←hg,if_pos h]
  ·exact ⟨k+1,by omega,⟨by omega,by rw[←hg,if_neg (by rw[h];simp)];rfl⟩,(by (try dsimp only);(first|omega|(simp;done)|(simp;omega)))⟩
 ·rw[List.drop_eq_nil_of_le hge]at hg
  (repeat' first|refine zaa [0,1,4,5,7,8,9,16] fun K hK=>?_|(refine hK.go ?_;clear hK K)|with_reducible exact wT|refine wA ?_|(refine wB (fun h=>?_) (fun h=>?_)<;>first|exact wN h|subst (h:(_:Bool)=_)|skip)|(refine wQ ?_;clear hQ hR hE hM)|fail)
  rw[←hg];rfl
end Go.Lev
namespace Go.Eng
open Go.RowKit
section
variable {P:Program} {inv:Nat→Option Nat} {w0:World} {M:Nat→Prop} {n N:Nat} {φ:AF} {σ:AS}
theorem AWp.midP (ks:List Nat) (m:List (Nat×AV)) (A:Prop) {x y:ACode} {Q:Exit→AF→AS→Prop} (h1:AWp P inv w0 M N n x (zok (midK A (zhY m (zeK ks φ)) σ) Q) φ σ) (h2:A→AWp P inv w0 M N n y Q (zhY m (zeK ks φ)) σ):AWp P inv w0 M N n (.seq x y) Q φ σ :=
 AWp.seq fun K hK=>by
  refine AWp.mono ?_ h1
  intro e φ' σ' q
  cases e with
  |normal=>exact hK _ _ ((h2 q.1).sub q.2.1 q.2.2)
  |exit id=>exact q
  |goto l=>exact q
  |ret=>exact q
  |panic ch=>exact q
  |outgrown=>exact q
end
end Go.Eng
namespace Go.Eng
open Go.RowKit
section
variable {S R:Type} {body:Nat→S→(S→R)→R} {fin:S→R} {n k:Nat} {s:S}
end
section
variable {f f':Nat→Option (List AV)} {g:Nat→Bool} (h:∀ l,g l=true→f' l=f l)
include h
end
section
variable (k:Nat) (σ:List (Nat×AO))
end
section
variable {P:Program} {inv:Nat→Option Nat} {w0:World} {M:Nat→Prop} {σ:AS}
end
section
variable {P:Program} {inv:Nat→Option Nat} {w0:World} {M:Nat→Prop} {n N:Nat} {φ:AF} {σ:AS}
theorem zaH {x r:ACode} {Q:Exit→AF→AS→Prop} (l:Nat) (hf:ziH x l=some r) (h:AWp P inv w0 M N n x (ziy l (fun _ _=>False) Q) φ σ):AWp P inv w0 M N n (.scope x) Q φ σ :=
 AWp.scope l hf (fun _ _ _=>False) (AWp.mono (fun e φ' σ' q=>by
  cases e with
  |goto l'=>exact q.2.elim
  |normal=>exact q
  |exit id=>exact q
  |ret=>exact q
  |panic ch=>exact q
  |outgrown=>exact q) h) fun _ _ _ h=>h.elim
variable {l:Nat} {J:AF→AS→Prop} {Q:Exit→AF→AS→Prop}
end
section
variable {P:Program} {inv:Nat→Option Nat} {w0:World} {M:Nat→Prop} {n N:Nat} {φ:AF} {σ:AS}
theorem AWp.sqpC (ks:List Nat) {l:List GOp} {c:Opd} {u v y:ACode} {Q:Exit→AF→AS→Prop} (h:∀ K:AF→AS→Prop,Cont K (AWp P inv w0 M N n y Q)→AWp P inv w0 M N n (.seq (.reg l) (.cond c u v)) (zok (pk ks K) Q) φ σ):AWp P inv w0 M N n (.seq (.seq (.reg l) (.cond c u v)) y) Q φ σ:=zaa ks h
theorem AWp.sqpD (ks:List Nat) {k:Nat} {l:List GOp} {c:Opd} {u v y:ACode} {Q:Exit→AF→AS→Prop} (h:∀ K:AF→AS→Prop,Cont K (AWp P inv w0 M N n y Q)→AWp P inv w0 M N n (.seq (.regd k l) (.cond c u v)) (zok (pk ks K) Q) φ σ):AWp P inv w0 M N n (.seq (.seq (.regd k l) (.cond c u v)) y) Q φ σ:=zaa ks h
end
end Go.Eng
namespace Go.Lev
open Go.Eng
set_option maxRecDepth 10000
set_option maxHeartbeats 4000000
variable {P:Program} {inv:Nat→Option Nat} {w0:World} {M:Nat→Prop}
theorem zpQ (hH:HasAll P inv) (l:List Track) (v:Track) (hl:l.length≤1000000000):PC P inv 184 [.sl 2 (l.map Track.c),.agg v.c] (·=.n (zbd (fun x=>decide (v.id=x.id)&&decide (v.is=x.is)) 0 l)):=by
 refine PC.fn hH cd184 fun w0 M Q hM hE hQ hR=>?_;dsimp only[cd184,qm,ql,qf,qi,qb,qc,qp,qv,qN,qT,qF,qt]at hQ ⊢
 (repeat' first|refine zaa [0,1,3,4,5,7,8,9,16] fun K hK=>?_|(refine hK.go ?_;clear hK K)|with_reducible exact wT|refine wA ?_|(refine wB (fun h=>?_) (fun h=>?_)<;>first|exact wN h|subst (h:(_:Bool)=_)|skip)|(refine wQ ?_;clear hQ hR hE hM)|fail)
 refine zae (ι:=Nat) [0,3,4,7,8] (fun z=>[(8,.n z)]) (fun _=>[]) (fun z=>z) (l.length) (fun z=>(zbd (fun x=>decide (v.id=x.id)&&decide (v.is=x.is)) z (l.drop z)=zbd (fun x=>decide (v.id=x.id)&&decide (v.is=x.is)) 0 l)) (0) ?_;rintro k ⟨hk,hg⟩;(try dsimp only at hk hg ⊢);rcases Nat.lt_or_ge k l.length with hlt|hge
 ·rw[zaf hlt]at hg
  rw[zbd]at hg
  cases ht:decide (v.id=(nth l k).id)&&decide (v.is=(nth l k).is) with
  |true =>
   rw[if_pos ht]at hg
   (have hX:=@ht;(repeat' first|refine zaa [0,1,3,4,5,7,8,9,16] fun K hK=>?_|(refine hK.go ?_;clear hK K)|with_reducible exact wT|refine wA ?_|(refine wB (fun h=>?_) (fun h=>?_)<;>first|exact wN h|subst (h:(_:Bool)=_)|skip)|(refine wQ ?_;clear hQ hR hE hM)|fail);all_goals clear hX)
   all_goals first|exact hg|(exfalso;contradiction)
  |false =>
   rw[if_neg (by rw[ht];simp)]at hg
   (have hX:=@ht;(repeat' first|refine zaa [0,1,3,4,5,7,8,9,16] fun K hK=>?_|(refine hK.go ?_;clear hK K)|with_reducible exact wT|refine wA ?_|(refine wB (fun h=>?_) (fun h=>?_)<;>first|exact wN h|subst (h:(_:Bool)=_)|skip)|(refine wQ ?_;clear hQ hR hE hM)|fail);all_goals clear hX)
   all_goals first|(exfalso;contradiction)|exact ⟨k+1,by omega,⟨by omega,hg⟩,by omega⟩
 ·rw[List.drop_eq_nil_of_le hge]at hg
  (repeat' first|refine zaa [0,1,3,4,5,7,8,9,16] fun K hK=>?_|(refine hK.go ?_;clear hK K)|with_reducible exact wT|refine wA ?_|(refine wB (fun h=>?_) (fun h=>?_)<;>first|exact wN h|subst (h:(_:Bool)=_)|skip)|(refine wQ ?_;clear hQ hR hE hM)|fail)
  rw[←hg];rfl
theorem has_trk (hH:HasAll P inv) (l:List Track) (v:Track) (hl:l.length≤1000000000):PC P inv 176 [.sl 2 (l.map Track.c),.agg v.c] (·=.b (l.any fun x=>decide (v.id=x.id)&&decide (v.is=x.is))):=by
 have c1:=zpQ hH l v hl
 have e:=zl2 (fun x:Track=>decide (v.id=x.id)&&decide (v.is=x.is)) l
 revert c1 e
 generalize zbd (fun x:Track=>decide (v.id=x.id)&&decide (v.is=x.is)) 0 l=i
 generalize (l.any fun x=>decide (v.id=x.id)&&decide (v.is=x.is))=t
 intro c1 e
 refine PC.fn hH cd176 fun w0 M Q hM hE hQ hR=>?_;dsimp only[cd176,qm,ql,qf,qi,qb,qc,qp,qv,qN,qT,qF,qt]at hQ ⊢
 (have hX:=@e;(repeat' first|refine zaa [0,1,3,4] fun K hK=>?_|(refine hK.go ?_;clear hK K)|with_reducible exact wT|refine wA ?_|(refine wB (fun h=>?_) (fun h=>?_)<;>first|exact wN h|subst (h:(_:Bool)=_)|skip)|(refine wQ ?_;clear hQ hR hE hM)|refine wC c1 ?_|fail);all_goals clear hX)
theorem free_pc (hH:HasAll P inv) (s:State) (hs:s.tracks.length≤1000000000) (n:Int):PC P inv 181 [.agg s.c,.n n] (·=.b (frT s n)):=by
 have c1:=has_trk hH s.tracks ⟨n,0⟩ hs
 rw[show (s.tracks.any fun x=>decide ((⟨n,0⟩:Track).id=x.id)&&decide ((⟨n,0⟩:Track).is=x.is))=frT s n from rfl]at c1
 refine PC.fn hH cd181 fun w0 M Q hM hE hQ hR=>?_;dsimp only[cd181,qm,ql,qf,qi,qb,qc,qp,qv,qN,qT,qF,qt]at hQ ⊢
 (repeat' first|refine zaa [0,1,2,4] fun K hK=>?_|(refine hK.go ?_;clear hK K)|with_reducible exact wT|refine wA ?_|(refine wB (fun h=>?_) (fun h=>?_)<;>first|exact wN h|subst (h:(_:Bool)=_)|skip)|(refine wQ ?_;clear hQ hR hE hM)|refine wC c1 ?_|fail)
theorem is189_pc (hH:HasAll P inv) (n:Int) (x:Pnt):PC P inv 189 ([.agg x.c]++[.ip 1 [[.n n]] 0 0]) (·=.b (decide (x.id=n))):=by
 refine PC.fn hH cd189 fun w0 M Q hM hE hQ hR=>?_;dsimp only[cd189,qm,ql,qf,qi,qb,qc,qp,qv,qN,qT,qF,qt]at hQ ⊢
 (repeat' first|refine zaa [0,1,2,3] fun K hK=>?_|(refine hK.go ?_;clear hK K)|with_reducible exact wT|refine wA ?_|(refine wB (fun h=>?_) (fun h=>?_)<;>first|exact wN h|subst (h:(_:Bool)=_)|skip)|(refine wQ ?_;clear hQ hR hE hM)|fail)
theorem zmU (hH:HasAll P inv) (n:Int) (x:Switch):PC P inv 183 ([.agg x.c]++[.ip 1 [[.n n]] 0 0]) (·=.b (decide (x.id=n))):=by
 refine PC.fn hH cd183 fun w0 M Q hM hE hQ hR=>?_;dsimp only[cd183,qm,ql,qf,qi,qb,qc,qp,qv,qN,qT,qF,qt]at hQ ⊢
 (repeat' first|refine zaa [0,1,2,3] fun K hK=>?_|(refine hK.go ?_;clear hK K)|with_reducible exact wT|refine wA ?_|(refine wB (fun h=>?_) (fun h=>?_)<;>first|exact wN h|subst (h:(_:Bool)=_)|skip)|(refine wQ ?_;clear hQ hR hE hM)|fail)
theorem is180_pc (hH:HasAll P inv) (n:Int) (x:Lock):PC P inv 180 ([.agg x.c]++[.ip 1 [[.n n]] 0 0]) (·=.b (decide (x.id=n))):=by
 refine PC.fn hH cd180 fun w0 M Q hM hE hQ hR=>?_;dsimp only[cd180,qm,ql,qf,qi,qb,qc,qp,qv,qN,qT,qF,qt]at hQ ⊢
 (repeat' first|refine zaa [0,1,2,3] fun K hK=>?_|(refine hK.go ?_;clear hK K)|with_reducible exact wT|refine wA ?_|(refine wB (fun h=>?_) (fun h=>?_)<;>first|exact wN h|subst (h:(_:Bool)=_)|skip)|(refine wQ ?_;clear hQ hR hE hM)|fail)
theorem lies_pc (hH:HasAll P inv) (p:Pln) (hl:p.points.length≤1000000000) {k:Nat} (hk:k<p.points.length) {n:Int} (he:zbd (fun x=>decide (Pnt.id x=n)) 0 p.points=(k:Int)):PC P inv 182 [.agg p.c,.n n] (·=.n (nth p.points k).sec):=by
 have c1:=zhT hH p.points (fun x _=>is189_pc hH n x) hl
 rw[he]at c1
 refine PC.fn hH cd182 fun w0 M Q hM hE hQ hR=>?_;dsimp only[cd182,qm,ql,qf,qi,qb,qc,qp,qv,qN,qT,qF,qt]at hQ ⊢
 (repeat' first|refine zaa [0,1,2,3,4] fun K hK=>?_|(refine hK.go ?_;clear hK K)|with_reducible exact wT|refine wA ?_|(refine wB (fun h=>?_) (fun h=>?_)<;>first|exact wN h|subst (h:(_:Bool)=_)|skip)|(refine wQ ?_;clear hQ hR hE hM)|refine wS c1 ?_|fail)
theorem zqp (hH:HasAll P inv) (s:State) (hl:s.switches.length≤1000000000) {k:Nat} (hk:k<s.switches.length) {n:Int} (he:zbd (fun x=>decide (Switch.id x=n)) 0 s.switches=(k:Int)):PC P inv 172 [.agg s.c,.n n] (·=.ip 3 (s.switches.map Switch.c) k 2):=by
 have c1:=zhR hH s.switches (fun x _=>zmU hH n x) hl
 rw[he]at c1
 refine PC.fn hH cd172 fun w0 M Q hM hE hQ hR=>?_;dsimp only[cd172,qm,ql,qf,qi,qb,qc,qp,qv,qN,qT,qF,qt]at hQ ⊢
 (repeat' first|refine zaa [0,1,2,3,4,5] fun K hK=>?_|(refine hK.go ?_;clear hK K)|with_reducible exact wT|refine wA ?_|(refine wB (fun h=>?_) (fun h=>?_)<;>first|exact wN h|subst (h:(_:Bool)=_)|skip)|(refine wQ ?_;clear hQ hR hE hM)|refine wS c1 ?_|fail)
end Go.Lev
namespace Go.Lev
open Go.Eng
set_option maxRecDepth 10000
set_option maxHeartbeats 4000000
variable {P:Program} {inv:Nat→Option Nat} {w0:World} {M:Nat→Prop}
theorem zin (ok:AskR→Bool) {e:Int} (he:¬e=0):∀ l,zqF ok e l=e
 |[]=>rfl
 |a::r=>by rw[zqF,if_neg he];exact zin ok he r
theorem zqE (ok:AskR→Bool):∀ l,zqF ok 0 l=if l.all ok=true then 0 else 183
 |[]=>rfl
 |a::r=>by
  rw[zqF,if_pos rfl,List.all_cons]
  cases h:ok a with
  |true=>rw[if_pos rfl,zqE ok r,Bool.true_and]
  |false=>rw[if_neg (by simp),zin ok (by decide)];simp
theorem zmA (p:Pln) (s:State) (i:Nat):setE p s i=zqF (zim p s (zau p s).2.1) (zcL (zau p s).1 (frT s) ((zai p (nth p.routes i)).1.path++(zai p (nth p.routes i)).1.over)) (zai p (nth p.routes i)).1.asks:=by
 unfold setE
 split
 ·rename_i h;rw[h,zqE]
 ·rename_i h;rw[zin _ h]
theorem zo7 {p:Pln} (h:OkP p) {k:Nat} (hk:k<p.points.length):zcn p (nth p.points k).id=(nth p.points k).sec:=by
 unfold zcn
 rw[zfH Pnt.id (zbJ h) hk rfl]
theorem zgb (hH:HasAll P inv) (hI:HasIds P inv) (p:Pln) (hp:Sm p) (s:State) (hs:SmS s) (n:Int):PC P inv 171 [.agg p.c,.agg s.c,.n n] (·=.tup [.agg (lkW p s n).c,.n (lkC p s n)]):=by
 have c0:=of_pc hH hI p hp s hs
 have c1:=idx_lck hH s.locks (fun x _=>is180_pc hH n x) (by have:=hs.2.2;omega)
 have hRl:=zhK p s
 have hRe:=zjH p s
 by_cases hst:zag p s=0
 ·have hok:=zar hst
  have hpa:=(zad hst).2.1
  have hpl:=zap hpa
  have hR:ofR p s=⟨(zau p s).1,(zau p s).2.1,za2 p,0⟩:=by unfold ofR;rw[if_pos hst]
  rw[hR]at c0 hRl
  dsimp only at c0 hRl
  have hW:lkW p s n=if zgG s n<0 then WayR.z else if (nth s.locks (zgG s n).toNat).phase=0 then (zai p (nth p.routes (zgG s n).toNat)).1 else WayR.z:=by unfold lkW;rw[if_pos hst]
  have hC:lkC p s n=if zgG s n<0 then 6 else if (nth s.locks (zgG s n).toNat).phase=0 then setE p s (zgG s n).toNat else 180:=by unfold lkC;rw[if_pos hst]
  rw[hW,hC]
  clear hW hC
  obtain ⟨G,Z,hg⟩:=GC.ex
  rw[←hg.eq]at c0
  have hfold:=hg.fold
  have hlen0:=hg.len (.s0 4) hg.zl hg.zl
  have hlen:=hg.len (.sl 4 ((za2 p).map Way.c)) hRl.1 hRl.2
  have hov:=hg.ov (.s0 4) (.sl 4 ((za2 p).map Way.c)) hg.zl hg.zl hRl.1 hRl.2
  have hbd0:=hg.bd0 Z Z
  have hbd:=hg.bd (zau p s).1 (zau p s).2.1 ((za2 p).map Way.c)
  have hba:=hg.ba (zau p s).1 (zau p s).2.1 ((za2 p).map Way.c)
  have hlix:zgG s n=zbd (fun x=>decide (Lock.id x=n)) 0 s.locks:=rfl
  rcases zav Lock.id n s.locks with ⟨h4,_⟩|⟨i,hi,h4,h5⟩
  ·rw[h4]at c1 hlix
   rw[hlix,if_pos (by decide),if_pos (by decide)]
   refine PC.fn hH cd171 fun w0 M Q hM hE hQ hR=>?_;dsimp only[cd171,qm,ql,qf,qi,qb,qc,qp,qv,qN,qT,qF,qt]at hQ ⊢
   (have hX:=zA @hfold (zA @hlen0 (zA @hlen (zA @hov (zA @hbd0 (zA @hbd @hba)))));(repeat' first|refine zaa [0,1,2,3,4,5,6,7,8,9,11,13,15,23,29,37,48,49,50,51,54,55,56,57,60,66,74,75,76,77,106,109] fun K hK=>?_|(refine hK.go ?_;clear hK K)|with_reducible exact wT|refine wA ?_|(refine wB (fun h=>?_) (fun h=>?_)<;>first|exact wN h|subst (h:(_:Bool)=_)|skip)|(refine zaH 0 rfl ?_;try (refine no_implicit_lambda% (st ?_);try with_reducible exact wT))|(refine wQ ?_;clear hQ hR hE hM)|refine wC c0 ?_|refine wS c1 ?_|fail);all_goals clear hX)
   all_goals first|rfl|(exfalso;contradiction)|skip
  ·rw[h4]at c1 hlix
   rw[hlix,if_neg (show ¬((i:Nat):Int)<0 by omega),if_neg (show ¬((i:Nat):Int)<0 by omega),Int.toNat_natCast]
   have hri:i<p.routes.length:=by omega
   have hlk:s.locks.length≤1000:=hs.2.2
   by_cases hph:(nth s.locks i).phase=0
   ·rw[if_pos hph,if_pos hph]
    have hr:=zab hri
    have hwp:=zbT ((zaS (zad hst).1).2.1 _ hr)
    have hwl:=zbC hok hr
    have hsec:∀ m∈(zai p (nth p.routes i)).1.path++(zai p (nth p.routes i)).1.over,0≤m∧m≤99:=fun m hm=>by
     rw[hwp.1,hwp.2.1]at hm
     obtain ⟨q,hq,rfl⟩:=(zcW hok hr).1 m hm
     have:=zcc hok hq
     omega
    have hask:∀ k,k<(zai p (nth p.routes i)).1.asks.length→0≤(nth (zai p (nth p.routes i)).1.asks k).pnt∧(nth (zai p (nth p.routes i)).1.asks k).pnt≤99 ∧
      (∃ j,j<s.switches.length∧PC P inv 172 [.agg s.c,.n (nth (zai p (nth p.routes i)).1.asks k).pnt] (·=.ip 3 (s.switches.map Switch.c) j 2)∧(nth s.switches j).call=zbh s (nth (zai p (nth p.routes i)).1.asks k).pnt) ∧
      PC P inv 182 [.agg p.c,.n (nth (zai p (nth p.routes i)).1.asks k).pnt] (·=.n (zcn p (nth (zai p (nth p.routes i)).1.asks k).pnt)):=fun k hk=>by
     obtain ⟨⟨x,hx,ex⟩,hb,_⟩:=zbI hok hr (zab hk)
     refine ⟨by omega,by omega, ?_, ?_⟩
     ·obtain ⟨y,hy,ey⟩:=zoq hpa (n:=(nth (zai p (nth p.routes i)).1.asks k).pnt) (List.any_eq_true.2 ⟨x,hx,by simpa using ex⟩)
      rcases zav Switch.id (nth (zai p (nth p.routes i)).1.asks k).pnt s.switches with ⟨_,q⟩|⟨j,hj,q1,q2⟩
      ·exact absurd ey (q y hy)
      ·exact ⟨j,hj,zqp hH s (by have:=hs.2.1;omega) hj q1,by rw[←q2];exact (zii hok hpa (zab hj)).symm⟩
     ·rcases zav Pnt.id (nth (zai p (nth p.routes i)).1.asks k).pnt p.points with ⟨_,q⟩|⟨j,hj,q1,q2⟩
      ·exact absurd ex (q x hx)
      ·have:=lies_pc hH p (by have:=hp.pts;omega) hj q1
       rw[←zo7 hok hj,q2]at this
       exact this
    rw[zmA]
    have hgw:=hg.get (.sl 4 ((za2 p).map Way.c)) hRl.1 hRl.2
    have hwat:nth (za2 p) i=(zai p (nth p.routes i)).1:=nthm _ hri
    have hwlen:(za2 p).length=p.routes.length:=by simp[za2]
    have hfr:∀ x,PC P inv 181 [.agg s.c,.n x] (·=.b (frT s x)):=fun x=>free_pc hH s (by have:=hs.1;omega) x
    have hok2:∀ a:AskR,zim p s (zau p s).2.1 a=(decide (zbh s a.pnt=a.lie)||(decide (nth (zau p s).2.1 a.pnt.toNat=0)&&frT s (zcn p a.pnt))):=fun a=>rfl
    have hg1:∀ k:Nat,k<100→(G (zau p s).1 (zau p s).2.1 (.sl 4 ((za2 p).map Way.c)))[k]?=some (.n (nth (zau p s).1 k)):=fun k hk=>hg.get1 _ hRl.1 hk
    have hg2:∀ k:Nat,k<100→(G (zau p s).1 (zau p s).2.1 (.sl 4 ((za2 p).map Way.c)))[100+k]?=some (.n (nth (zau p s).2.1 k)):=fun k hk=>hg.get2 _ hRl.1 hRl.2 hk
    generalize (zai p (nth p.routes i)).1=w at *
    generalize zau p s=GR at *
    obtain ⟨H,A,B⟩:=GR
    dsimp only at *
    generalize za2 p=ws at *
    generalize zim p s A=ok at *
    clear hwp hr hok hst hpa hR h5 hRe hg
    refine PC.fn hH cd171 fun w0 M Q hM hE hQ hR=>?_;dsimp only[cd171,qm,ql,qf,qi,qb,qc,qp,qv,qN,qT,qF,qt]at hQ ⊢
    repeat' (first|(refine zaa [0,1,2,3,4,5,6,7,8,9,11,13,15,23,29,37,48,49,50,51,54,55,56,57,60,66,74,75,76,77,106,109] fun K hK=>cnd2 rfl (fun h=>?_) (fun h=>?_)<;>(try first|exact h.elim|obtain rfl:(_:Bool)=_:=h)<;>first|(exfalso;omega)|skip)|refine AWp.sqpC [0,1,2,3,4,5,6,7,8,9,11,13,15,23,29,37,48,49,50,51,54,55,56,57,60,66,74,75,76,77,106,109] fun K hK=>?_|refine AWp.sqpD [0,1,2,3,4,5,6,7,8,9,11,13,15,23,29,37,48,49,50,51,54,55,56,57,60,66,74,75,76,77,106,109] fun K hK=>?_|refine zaa [0,1,2,3,4,5,6,7,8,9,11,13,15,23,29,37,48,49,50,51,54,55,56,57,60,66,74,75,76,77,106,109] fun K hK=>AWp.label ?_|refine AWp.block ?_|(refine hK.go ?_;clear hK K)|refine Cont.go (by assumption) ?_|(refine cnd2 rfl (fun h=>?_) (fun h=>?_)<;>(try first|exact h.elim|obtain rfl:(_:Bool)=_:=h)<;>first|(exfalso;omega)|skip)|((first|refine zaa [0,1,2,3,4,5,6,7,8,9,11,13,15,23,29,37,48,49,50,51,54,55,56,57,60,66,74,75,76,77,106,109] fun K hK=>AWp.reg hE hM ?_|refine zaa [0,1,2,3,4,5,6,7,8,9,11,13,15,23,29,37,48,49,50,51,54,55,56,57,60,66,74,75,76,77,106,109] fun K hK=>AWp.regd hE hM ?_|refine AWp.reg hE hM ?_|refine AWp.regd hE hM ?_|refine AWp.ret ?_|refine AWp.label ?_|(refine zaH 0 rfl ?_)|refine AWp.skip ?_|refine AWp.exit ?_|(refine pk2 (fun h=>?_) (fun h=>?_)<;>(try first|exact h.elim|obtain rfl:(_:Bool)=_:=h))|refine zjL (fun h=>?_) ?_|refine zaA hM (c0) ?_|(refine zeH hM 4 ( c1) ?_ rfl ?_;(focus (simp -dsimp -implicitDefEqProofs (disch:=omega) only[go_sem,reduceIte,↓reduceIte,Nat.reduceEqDiff,Nat.reduceLT,Nat.reduceLeDiff,Nat.reduceAdd,Nat.reduceSub,Nat.reduceMul,Int.reduceToNat,Int.reduceLT,Int.reduceLE,Int.reduceEq,Int.reduceNeg,Int.reduceNe,reduceCtorEq,hfold,hlen0,hlen,hov,hbd0,hbd,hba,hgw,hwat]<;>fail)))|(refine hQ _ _ _ rfl ?_;clear hQ hR hE hM)|(refine hR _ _ (hQ _ _ _ rfl ?_);clear hQ hR hE hM)|(refine ob_mk ?_ ?_;focus first|omega|(refine zqM ?_;(refine no_implicit_lambda% (st ?_);try with_reducible exact wT);done)))<;>try simp -dsimp -implicitDefEqProofs (disch:=omega) only[go_sem,reduceIte,↓reduceIte,Nat.reduceEqDiff,Nat.reduceLT,Nat.reduceLeDiff,Nat.reduceAdd,Nat.reduceSub,Nat.reduceMul,Int.reduceToNat,Int.reduceLT,Int.reduceLE,Int.reduceEq,Int.reduceNeg,Int.reduceNe,reduceCtorEq,hfold,hlen0,hlen,hov,hbd0,hbd,hba,hgw,hwat]))
    refine AWp.midP [3,4,6,8] [(7,.n (zcL H (frT s) (w.path++w.over)))] (True) ?_ fun hmid=>?_
    ·(have hX:=zA @hfold (zA @hlen0 (zA @hlen (zA @hov (zA @hbd0 (zA @hbd @hba)))));(repeat' first|refine zaa [0,1,2,3,4,5,6,7,8,9,11,13,15,23,29,37,48,49,50,51,54,55,56,57,60,66,74,75,76,77,106,109] fun K hK=>?_|(refine hK.go ?_;clear hK K)|with_reducible exact wT|refine wA ?_|(refine wB (fun h=>?_) (fun h=>?_)<;>first|exact wN h|subst (h:(_:Bool)=_)|skip)|(refine zaH 0 rfl ?_;try (refine no_implicit_lambda% (st ?_);try with_reducible exact wT))|(refine wQ ?_;clear hQ hR hE hM)|fail);all_goals clear hX)
     refine zae (ι:=Nat) [3,4,6,7,8,48,49,50] (fun z=>[(50,.n z)]) (fun _=>[]) (fun z=>z) (2) (fun z=>(zcL H (frT s) ((([w.path,w.over]:List (List Int)).drop z).flatten)=zcL H (frT s) (w.path++w.over))) (0) ?_;rintro k ⟨hk,hg0⟩;(try dsimp only at hk hg0 ⊢);rcases Nat.lt_or_ge k 2 with hlt|hge
     ·have hout:=hg0
      obtain rfl|rfl:k=0∨k=1:=by omega
      ·(repeat' first|refine zaa [0,1,2,3,4,5,6,7,8,9,11,13,15,23,29,37,48,49,50,51,54,55,56,57,60,66,74,75,76,77,106,109] fun K hK=>?_|(refine hK.go ?_;clear hK K)|with_reducible exact wT|refine wA ?_|(refine wB (fun h=>?_) (fun h=>?_)<;>first|exact wN h|subst (h:(_:Bool)=_)|skip)|(refine zaH 0 rfl ?_;try (refine no_implicit_lambda% (st ?_);try with_reducible exact wT))|(refine wQ ?_;clear hQ hR hE hM)|fail)
       refine zae (ι:=Nat) [3,4,6,7,8,48,49,50,54,55,56] (fun z=>[(56,.n z)]) (fun _=>[]) (fun z=>z) (w.path.length) (fun z=>(zcL H (frT s) (w.path.drop z++w.over)=zcL H (frT s) (w.path++w.over))) (0) ?_;rintro j ⟨hk,hj⟩;(try dsimp only at hk hj ⊢);rcases Nat.lt_or_ge j w.path.length with hlt|hge
       ·have hx:=hsec (nth w.path j) (List.mem_append_left _ (zab hlt))
        rw[zaf hlt,List.cons_append,zcL]at hj
        by_cases h1:nth H (nth w.path j).toNat=0
        ·rw[if_pos h1]at hj
         have c3:=hfr (nth w.path j)
         cases hf:frT s (nth w.path j) with
         |true =>
          rw[if_pos hf]at hj
          rw[hf]at c3
          (have hX:=zA @hlen (zA @hbd (zA @hba (zA @hg1 @h1)));(repeat' first|refine zaa [0,1,2,3,4,5,6,7,8,9,11,13,15,23,29,37,48,49,50,51,54,55,56,57,60,66,74,75,76,77,106,109] fun K hK=>?_|(refine hK.go ?_;clear hK K)|with_reducible exact wT|refine wA ?_|(refine wB (fun h=>?_) (fun h=>?_)<;>first|exact wN h|subst (h:(_:Bool)=_)|skip)|(refine zaH 0 rfl ?_;try (refine no_implicit_lambda% (st ?_);try with_reducible exact wT))|(refine wQ ?_;clear hQ hR hE hM)|refine wC c3 ?_|fail);all_goals clear hX)
          all_goals first|(exfalso;contradiction)|exact ⟨j+1,by omega,⟨by omega,hj⟩,by omega⟩
         |false =>
          rw[if_neg (by rw[hf];simp)]at hj
          rw[hf]at c3
          (have hX:=zA @hlen (zA @hbd (zA @hba (zA @hg1 @h1)));(repeat' first|refine zaa [0,1,2,3,4,5,6,7,8,9,11,13,15,23,29,37,48,49,50,51,54,55,56,57,60,66,74,75,76,77,106,109] fun K hK=>?_|(refine hK.go ?_;clear hK K)|with_reducible exact wT|refine wA ?_|(refine wB (fun h=>?_) (fun h=>?_)<;>first|exact wN h|subst (h:(_:Bool)=_)|skip)|(refine zaH 0 rfl ?_;try (refine no_implicit_lambda% (st ?_);try with_reducible exact wT))|(refine wQ ?_;clear hQ hR hE hM)|refine wC c3 ?_|fail);all_goals clear hX)
          all_goals first|exact hj|(exfalso;contradiction)
        ·rw[if_neg h1]at hj
         (have hX:=zA @hlen (zA @hbd (zA @hba @hg1));(repeat' first|refine zaa [0,1,2,3,4,5,6,7,8,9,11,13,15,23,29,37,48,49,50,51,54,55,56,57,60,66,74,75,76,77,106,109] fun K hK=>?_|(refine hK.go ?_;clear hK K)|with_reducible exact wT|refine wA ?_|(refine wB (fun h=>?_) (fun h=>?_)<;>first|exact wN h|subst (h:(_:Bool)=_)|skip)|(refine zaH 0 rfl ?_;try (refine no_implicit_lambda% (st ?_);try with_reducible exact wT))|(refine wQ ?_;clear hQ hR hE hM)|fail);all_goals clear hX)
         all_goals first|exact hj|(exfalso;contradiction)
       ·rw[List.drop_eq_nil_of_le hge]at hj
        (repeat' first|refine zaa [0,1,2,3,4,5,6,7,8,9,11,13,15,23,29,37,48,49,50,51,54,55,56,57,60,66,74,75,76,77,106,109] fun K hK=>?_|(refine hK.go ?_;clear hK K)|with_reducible exact wT|refine wA ?_|(refine wB (fun h=>?_) (fun h=>?_)<;>first|exact wN h|subst (h:(_:Bool)=_)|skip)|(refine zaH 0 rfl ?_;try (refine no_implicit_lambda% (st ?_);try with_reducible exact wT))|(refine wQ ?_;clear hQ hR hE hM)|fail)
        exact ⟨1,by omega,⟨by omega,by simpa using hj⟩,rfl⟩
      ·replace hout:zcL H (frT s) (w.over.drop 0)=zcL H (frT s) (w.path++w.over):=by simpa using hout
       (repeat' first|refine zaa [0,1,2,3,4,5,6,7,8,9,11,13,15,23,29,37,48,49,50,51,54,55,56,57,60,66,74,75,76,77,106,109] fun K hK=>?_|(refine hK.go ?_;clear hK K)|with_reducible exact wT|refine wA ?_|(refine wB (fun h=>?_) (fun h=>?_)<;>first|exact wN h|subst (h:(_:Bool)=_)|skip)|(refine zaH 0 rfl ?_;try (refine no_implicit_lambda% (st ?_);try with_reducible exact wT))|(refine wQ ?_;clear hQ hR hE hM)|fail)
       refine zae (ι:=Nat) [3,4,6,7,8,48,49,50,54,55,56] (fun z=>[(56,.n z)]) (fun _=>[]) (fun z=>z) (w.over.length) (fun z=>(zcL H (frT s) (w.over.drop z)=zcL H (frT s) (w.path++w.over))) (0) ?_;rintro j ⟨hk,hj⟩;(try dsimp only at hk hj ⊢);rcases Nat.lt_or_ge j w.over.length with hlt|hge
       ·have hx:=hsec (nth w.over j) (List.mem_append_right _ (zab hlt))
        rw[zaf hlt,zcL]at hj
        by_cases h1:nth H (nth w.over j).toNat=0
        ·rw[if_pos h1]at hj
         have c3:=hfr (nth w.over j)
         cases hf:frT s (nth w.over j) with
         |true =>
          rw[if_pos hf]at hj
          rw[hf]at c3
          (have hX:=zA @hlen (zA @hbd (zA @hba (zA @hg1 @h1)));(repeat' first|refine zaa [0,1,2,3,4,5,6,7,8,9,11,13,15,23,29,37,48,49,50,51,54,55,56,57,60,66,74,75,76,77,106,109] fun K hK=>?_|(refine hK.go ?_;clear hK K)|with_reducible exact wT|refine wA ?_|(refine wB (fun h=>?_) (fun h=>?_)<;>first|exact wN h|subst (h:(_:Bool)=_)|skip)|(refine zaH 0 rfl ?_;try (refine no_implicit_lambda% (st ?_);try with_reducible exact wT))|(refine wQ ?_;clear hQ hR hE hM)|refine wC c3 ?_|fail);all_goals clear hX)
          all_goals first|(exfalso;contradiction)|exact ⟨j+1,by omega,⟨by omega,hj⟩,by omega⟩
         |false =>
          rw[if_neg (by rw[hf];simp)]at hj
          rw[hf]at c3
          (have hX:=zA @hlen (zA @hbd (zA @hba (zA @hg1 @h1)));(repeat' first|refine zaa [0,1,2,3,4,5,6,7,8,9,11,13,15,23,29,37,48,49,50,51,54,55,56,57,60,66,74,75,76,77,106,109] fun K hK=>?_|(refine hK.go ?_;clear hK K)|with_reducible exact wT|refine wA ?_|(refine wB (fun h=>?_) (fun h=>?_)<;>first|exact wN h|subst (h:(_:Bool)=_)|skip)|(refine zaH 0 rfl ?_;try (refine no_implicit_lambda% (st ?_);try with_reducible exact wT))|(refine wQ ?_;clear hQ hR hE hM)|refine wC c3 ?_|fail);all_goals clear hX)
          all_goals first|exact hj|(exfalso;contradiction)
        ·rw[if_neg h1]at hj
         (have hX:=zA @hlen (zA @hbd (zA @hba @hg1));(repeat' first|refine zaa [0,1,2,3,4,5,6,7,8,9,11,13,15,23,29,37,48,49,50,51,54,55,56,57,60,66,74,75,76,77,106,109] fun K hK=>?_|(refine hK.go ?_;clear hK K)|with_reducible exact wT|refine wA ?_|(refine wB (fun h=>?_) (fun h=>?_)<;>first|exact wN h|subst (h:(_:Bool)=_)|skip)|(refine zaH 0 rfl ?_;try (refine no_implicit_lambda% (st ?_);try with_reducible exact wT))|(refine wQ ?_;clear hQ hR hE hM)|fail);all_goals clear hX)
         all_goals first|exact hj|(exfalso;contradiction)
       ·rw[List.drop_eq_nil_of_le hge]at hj
        (repeat' first|refine zaa [0,1,2,3,4,5,6,7,8,9,11,13,15,23,29,37,48,49,50,51,54,55,56,57,60,66,74,75,76,77,106,109] fun K hK=>?_|(refine hK.go ?_;clear hK K)|with_reducible exact wT|refine wA ?_|(refine wB (fun h=>?_) (fun h=>?_)<;>first|exact wN h|subst (h:(_:Bool)=_)|skip)|(refine zaH 0 rfl ?_;try (refine no_implicit_lambda% (st ?_);try with_reducible exact wT))|(refine wQ ?_;clear hQ hR hE hM)|fail)
        exact ⟨2,by omega,⟨by omega,by simpa using hj⟩,rfl⟩
     ·obtain rfl:k=2:=by omega
      (repeat' first|refine zaa [0,1,2,3,4,5,6,7,8,9,11,13,15,23,29,37,48,49,50,51,54,55,56,57,60,66,74,75,76,77,106,109] fun K hK=>?_|(refine hK.go ?_;clear hK K)|with_reducible exact wT|refine wA ?_|(refine wB (fun h=>?_) (fun h=>?_)<;>first|exact wN h|subst (h:(_:Bool)=_)|skip)|(refine zaH 0 rfl ?_;try (refine no_implicit_lambda% (st ?_);try with_reducible exact wT))|(refine wQ ?_;clear hQ hR hE hM)|fail)
      all_goals first|exact hg0|(simpa using hg0)
    ·(have hX:=zA @hlen (zA @hbd @hba);(repeat' first|refine zaa [0,1,2,3,4,5,6,7,8,9,11,13,15,23,29,37,48,49,50,51,54,55,56,57,60,66,74,75,76,77,106,109] fun K hK=>?_|(refine hK.go ?_;clear hK K)|with_reducible exact wT|refine wA ?_|(refine wB (fun h=>?_) (fun h=>?_)<;>first|exact wN h|subst (h:(_:Bool)=_)|skip)|(refine zaH 0 rfl ?_;try (refine no_implicit_lambda% (st ?_);try with_reducible exact wT))|(refine wQ ?_;clear hQ hR hE hM)|fail);all_goals clear hX)
     refine zae (ι:=Nat×Int) [3,4,6,7,8,74,75,76] (fun z=>[(7,.n z.2),(76,.n z.1)]) (fun _=>[]) (fun z=>z.1) (w.asks.length) (fun z=>(zqF ok z.2 (w.asks.drop z.1)=zqF ok (zcL H (frT s) (w.path++w.over)) w.asks)) (0,(zcL H (frT s) (w.path++w.over))) ?_;rintro ⟨k,e⟩ ⟨hk,hq⟩;(try dsimp only at hk hq ⊢);rcases Nat.lt_or_ge k w.asks.length with hlt|hge
     ·obtain ⟨ha1,ha2,⟨j,hj,d1,hcall⟩,d2⟩:=hask k hlt
      have d3:=hfr (zcn p (nth w.asks k).pnt)
      have hok3:=hok2 (nth w.asks k)
      rw[zaf hlt,zqF]at hq
      by_cases he:e=0
      ·subst he
       rw[if_pos rfl]at hq
       by_cases h1:zbh s (nth w.asks k).pnt=(nth w.asks k).lie
       ·rw[hok3,decide_eq_true h1,Bool.true_or,if_pos rfl]at hq
        have h2:decide ((nth s.switches j).call=(nth w.asks k).lie)=true:=decide_eq_true (hcall.trans h1)
        (have hX:=zA @hlen (zA @hbd (zA @hba (zA @hg2 @h2)));(repeat' first|refine zaa [0,1,2,3,4,5,6,7,8,9,11,13,15,23,29,37,48,49,50,51,54,55,56,57,60,66,74,75,76,77,106,109] fun K hK=>?_|(refine hK.go ?_;clear hK K)|with_reducible exact wT|refine wA ?_|(refine wB (fun h=>?_) (fun h=>?_)<;>first|exact wN h|subst (h:(_:Bool)=_)|skip)|(refine zaH 0 rfl ?_;try (refine no_implicit_lambda% (st ?_);try with_reducible exact wT))|(refine wQ ?_;clear hQ hR hE hM)|refine wC d1 ?_|refine wC d2 ?_|refine wC d3 ?_|fail);all_goals clear hX)
        all_goals first|(exfalso;contradiction)|exact ⟨(k+1,0),by dsimp only;omega,⟨by dsimp only;omega,hq⟩,rfl,by dsimp only;omega⟩
       ·have h2:decide ((nth s.switches j).call=(nth w.asks k).lie)=false:=decide_eq_false (fun e=>h1 (hcall.symm.trans e))
        rw[hok3,decide_eq_false h1,Bool.false_or]at hq
        by_cases h3:nth A (nth w.asks k).pnt.toNat=0
        ·rw[decide_eq_true h3,Bool.true_and]at hq
         cases hf:frT s (zcn p (nth w.asks k).pnt) with
         |true =>
          rw[if_pos hf]at hq
          rw[hf]at d3
          (have hX:=zA @hlen (zA @hbd (zA @hba (zA @hg2 (zA @h2 @h3))));(repeat' first|refine zaa [0,1,2,3,4,5,6,7,8,9,11,13,15,23,29,37,48,49,50,51,54,55,56,57,60,66,74,75,76,77,106,109] fun K hK=>?_|(refine hK.go ?_;clear hK K)|with_reducible exact wT|refine wA ?_|(refine wB (fun h=>?_) (fun h=>?_)<;>first|exact wN h|subst (h:(_:Bool)=_)|skip)|(refine zaH 0 rfl ?_;try (refine no_implicit_lambda% (st ?_);try with_reducible exact wT))|(refine wQ ?_;clear hQ hR hE hM)|refine wC d1 ?_|refine wC d2 ?_|refine wC d3 ?_|fail);all_goals clear hX)
          all_goals first|(exfalso;contradiction)|exact ⟨(k+1,0),by dsimp only;omega,⟨by dsimp only;omega,hq⟩,rfl,by dsimp only;omega⟩
         |false =>
          rw[if_neg (by rw[hf];simp)]at hq
          rw[hf]at d3
          (have hX:=zA @hlen (zA @hbd (zA @hba (zA @hg2 (zA @h2 @h3))));(repeat' first|refine zaa [0,1,2,3,4,5,6,7,8,9,11,13,15,23,29,37,48,49,50,51,54,55,56,57,60,66,74,75,76,77,106,109] fun K hK=>?_|(refine hK.go ?_;clear hK K)|with_reducible exact wT|refine wA ?_|(refine wB (fun h=>?_) (fun h=>?_)<;>first|exact wN h|subst (h:(_:Bool)=_)|skip)|(refine zaH 0 rfl ?_;try (refine no_implicit_lambda% (st ?_);try with_reducible exact wT))|(refine wQ ?_;clear hQ hR hE hM)|refine wC d1 ?_|refine wC d2 ?_|refine wC d3 ?_|fail);all_goals clear hX)
          all_goals first|(exfalso;contradiction)|exact ⟨(k+1,183),by dsimp only;omega,⟨by dsimp only;omega,hq⟩,rfl,by dsimp only;omega⟩
        ·rw[decide_eq_false h3,Bool.false_and,if_neg (by simp)]at hq
         have h4:decide (nth A (nth w.asks k).pnt.toNat=0)=false:=decide_eq_false h3
         (have hX:=zA @hlen (zA @hbd (zA @hba (zA @hg2 (zA @h2 @h4))));(repeat' first|refine zaa [0,1,2,3,4,5,6,7,8,9,11,13,15,23,29,37,48,49,50,51,54,55,56,57,60,66,74,75,76,77,106,109] fun K hK=>?_|(refine hK.go ?_;clear hK K)|with_reducible exact wT|refine wA ?_|(refine wB (fun h=>?_) (fun h=>?_)<;>first|exact wN h|subst (h:(_:Bool)=_)|skip)|(refine zaH 0 rfl ?_;try (refine no_implicit_lambda% (st ?_);try with_reducible exact wT))|(refine wQ ?_;clear hQ hR hE hM)|refine wC d1 ?_|refine wC d2 ?_|refine wC d3 ?_|fail);all_goals clear hX)
         all_goals first|(exfalso;contradiction)|exact ⟨(k+1,183),by dsimp only;omega,⟨by dsimp only;omega,hq⟩,rfl,by dsimp only;omega⟩
      ·rw[if_neg he]at hq
       have hed:decide (e=0)=false:=decide_eq_false he
       (have hX:=zA @hlen (zA @hbd (zA @hba @hed));(repeat' first|refine zaa [0,1,2,3,4,5,6,7,8,9,11,13,15,23,29,37,48,49,50,51,54,55,56,57,60,66,74,75,76,77,106,109] fun K hK=>?_|(refine hK.go ?_;clear hK K)|with_reducible exact wT|refine wA ?_|(refine wB (fun h=>?_) (fun h=>?_)<;>first|exact wN h|subst (h:(_:Bool)=_)|skip)|(refine zaH 0 rfl ?_;try (refine no_implicit_lambda% (st ?_);try with_reducible exact wT))|(refine wQ ?_;clear hQ hR hE hM)|fail);all_goals clear hX)
       all_goals first|(exfalso;contradiction)|exact ⟨(k+1,e),by dsimp only;omega,⟨by dsimp only;omega,hq⟩,rfl,by dsimp only;omega⟩
     ·rw[List.drop_eq_nil_of_le hge,zqF]at hq
      (repeat' first|refine zaa [0,1,2,3,4,5,6,7,8,9,11,13,15,23,29,37,48,49,50,51,54,55,56,57,60,66,74,75,76,77,106,109] fun K hK=>?_|(refine hK.go ?_;clear hK K)|with_reducible exact wT|refine wA ?_|(refine wB (fun h=>?_) (fun h=>?_)<;>first|exact wN h|subst (h:(_:Bool)=_)|skip)|(refine zaH 0 rfl ?_;try (refine no_implicit_lambda% (st ?_);try with_reducible exact wT))|(refine wQ ?_;clear hQ hR hE hM)|fail)
      all_goals first|exact hq|rw[hq]|skip
   ·rw[if_neg hph,if_neg hph]
    refine PC.fn hH cd171 fun w0 M Q hM hE hQ hR=>?_;dsimp only[cd171,qm,ql,qf,qi,qb,qc,qp,qv,qN,qT,qF,qt]at hQ ⊢
    (have hX:=zA @hfold (zA @hlen0 (zA @hlen (zA @hov (zA @hbd0 (zA @hbd @hba)))));(repeat' first|refine zaa [0,1,2,3,4,5,6,7,8,9,11,13,15,23,29,37,48,49,50,51,54,55,56,57,60,66,74,75,76,77,106,109] fun K hK=>?_|(refine hK.go ?_;clear hK K)|with_reducible exact wT|refine wA ?_|(refine wB (fun h=>?_) (fun h=>?_)<;>first|exact wN h|subst (h:(_:Bool)=_)|skip)|(refine zaH 0 rfl ?_;try (refine no_implicit_lambda% (st ?_);try with_reducible exact wT))|(refine wQ ?_;clear hQ hR hE hM)|refine wC c0 ?_|refine wS c1 ?_|fail);all_goals clear hX)
    all_goals first|rfl|(exfalso;contradiction)|skip
 ·rw[show lkW p s n=WayR.z by unfold lkW;rw[if_neg hst],show lkC p s n=zag p s by unfold lkC;rw[if_neg hst]]
  rw[←hRe]at hst ⊢
  revert c0 hRl hst
  generalize ofR p s=R
  obtain ⟨G,Z,hg⟩:=GC.ex
  rw[←hg.eq]
  intro c0 hRl hst
  have hfold:=hg.fold
  have hlen0:=hg.len (.s0 4) hg.zl hg.zl
  have hlen:=hg.len (.sl 4 (R.ways.map Way.c)) hRl.1 hRl.2
  have hov:=hg.ov (.s0 4) (.sl 4 (R.ways.map Way.c)) hg.zl hg.zl hRl.1 hRl.2
  have hbd0:=hg.bd0 Z Z
  have hbd:=hg.bd R.hold R.ask (R.ways.map Way.c)
  have hba:=hg.ba R.hold R.ask (R.ways.map Way.c)
  refine PC.fn hH cd171 fun w0 M Q hM hE hQ hR=>?_;dsimp only[cd171,qm,ql,qf,qi,qb,qc,qp,qv,qN,qT,qF,qt]at hQ ⊢
  (have hX:=zA @hfold (zA @hlen0 (zA @hlen (zA @hov (zA @hbd0 (zA @hbd @hba)))));(repeat' first|refine zaa [0,1,2,3,4,5,6,7,8,9,11,13,15,23,29,37,48,49,50,51,54,55,56,57,60,66,74,75,76,77,106,109] fun K hK=>?_|(refine hK.go ?_;clear hK K)|with_reducible exact wT|refine wA ?_|(refine wB (fun h=>?_) (fun h=>?_)<;>first|exact wN h|subst (h:(_:Bool)=_)|skip)|(refine zaH 0 rfl ?_;try (refine no_implicit_lambda% (st ?_);try with_reducible exact wT))|(refine wQ ?_;clear hQ hR hE hM)|refine wC c0 ?_|refine wS c1 ?_|fail);all_goals clear hX)
  all_goals first|rfl|(exfalso;contradiction)|skip
end Go.Lev
namespace Go.Lev
open Go.Eng
set_option maxRecDepth 10000
set_option maxHeartbeats 4000000
variable {P:Program} {inv:Nat→Option Nat} {w0:World} {M:Nat→Prop}
theorem zlQ (hH:HasAll P inv) (hI:HasIds P inv) (p:Pln) (hp:Sm p) (s:State) (hs:SmS s) (n:Int):PC P inv 158 [.agg p.c,.agg s.c,.n n] (·=.n (lkC p s n)):=by
 have c0:=zgb hH hI p hp s hs n
 revert c0
 generalize lkW p s n=w
 generalize lkC p s n=e
 intro c0
 refine PC.fn hH cd158 fun w0 M Q hM hE hQ hR=>?_;dsimp only[cd158,qm,ql,qf,qi,qb,qc,qp,qv,qN,qT,qF,qt]at hQ ⊢
 (repeat' first|refine zaa [0,1,2,3,4,6,8] fun K hK=>?_|(refine hK.go ?_;clear hK K)|with_reducible exact wT|refine wA ?_|(refine wB (fun h=>?_) (fun h=>?_)<;>first|exact wN h|subst (h:(_:Bool)=_)|skip)|(refine wQ ?_;clear hQ hR hE hM)|refine wC c0 ?_|fail)
theorem zig (q:List AskR) (a:AskR) (l:List Switch):zaZ (q++[a]) l=zdZ Switch.id a.pnt (fun t=>⟨t.id,t.lie,a.lie⟩) (zaZ q l):=by unfold zaZ;rw[List.foldl_append];rfl
theorem fget0 {α:Type} {c:α→List AV} {sz:Nat} [Cells c sz] [Inhabited α] {l:List α} {k:Nat} (hk:k<l.length) (hs:0<sz):(l.map c).flatten[k*sz]?=(c (nth l k))[0]?:=by simpa using zgX (c:=c) (i:=0) hk hs
theorem k1At_all (n:Int) (l:List Lock):l.mapIdx (zoi n)=zdZ Lock.id n (fun l=>⟨l.id,1,l.gone,l.left⟩) l:=by
 refine List.ext_getElem (by simp[zdZ]) fun i h1 h2=>?_
 simp only[List.getElem_mapIdx,zdZ,List.getElem_map]
 rfl
theorem ziW (hH:HasAll P inv) (hI:HasIds P inv) (p:Pln) (hp:Sm p) (s:State) (hs:SmS s) (n:Int) (he:lkC p s n=0):PO P inv 156 [.agg p.c,.agg s.c,.n n] (.tup [zen 6 (zfS s n (lkW p s n).asks),.n 0]) (zdn 6 (zfS s n (lkW p s n).asks)):=by
 have c0:=zgb hH hI p hp s hs n
 rw[he]at c0
 have c1:=zc5 hH s hs
 have hst:zag p s=0:=by
  unfold lkC at he
  split at he
  ·assumption
  ·rename_i h;exact absurd he h
 have hok:=zar hst
 have hpa:=(zad hst).2.1
 have hpl:=zap hpa
 have hwl:(lkW p s n).asks.length≤1000∧∀ a∈(lkW p s n).asks,zcA p a.pnt=true:=by
  unfold lkW
  rw[if_pos hst]
  rcases zav Lock.id n s.locks with ⟨h4,_⟩|⟨i,hi,h4,h5⟩
  ·rw[show zgG s n=-1 from h4,if_pos (by decide)]
   exact ⟨by simp[WayR.z],fun a ha=>by simp[WayR.z]at ha⟩
  ·rw[show zgG s n=(i:Int) from h4,if_neg (by omega),Int.toNat_natCast]
   split
   ·refine ⟨(zbC hok (zab (by omega))).1,fun a ha=>?_⟩
    obtain ⟨⟨x,hx,ex⟩,_⟩:=zbI hok (zab (show i<p.routes.length by omega)) ha
    exact List.any_eq_true.2 ⟨x,hx,by simpa using ex⟩
   ·exact ⟨by simp[WayR.z],fun a ha=>by simp[WayR.z]at ha⟩
 generalize lkW p s n=w at *
 have hno:(s.switches.map Switch.id).Nodup:=by rw[zcR hpa];exact zbJ hok
 obtain ⟨h1,h2,h3⟩:=hs
 have hix:∀ (q:List AskR) (k:Nat),k<w.asks.length→∃ j,j<s.switches.length∧zbd (fun x=>decide (Switch.id x=(nth w.asks k).pnt)) 0 (zaZ q s.switches)=(j:Int)∧(nth (zaZ q s.switches) j).id=(nth w.asks k).pnt:=fun q k hk=>by
  obtain ⟨y,hy,ey⟩:=zoq hpa (hwl.2 _ (zab hk))
  have hm:(nth w.asks k).pnt∈(zaZ q s.switches).map Switch.id:=by rw[zeD,←ey];exact List.mem_map_of_mem hy
  obtain ⟨z,hz,ez⟩:=List.mem_map.1 hm
  rcases zav Switch.id (nth w.asks k).pnt (zaZ q s.switches) with ⟨_,r⟩|⟨j,hj,q1,q2⟩
  ·exact absurd ez (r z hz)
  ·exact ⟨j,by rw[zbV]at hj;exact hj,q1,q2⟩
 clear hst hok hpa hpl he
 unfold stV stR at c1
 refine PO.fn hH cd156 fun w0 M Q hM hE hQ hR=>?_;dsimp only[cd156,qm,ql,qf,qi,qb,qc,qp,qv,qN,qT,qF,qt]at hQ ⊢
 skip
 (repeat' first|refine zaa [0,1,2,3,4,5,6,7,8,9,11,12,21,27,28,29,30,43,44,45,54] fun K hK=>?_|(refine hK.go ?_;clear hK K)|with_reducible exact wT|refine wA ?_|(refine wB (fun h=>?_) (fun h=>?_)<;>first|exact wN h|subst (h:(_:Bool)=_)|skip)|(refine wQ ?_;clear hQ hR)|refine wC c0 ?_|refine wO c1 ?_|fail)
 have hcl:=fun q=>zbV q s.switches
 refine zae (ι:=Nat) [2,4,6,7,27,28,29] (fun z=>[(29,.n z)]) (fun z=>[(7,.cells ((zaZ (w.asks.take z) s.switches).map Switch.c).flatten (decide (0<s.switches.length)))]) (fun z=>z) (w.asks.length) (fun _=>True) (0) ?_;rintro k ⟨hk,-⟩;(try dsimp only at hk ⊢);rcases Nat.lt_or_ge k w.asks.length with hlt|hge
 ·obtain ⟨j,hj,q1,q2⟩:=hix (w.asks.take k) k hlt
  have c2:=zhR hH (zaZ (w.asks.take k) s.switches) (fun x _=>zmU hH (nth w.asks k).pnt x) (by rw[hcl];omega)
  rw[q1]at c2
  have hno2:((zaZ (w.asks.take k) s.switches).map Switch.id).Nodup:=by rw[zeD];exact hno
  have e1:=zcE Switch.id (nth w.asks k).pnt (fun t=>(⟨t.id,t.lie,(nth w.asks k).lie⟩:Switch)) hno2 (by rw[hcl];exact hj) q2
  rw[←zig,zg3 hlt]at e1
  have e2:=zaz (c:=Switch.c) (l:=zaZ (w.asks.take k) s.switches) (k:=j) (i:=2) (by rw[hcl];exact hj) (by omega) (.i .i64 (nth w.asks k).lie) (⟨(nth (zaZ (w.asks.take k) s.switches) j).id,(nth (zaZ (w.asks.take k) s.switches) j).lie,(nth w.asks k).lie⟩:Switch) rfl
  rw[e1]at e2
  have e3:=zdR (c:=Switch.c) (zaZ (w.asks.take k) s.switches)
  rw[hcl]at e3
  have e4:=hcl (w.asks.take k)
  (have hX:=zA @e2 (zA @e3 @e4);(repeat' first|refine zaa [0,1,2,3,4,5,6,7,8,9,11,12,21,27,28,29,30,43,44,45,54] fun K hK=>?_|(refine hK.go ?_;clear hK K)|with_reducible exact wT|refine wA ?_|(refine wB (fun h=>?_) (fun h=>?_)<;>first|exact wN h|subst (h:(_:Bool)=_)|skip)|(refine wQ ?_;clear hQ hR)|(refine AC.callK 30 (by omega) (by first|omega|exact wF|((refine no_implicit_lambda% (st ?_);try with_reducible exact wT);omega)) (zam (F:=cd172) (hH.has _ _ rfl) (Nat.le_of_ble_eq_true rfl) fun Q hQ hR=>?_);dsimp only[cd172,qm,ql,qf,qi,qb,qc,qp,qv,qN,qT,qF,qt]at hQ ⊢;try (refine no_implicit_lambda% (st ?_);try with_reducible exact wT))|refine wS c2 ?_|fail);all_goals clear hX)
  all_goals first|exact ⟨k+1,by omega,by omega,by omega,rfl⟩|trace_state
  all_goals sorry
 ·rw[List.take_of_length_le hge]
  (repeat' first|refine zaa [0,1,2,3,4,5,6,7,8,9,11,12,21,27,28,29,30,43,44,45,54] fun K hK=>?_|(refine hK.go ?_;clear hK K)|with_reducible exact wT|refine wA ?_|(refine wB (fun h=>?_) (fun h=>?_)<;>first|exact wN h|subst (h:(_:Bool)=_)|skip)|(refine wQ ?_;clear hQ hR)|fail)
  refine zae (ι:=Nat) [2,4,6,7,43,44] (fun z=>[(44,.n z)]) (fun z=>[(8,.cells ((zbN (zoi n) z s.locks).map Lock.c).flatten (decide (0<s.locks.length)))]) (fun z=>z) (s.locks.length) (fun _=>True) (0) ?_;rintro k2 ⟨hk,-⟩;(try dsimp only at hk ⊢);rcases Nat.lt_or_ge k2 s.locks.length with hlt|hge
  ·have e1:=zaX (zoi n) (l:=s.locks) (k:=k2) (by assumption)
   have hg:=fget0 (c:=Lock.c) (l:=zbN (zoi n) k2 s.locks) (k:=k2) (by rw[zaB];assumption) (by omega)
   rw[zaI _ (by assumption)]at hg
   by_cases hid:(nth s.locks k2).id=n
   ·have e2:=zaz (c:=Lock.c) (l:=zbN (zoi n) k2 s.locks) (k:=k2) (i:=1) (by rw[zaB];assumption) (by omega) (.i .u8 1) (zoi n k2 (nth s.locks k2)) (by rw[zaI _ (by assumption)];unfold zoi;rw[if_pos hid];rfl)
    rw[e1]at e2
    (have hX:=zA @hg @e2;(repeat' first|refine zaa [0,1,2,3,4,5,6,7,8,9,11,12,21,27,28,29,30,43,44,45,54] fun K hK=>?_|(refine hK.go ?_;clear hK K)|with_reducible exact wT|refine wA ?_|(refine wB (fun h=>?_) (fun h=>?_)<;>first|exact wN h|subst (h:(_:Bool)=_)|skip)|(refine wQ ?_;clear hQ hR)|fail);all_goals clear hX)
    all_goals first|(exfalso;contradiction)|exact ⟨k2+1,by omega,by omega,by omega,rfl⟩
   ·rw[show zoi n k2 (nth s.locks k2)=nth (zbN (zoi n) k2 s.locks) k2 by rw[zaI _ (by assumption)];unfold zoi;rw[if_neg hid]]at e1
    have e3:zbN (zoi n) k2 s.locks=zbN (zoi n) (k2+1) s.locks:=by
     rw[←e1,zaW (by rw[zaB];assumption),List.set_getElem_self]
    (have hX:=@hg;(repeat' first|refine zaa [0,1,2,3,4,5,6,7,8,9,11,12,21,27,28,29,30,43,44,45,54] fun K hK=>?_|(refine hK.go ?_;clear hK K)|with_reducible exact wT|refine wA ?_|(refine wB (fun h=>?_) (fun h=>?_)<;>first|exact wN h|subst (h:(_:Bool)=_)|skip)|(refine wQ ?_;clear hQ hR)|fail);all_goals clear hX)
    all_goals first|(exfalso;contradiction)|exact ⟨k2+1,by omega,by omega,by omega,by rw[←e3]⟩
  ·rw[zdG _ (by assumption),k1At_all]
   (repeat' first|refine zaa [0,1,2,3,4,5,6,7,8,9,11,12,21,27,28,29,30,43,44,45,54] fun K hK=>?_|(refine hK.go ?_;clear hK K)|with_reducible exact wT|refine wA ?_|(refine wB (fun h=>?_) (fun h=>?_)<;>first|exact wN h|subst (h:(_:Bool)=_)|skip)|(refine wQ ?_;clear hQ hR)|fail)
   all_goals (left;unfold zen zdn zfS;dsimp only;rw[zbV,zbe];constructor)
   all_goals (refine no_implicit_lambda% (st ?_);try with_reducible exact wT)
end Go.Lev
namespace Go.Lev
open Go.Eng
set_option maxRecDepth 10000
set_option maxHeartbeats 4000000
variable {P:Program} {inv:Nat→Option Nat} {w0:World} {M:Nat→Prop}
theorem zmB (hH:HasAll P inv) (p:Pln) (hl:p.routes.length≤1000000000) (n:Int):PC P inv 334 [.agg p.c,.n n] (·=.n (zbd (fun x=>decide (Rte.id x=n)) 0 p.routes)):=by
 refine PC.fn hH cd334 fun w0 M Q hM hE hQ hR=>?_;dsimp only[cd334,qm,ql,qf,qi,qb,qc,qp,qv,qN,qT,qF,qt]at hQ ⊢
 (repeat' first|refine zaa [0,1,2,4,5,10,20] fun K hK=>?_|(refine hK.go ?_;clear hK K)|with_reducible exact wT|refine wA ?_|(refine wB (fun h=>?_) (fun h=>?_)<;>first|exact wN h|subst (h:(_:Bool)=_)|skip)|(refine wQ ?_;clear hQ hR hE hM)|fail)
 refine zae (ι:=Nat) [1,2,4,5] (fun z=>[(5,.n z)]) (fun _=>[]) (fun z=>z) (p.routes.length) (fun z=>(zbd (fun x=>decide (Rte.id x=n)) (z:Int) (p.routes.drop z)=zbd (fun x=>decide (Rte.id x=n)) 0 p.routes)) (0) ?_;rintro k ⟨hk,hg⟩;(try dsimp only at hk hg ⊢);rcases Nat.lt_or_ge k p.routes.length with hlt|hge
 ·rw[zaf hlt,zbd]at hg
  by_cases e:(nth p.routes k).id=n
  ·have e2:decide ((nth p.routes k).id=n)=true:=decide_eq_true e
   rw[if_pos e2]at hg
   skip
   (have hX:=@e2;(repeat' first|refine zaa [0,1,2,4,5,10,20] fun K hK=>?_|(refine hK.go ?_;clear hK K)|with_reducible exact wT|refine wA ?_|(refine wB (fun h=>?_) (fun h=>?_)<;>first|exact wN h|subst (h:(_:Bool)=_)|skip)|(refine wQ ?_;clear hQ hR hE hM)|fail);all_goals clear hX)
   all_goals first|rfl|exact hg|exact congrArg AV.n hg|(exfalso;contradiction)|(rw[←hg];done)|(rw[←hg];rfl)|(simp[*];done)|trace_state
  ·have e2:decide ((nth p.routes k).id=n)=false:=decide_eq_false e
   rw[if_neg (by simp[e])]at hg
   (have hX:=@e2;(repeat' first|refine zaa [0,1,2,4,5,10,20] fun K hK=>?_|(refine hK.go ?_;clear hK K)|with_reducible exact wT|refine wA ?_|(refine wB (fun h=>?_) (fun h=>?_)<;>first|exact wN h|subst (h:(_:Bool)=_)|skip)|(refine wQ ?_;clear hQ hR hE hM)|fail);all_goals clear hX)
   all_goals first|(exfalso;contradiction)|exact ⟨k+1,by omega,⟨by omega,hg⟩,by omega⟩|trace_state
 ·rw[List.drop_eq_nil_of_le hge,zbd]at hg
  (repeat' first|refine zaa [0,1,2,4,5,10,20] fun K hK=>?_|(refine hK.go ?_;clear hK K)|with_reducible exact wT|refine wA ?_|(refine wB (fun h=>?_) (fun h=>?_)<;>first|exact wN h|subst (h:(_:Bool)=_)|skip)|(refine wQ ?_;clear hQ hR hE hM)|fail)
  all_goals first|exact hg|(rw[←hg];done)|trace_state
end Go.Lev
namespace Go.Lev
open Go.Eng
set_option maxRecDepth 10000
set_option maxHeartbeats 4000000
variable {P:Program} {inv:Nat→Option Nat} {w0:World} {M:Nat→Prop}
theorem znQ (hH:HasAll P inv) (hI:HasIds P inv) (p:Pln) (hp:Sm p) (s:State) (hs:SmS s) (n:Int):PC P inv 156 [.agg p.c,.agg s.c,.n n] (·=.tup [.agg (lkS p s n).c,.n (lkC p s n)]):=by
 unfold lkS
 by_cases he:lkC p s n=0
 ·have:=(ziW hH hI p hp s hs n he).pc
  rw[zbL]at this
  rw[if_pos he,he]
  exact this
 ·have c0:=zgb hH hI p hp s hs n
  rw[if_neg he]
  generalize lkC p s n=e at c0 he ⊢
  generalize lkW p s n=w at c0
  refine PC.fn hH cd156 fun w0 M Q hM hE hQ hR=>?_;dsimp only[cd156,qm,ql,qf,qi,qb,qc,qp,qv,qN,qT,qF,qt]at hQ ⊢
  (repeat' first|refine zaa [0,1,2,3,4,6,7,8,9,11,12,21,27,28,29,30,43,44,45,54] fun K hK=>?_|(refine hK.go ?_;clear hK K)|with_reducible exact wT|refine wA ?_|(refine wB (fun h=>?_) (fun h=>?_)<;>first|exact wN h|subst (h:(_:Bool)=_)|skip)|(refine wQ ?_;clear hQ hR hE hM)|refine wC c0 ?_|fail)
  all_goals first|rfl|(exfalso;contradiction)|skip
end Go.Lev
namespace Go.Lev
open Go.Eng
theorem zpE {p:Pln} {n:Int} (h:∃ x∈p.points,x.id=n):zcA p n=true:=by
 obtain ⟨x,hx,e⟩:=h
 exact List.any_eq_true.2 ⟨x,hx,by simpa using e⟩
theorem zpF {p:Pln} (h:OkP p) {r:Rte} (hr:r∈p.routes) {a:AskR} (ha:a∈(zai p r).1.asks):zcA p a.pnt=true:=zpE (zbI h hr ha).1
section
variable {p:Pln} {s:State} {n:Int} {i:Nat} (h:MaySet p s n i)
include h
end
end Go.Lev
namespace Go.Lev
open Go.Eng
theorem mayC_ask {p:Pln} {s:State} (hst:zag p s=0) {n:Int} (hn:zcA p n=true):zeJ p s n=0↔nth (zau p s).2.1 n.toNat=0∧zgH s (zcn p n)=0:=by
 unfold zeJ
 rw[if_pos hst,if_pos hn]
 constructor
 ·intro h
  split at h
  ·rename_i h1
   split at h
   ·rename_i h2;exact ⟨h1,h2⟩
   ·cases h
  ·cases h
 ·rintro ⟨h1,h2⟩
  rw[if_pos h1,if_pos h2]
theorem msF_eq {p:Pln} {s:State} (hst:zag p s=0) {i:Nat} (hi:i<s.locks.length):msF p s (zb6 p i) (za3 p i) (fun m=>nth (zau p s).1 m.toNat)=setE p s i:=by
 have ho:=zar hst
 have hpa:=(zad hst).2.1
 have hpl:=zap hpa
 have hr:nth p.routes i∈p.routes:=zab (by omega)
 have hE:setE p s i=zqF (zim p s (zau p s).2.1) (zcL (zau p s).1 (frT s) (zb6 p i)) (za3 p i):=zmA p s i
 generalize setE p s i=X at *
 unfold msF
 refine zaK (·=X) (fun k _=>zcL (zau p s).1 (frT s) ((zb6 p i).drop k)=zcL (zau p s).1 (frT s) (zb6 p i)) rfl ?_ ?_
 ·intro k _ zbi hk hK hn
  rw[zaf hk,zcL,zm2 ho hpa]at hK
  dsimp only
  by_cases h1:nth (zau p s).1 (nth (zb6 p i) k).toNat=0
  ·rw[decide_eq_true h1,Bool.not_true,cond_false]
   rw[if_pos h1]at hK
   by_cases h2:zgH s (nth (zb6 p i) k)=0
   ·rw[decide_eq_true h2,Bool.not_true,cond_false]
    rw[decide_eq_true h2,if_pos rfl]at hK
    exact hn () hK
   ·rw[decide_eq_false h2,Bool.not_false,cond_true]
    rw[decide_eq_false h2,if_neg (by decide)]at hK
    rw[hE,←hK,zin _ (by decide)]
  ·rw[decide_eq_false h1,Bool.not_false,cond_true]
   rw[if_neg h1]at hK
   rw[hE,←hK,zin _ (by decide)]
 ·intro _ hK
  rw[List.drop_eq_nil_of_le (Nat.le_refl _),zcL]at hK
  rw[←hK,zqE]at hE
  refine zaK (·=X) (fun k _=>∀ j,j<k→zim p s (zau p s).2.1 (nth (za3 p i) j)=true) (fun j hj=>by omega) ?_ ?_
  ·intro k _ zbi hk hA hn
   have hpn:=zpF ho hr (show nth (za3 p i) k∈(zai p (nth p.routes i)).1.asks from zab hk)
   have hfr:zim p s (zau p s).2.1 (nth (za3 p i) k)=true↔zbh s (nth (za3 p i) k).pnt=(nth (za3 p i) k).lie∨zeJ p s (nth (za3 p i) k).pnt=0:=by
    rw[zil ho hpa,mayC_ask hst hpn]
   cases hb:zim p s (zau p s).2.1 (nth (za3 p i) k) with
   |true =>
    rw[hb]at hfr
    have:(!decide (zbh s (nth (za3 p i) k).pnt=(nth (za3 p i) k).lie)&&!decide (zeJ p s (nth (za3 p i) k).pnt=0))=false:=by
     rcases hfr.1 rfl with h|h
     ·simp[h]
     ·simp[h]
    rw[this,cond_false]
    refine hn () fun j hj=>?_
    rcases Nat.lt_or_ge j k with h|h
    ·exact hA j h
    ·obtain rfl:j=k:=by omega
     exact hb
   |false =>
    rw[hb]at hfr
    have h1:¬zbh s (nth (za3 p i) k).pnt=(nth (za3 p i) k).lie:=fun h=>by have:=hfr.2 (.inl h);cases this
    have h2:¬zeJ p s (nth (za3 p i) k).pnt=0:=fun h=>by have:=hfr.2 (.inr h);cases this
    rw[decide_eq_false h1,decide_eq_false h2]
    show (183:Int)=X
    rw[if_neg (fun h=>by
     have:=List.all_eq_true.1 h _ (zab hk)
     rw[hb]at this
     cases this)]at hE
    exact hE.symm
  ·intro _ hA
   rw[if_pos (List.all_eq_true.2 fun a ha=>by obtain ⟨j,hj,rfl⟩:=zbG ha;exact hA j hj)]at hE
   exact hE.symm
end Go.Lev
namespace Go.Lev
open Go.Eng
set_option maxRecDepth 10000
set_option maxHeartbeats 4000000
variable {P:Program} {inv:Nat→Option Nat} {w0:World} {M:Nat→Prop}
theorem rtl_id {p:Pln} {s:State} (h:zak p s=true) {i:Nat} (hi:i<s.locks.length):(nth p.routes i).id=(nth s.locks i).id:=by
 have hl2:=zmS h hi
 simp only[zdP,Bool.and_eq_true,decide_eq_true_eq]at hl2
 exact hl2.1.symm
theorem rtl_no {p:Pln} {s:State} (h:zak p s=true) {n:Int} (hn:∀ x∈p.routes,x.id≠n):∀ x∈s.locks,x.id≠n:=fun x hx e=>by
 have h1:x.id∈s.locks.map Lock.id:=List.mem_map_of_mem hx
 rw[zlT h]at h1
 obtain ⟨r,hr,er⟩:=List.mem_map.1 h1
 exact hn r hr (er.trans e)
theorem int_get2 {l:List Int} {k:Nat} (h:k<l.length):(l.map zcQ).flatten[k]?=some (.n (nth l k)):=by
 have:=zgX (c:=zcQ) (l:=l) (k:=k) (i:=0) h (by omega)
 rw[Nat.mul_one,Nat.add_zero]at this
 rw[this]
 rfl
theorem ask_ix (hH:HasAll P inv) {p:Pln} (hp:Sm p) {s:State} (hst:zag p s=0) {i:Nat} (hi:i<p.routes.length) {a:AskR} (ha:a∈za3 p i):∃ q:Nat,q<p.points.length∧q<s.switches.length∧PC P inv 294 [.agg p.c,.n a.pnt] (·=.n q)∧(nth s.switches q).call=zbh s a.pnt∧(nth s.switches q).id=a.pnt:=by
 have ho:=zar hst
 have hpa:=(zad hst).2.1
 have hpl:=zap hpa
 obtain ⟨⟨x,hx,ex⟩,_⟩:=zbI ho (zab hi) ha
 have c3:=zdO hH p (by have:=hp.pts;omega) a.pnt
 rcases zav Pnt.id a.pnt p.points with ⟨_,h4⟩|⟨q,hq,h4,h5⟩
 ·exact absurd ex (h4 x hx)
 ·rw[h4]at c3
  have hsw:=zjk hpa (show q<s.switches.length by omega)
  exact ⟨q,hq,by omega,c3,by rw[←h5,←hsw];exact (zii ho hpa (zab (by omega))).symm,by rw[hsw,h5]⟩
theorem zhN (hH:HasAll P inv) (p:Pln) (hp:Sm p) (s:State) (hs:SmS s) (n:Int):PC P inv 331 [.agg p.c,.agg s.c,.n n] (·=.n (lkC p s n)):=by
 have c1:=zbw hH p hp s hs
 by_cases hst:zag p s=0
 ·rw[hst]at c1
  have ho:=zar hst
  have hpa:=(zad hst).2.1
  have hpl:=zap hpa
  have c2:=zmB hH p (by have:=hp.rte;omega) n
  rcases zav Rte.id n p.routes with ⟨h4,h5⟩|⟨k,hk,h4,h5⟩
  ·rw[h4]at c2
   rw[lkC_no hst (rtl_no hpa h5)]
   refine PC.fn hH cd331 fun w0 M Q hM hE hQ hR=>?_;dsimp only[cd331,qm,ql,qf,qi,qb,qc,qp,qv,qN,qT,qF,qt]at hQ ⊢
   (repeat' first|refine zaa [0,1,2,3,4,6,7,8,9,10,11,12,13,18,24,31,46,55,56,63,64,69,94,96] fun K hK=>?_|(refine hK.go ?_;clear hK K)|with_reducible exact wT|refine wA ?_|(refine wB (fun h=>?_) (fun h=>?_)<;>first|exact wN h|subst (h:(_:Bool)=_)|skip)|(refine wQ ?_;clear hQ hR hE hM)|refine wC c1 ?_|refine wC c2 ?_|fail)
   all_goals first|rfl|(exfalso;contradiction)|trace_state
  ·rw[h4]at c2
   have hks:k<s.locks.length:=by omega
   have hid:(nth s.locks k).id=n:=by rw[←rtl_id hpa hks];exact h5
   rw[zpw hst hks hid]
   have hl3:=hs.2.2
   have hl2:=hs.2.1
   by_cases hph:(nth s.locks k).phase=0
   ·rw[if_pos hph]
    have c3:=ze9 hH p hp (zad hst).1 hk
    have hwl:=zbC ho (zab hk)
    have hwp:=zbT ((zaS (zad hst).1).2.1 _ (zab hk))
    have cS:∀ x∈zb6 p k,PC P inv 296 [.agg p.c,.agg s.c,.n x] (·=.n (nth (zau p s).1 x.toNat))∧PC P inv 335 [.agg p.c,.agg s.c,.n x] (·=.i .u8 (zgH s x)):=fun x hx=>by
     unfold zb6 at hx
     rw[hwp.1,hwp.2.1]at hx
     obtain ⟨q,hq,e⟩:=(zcW ho (zab hk)).1 x hx
     have:=zcc ho hq
     exact ⟨zmP hH p hp s hs hst x (by omega),zmV hH p hp s hs hst (List.any_eq_true.2 ⟨q,hq,by simpa using e⟩)⟩
    have cA:∀ a∈za3 p k,∃ q:Nat,q<p.points.length∧q<s.switches.length∧PC P inv 294 [.agg p.c,.n a.pnt] (·=.n q)∧(nth s.switches q).call=zbh s a.pnt∧(nth s.switches q).id=a.pnt:=fun a ha=>ask_ix hH hp hst hk ha
    have cM:=fun m=>zkM hH p hp s hs m
    obtain ⟨X,hF⟩:∃ X,msF p s (zb6 p k) (za3 p k) (fun m=>nth (zau p s).1 m.toNat)=X:=⟨_,rfl⟩
    rw[←msF_eq hst hks,hF]
    have f0:((zai p (nth p.routes k)).1.path.map zcQ).flatten++((zai p (nth p.routes k)).1.over.map zcQ).flatten=((zb6 p k).map zcQ).flatten:=by unfold zb6;simp
    have f1:(zai p (nth p.routes k)).1.path.length+(zai p (nth p.routes k)).1.over.length=(zb6 p k).length:=by unfold zb6;simp
    have hasl:(za3 p k).length≤1000:=hwl.1
    have hask:(zai p (nth p.routes k)).1.asks=za3 p k:=rfl
    unfold msF at hF
    generalize hH1:(fun m:Int=>nth (zau p s).1 m.toNat)=Hh at hF
    replace cS:∀ x∈zb6 p k,PC P inv 296 [.agg p.c,.agg s.c,.n x] (·=.n (Hh x))∧PC P inv 335 [.agg p.c,.agg s.c,.n x] (·=.i .u8 (zgH s x)):=by subst hH1;exact cS
    clear hH1 hwp ho hpa hpl hst h4 h5 hid
    generalize zb6 p k=all at *
    generalize za3 p k=asl9 at *
    generalize (zai p (nth p.routes k)).1=w at *
    obtain ⟨wp,wo,wa,wn⟩:=w
    dsimp only at c3 hwl f0 f1 hask
    subst hask
    refine PC.fn hH cd331 fun w0 M Q hM hE hQ hR=>?_;dsimp only[cd331,qm,ql,qf,qi,qb,qc,qp,qv,qN,qT,qF,qt]at hQ ⊢
    skip
    (have hX:=zA @f0 @f1;(repeat' first|refine zaa [0,1,2,3,4,6,7,8,9,10,11,12,13,18,24,31,46,55,56,63,64,69,94,96] fun K hK=>?_|(refine hK.go ?_;clear hK K)|with_reducible exact wT|refine wA ?_|(refine wE (fun h0 h=>?_) (fun h0 h=>?_)<;>first|exact wN h|((try replace hF:=wX hF);clear h0;first|exact hF.elim|((try subst (h:(_:Bool)=_));try replace hF:=wX hF)))|(refine wQ ?_;clear hQ hR hE hM)|refine wC c1 ?_|refine wC c2 ?_|refine wC c3 ?_|fail);all_goals clear hX)
    all_goals first|exact hF|(exfalso;contradiction)|skip
    refine zaP hF fun Bd Ed hBd hEd hF=>?_;refine zae (ι:=Nat) [3,4,6,9,10,11] (fun z=>[(11,.n z)]) (fun _=>[]) (fun z=>z) (all.length) (fun z=>(zaT Bd Ed (all.length-z) z ()=X)) (0) ?_;rintro i ⟨hk,hF⟩;(try dsimp only at hk hF ⊢);rcases Nat.lt_or_ge i all.length with hlt|hge
    ·rw[zat hBd hlt]at hF;(try dsimp only at hF)
     have hi9:i<all.length:=by assumption
     obtain ⟨d1,d2⟩:=cS _ (zab hi9)
     have d0:=int_get2 hi9
     generalize Hh (nth all i)=hv at *
     generalize zgH s (nth all i)=iv at *
     (have hX:=@d0;(repeat' first|refine zaa [0,1,2,3,4,6,7,8,9,10,11,12,13,18,24,31,46,55,56,63,64,69,94,96] fun K hK=>?_|(refine hK.go ?_;clear hK K)|with_reducible exact wT|refine wA ?_|(refine wE (fun h0 h=>?_) (fun h0 h=>?_)<;>first|exact wN h|((try replace hF:=wX hF);clear h0;first|exact hF.elim|((try subst (h:(_:Bool)=_));try replace hF:=wX hF)))|(refine wQ ?_;clear hQ hR hE hM)|refine wC d1 ?_|refine wC d2 ?_|fail);all_goals clear hX)
     all_goals first|exact hF|(exfalso;contradiction)|exact congrArg AV.n hF|exact nX (i+1)
    ·rw[zaO hge,hEd]at hF;(try dsimp only at hF)
     (repeat' first|refine zaa [0,1,2,3,4,6,7,8,9,10,11,12,13,18,24,31,46,55,56,63,64,69,94,96] fun K hK=>?_|(refine hK.go ?_;clear hK K)|with_reducible exact wT|refine wA ?_|(refine wE (fun h0 h=>?_) (fun h0 h=>?_)<;>first|exact wN h|((try replace hF:=wX hF);clear h0;first|exact hF.elim|((try subst (h:(_:Bool)=_));try replace hF:=wX hF)))|(refine wQ ?_;clear hQ hR hE hM)|fail)
     refine zaP hF fun Bd Ed hBd hEd hF=>?_;refine zae (ι:=Nat) [3,4,6,9,12] (fun z=>[(12,.n z)]) (fun _=>[]) (fun z=>z) (wa.length) (fun z=>(zaT Bd Ed (wa.length-z) z ()=X)) (0) ?_;rintro j ⟨hk,hF⟩;(try dsimp only at hk hF ⊢);rcases Nat.lt_or_ge j wa.length with hlt|hge
     ·rw[zat hBd hlt]at hF;(try dsimp only at hF)
      obtain ⟨q,hq1,hq2,d3,e3,_⟩:=cA _ (zab (show j<wa.length by assumption))
      have d4:=cM (nth wa j).pnt
      rw[←e3]at hF
      generalize zeJ p s (nth wa j).pnt=mv at *
      (have hX:=@Int.toNat_natCast;(repeat' first|refine zaa [0,1,2,3,4,6,7,8,9,10,11,12,13,18,24,31,46,55,56,63,64,69,94,96] fun K hK=>?_|(refine hK.go ?_;clear hK K)|with_reducible exact wT|refine wA ?_|(refine wE (fun h0 h=>?_) (fun h0 h=>?_)<;>first|exact wN h|((try replace hF:=wX hF);clear h0;first|exact hF.elim|((try subst (h:(_:Bool)=_));try replace hF:=wX hF)))|(refine wQ ?_;clear hQ hR hE hM)|refine wC d3 ?_|refine wU d3 ?_|refine wC d4 ?_|fail);all_goals clear hX)
      all_goals first|exact hF|(exfalso;contradiction)|exact congrArg AV.n hF|exact nX (j+1)
     ·rw[zaO hge,hEd]at hF;(try dsimp only at hF)
      (repeat' first|refine zaa [0,1,2,3,4,6,7,8,9,10,11,12,13,18,24,31,46,55,56,63,64,69,94,96] fun K hK=>?_|(refine hK.go ?_;clear hK K)|with_reducible exact wT|refine wA ?_|(refine wE (fun h0 h=>?_) (fun h0 h=>?_)<;>first|exact wN h|((try replace hF:=wX hF);clear h0;first|exact hF.elim|((try subst (h:(_:Bool)=_));try replace hF:=wX hF)))|(refine wQ ?_;clear hQ hR hE hM)|fail)
      all_goals first|exact hF|exact congrArg AV.n hF|trace_state
   ·rw[if_neg hph]
    clear h4 h5 hid hst ho hpa hpl
    refine PC.fn hH cd331 fun w0 M Q hM hE hQ hR=>?_;dsimp only[cd331,qm,ql,qf,qi,qb,qc,qp,qv,qN,qT,qF,qt]at hQ ⊢
    (repeat' first|refine zaa [0,1,2,3,4,6,7,8,9,10,11,12,13,18,24,31,46,55,56,63,64,69,94,96] fun K hK=>?_|(refine hK.go ?_;clear hK K)|with_reducible exact wT|refine wA ?_|(refine wB (fun h=>?_) (fun h=>?_)<;>first|exact wN h|subst (h:(_:Bool)=_)|skip)|(refine wQ ?_;clear hQ hR hE hM)|refine wC c1 ?_|refine wC c2 ?_|fail)
    all_goals first|rfl|(exfalso;contradiction)|trace_state
 ·have:lkC p s n=zag p s:=by unfold lkC;rw[if_neg hst]
  rw[this]
  generalize zag p s=e at *
  refine PC.fn hH cd331 fun w0 M Q hM hE hQ hR=>?_;dsimp only[cd331,qm,ql,qf,qi,qb,qc,qp,qv,qN,qT,qF,qt]at hQ ⊢
  (repeat' first|refine zaa [0,1,2,3,4,6,7,8,9,10,11,12,13,18,24,31,46,55,56,63,64,69,94,96] fun K hK=>?_|(refine hK.go ?_;clear hK K)|with_reducible exact wT|refine wA ?_|(refine wB (fun h=>?_) (fun h=>?_)<;>first|exact wN h|subst (h:(_:Bool)=_)|skip)|(refine wQ ?_;clear hQ hR hE hM)|refine wC c1 ?_|fail)
  all_goals first|rfl|(exfalso;contradiction)|trace_state
end Go.Lev
namespace Go.Lev
open Go.Eng
set_option maxRecDepth 10000
set_option maxHeartbeats 4000000
variable {P:Program} {inv:Nat→Option Nat} {w0:World} {M:Nat→Prop}
theorem set18_po (hH:HasAll P inv) (p:Pln) (hp:Sm p) (s:State) (hs:SmS s) (n:Int) {k:Nat} (hm:MaySet p s n k):PO P inv 330 [.agg p.c,.agg s.c,.n n] (.tup [zen 6 (zfS s n (za3 p k)),.n 0]) (zdn 6 (zfS s n (za3 p k))):=by
 have c1:=zhN hH p hp s hs n
 rw[zlR.2 ⟨k,hm⟩]at c1
 have hst:=hm.st
 have ho:=zar hst
 have hpa:=(zad hst).2.1
 have hpl:=zap hpa
 have hks:=hm.lt
 have hkr:k<p.routes.length:=by omega
 have c2:=zmB hH p (by have:=hp.rte;omega) n
 have hix:zbd (fun x=>decide (Rte.id x=n)) 0 p.routes=(k:Int):=by rw[←hm.id,←rtl_id hpa hks];exact ziX ho hkr
 rw[hix]at c2
 have c3:=ze9 hH p hp (zad hst).1 hkr
 have c4:=zcd hH s hs
 have cA:∀ a∈za3 p k,∃ q:Nat,q<p.points.length∧q<s.switches.length∧PC P inv 294 [.agg p.c,.n a.pnt] (·=.n q)∧(nth s.switches q).call=zbh s a.pnt∧(nth s.switches q).id=a.pnt:=fun a ha=>ask_ix hH hp hst hkr ha
 have hno:(s.switches.map Switch.id).Nodup:=by rw[zcR hpa];exact zbJ ho
 have hnl:(s.locks.map Lock.id).Nodup:=by rw[zlT hpa];exact zhi ho
 have hidl:=hm.id
 have hl2:=hs.2.1
 have hl3:=hs.2.2
 have hasl:(za3 p k).length≤1000:=(zbC ho (zab hkr)).1
 have hask:(zai p (nth p.routes k)).1.asks=za3 p k:=rfl
 have eL:s.locks.set k ⟨(nth s.locks k).id,1,(nth s.locks k).gone,(nth s.locks k).left⟩=zdZ Lock.id n (fun l=>⟨l.id,1,l.gone,l.left⟩) s.locks:=zcE Lock.id n (fun l=>(⟨l.id,1,l.gone,l.left⟩:Lock)) hnl hks hidl
 have fL:=zaz (c:=Lock.c) (l:=s.locks) (k:=k) (i:=1) hks (by omega) (.i .u8 1) (⟨(nth s.locks k).id,1,(nth s.locks k).gone,(nth s.locks k).left⟩:Lock) rfl
 rw[eL]at fL
 have hidx:∀ (q:List AskR) (l:List Switch) (i:Nat),i<l.length→(nth (zaZ q l) i).id=(nth l i).id:=fun q l i hi=>(zi8 q l i hi).1
 unfold stV stR at c4
 clear hm hst ho hpa hpl hix eL hnl
 generalize za3 p k=asl9 at *
 generalize (zai p (nth p.routes k)).1=w at *
 obtain ⟨wp,wo,wa,wn⟩:=w
 dsimp only at c3 hask
 subst hask
 refine PO.fn hH cd330 fun w0 M Q hM hE hQ hR=>?_;dsimp only[cd330,qm,ql,qf,qi,qb,qc,qp,qv,qN,qT,qF,qt]at hQ ⊢
 (repeat' first|refine zaa [0,1,2,3,4,6,7,8,9,10,11,17,32] fun K hK=>?_|(refine hK.go ?_;clear hK K)|with_reducible exact wT|refine wA ?_|(refine wB (fun h=>?_) (fun h=>?_)<;>first|exact wN h|subst (h:(_:Bool)=_)|skip)|(refine wR ?_;clear hQ hR hE hM)|refine wC c1 ?_|refine wC c2 ?_|refine wC c3 ?_|refine wO c4 ?_|fail)
 all_goals first|(exfalso;contradiction)|skip
 refine zae (ι:=Nat) [3,4,6,7,9,10,11] (fun z=>[(11,.n z)]) (fun z=>[(7,.cells ((zaZ (wa.take z) s.switches).map Switch.c).flatten (decide (0<s.switches.length)))]) (fun z=>z) (wa.length) (fun _=>True) (0) ?_;rintro i ⟨hk,-⟩;(try dsimp only at hk ⊢);rcases Nat.lt_or_ge i wa.length with hlt|hge
 ·obtain ⟨q,hq1,hq2,d3,_,e3⟩:=cA _ (zab hlt)
  have hcl:=zbV (wa.take i) s.switches
  have hq3:q<(zaZ (wa.take i) s.switches).length:=by omega
  have hnd:((zaZ (wa.take i) s.switches).map Switch.id).Nodup:=by rw[zeD];exact hno
  have hid2:(nth (zaZ (wa.take i) s.switches) q).id=(nth wa i).pnt:=by rw[hidx _ _ _ hq2];exact e3
  have e4:=zcE Switch.id (nth wa i).pnt (fun t=>(⟨t.id,t.lie,(nth wa i).lie⟩:Switch)) hnd hq3 hid2
  have e5:=zaz (c:=Switch.c) (l:=zaZ (wa.take i) s.switches) (k:=q) (i:=2) hq3 (by omega) (.i .i64 (nth wa i).lie) (⟨(nth (zaZ (wa.take i) s.switches) q).id,(nth (zaZ (wa.take i) s.switches) q).lie,(nth wa i).lie⟩:Switch) rfl
  rw[e4,←zig,zg3 hlt]at e5
  generalize zaZ (wa.take i) s.switches=U at *
  (have hX:=zA @e5 (zA @hcl @Int.toNat_natCast);(repeat' first|refine zaa [0,1,2,3,4,6,7,8,9,10,11,17,32] fun K hK=>?_|(refine hK.go ?_;clear hK K)|with_reducible exact wT|refine wA ?_|(refine wB (fun h=>?_) (fun h=>?_)<;>first|exact wN h|subst (h:(_:Bool)=_)|skip)|(refine wR ?_;clear hQ hR hE hM)|refine wC d3 ?_|refine wU d3 ?_|fail);all_goals clear hX)
  all_goals first|(exfalso;contradiction)|exact ⟨i+1,by omega,by omega,by omega,rfl⟩|trace_state
 ·rw[List.take_of_length_le hge]
  have hcl:=zbV wa s.switches
  (have hX:=zA @fL @Int.toNat_natCast;(repeat' first|refine zaa [0,1,2,3,4,6,7,8,9,10,11,17,32] fun K hK=>?_|(refine hK.go ?_;clear hK K)|with_reducible exact wT|refine wA ?_|(refine wB (fun h=>?_) (fun h=>?_)<;>first|exact wN h|subst (h:(_:Bool)=_)|skip)|(refine wR ?_;clear hQ hR hE hM)|fail);all_goals clear hX)
  all_goals (left;unfold zen zdn zfS;dsimp only;rw[zbe,zbV];constructor)
  all_goals (refine no_implicit_lambda% (st ?_);try with_reducible exact wT)
theorem set18_pc (hH:HasAll P inv) (p:Pln) (hp:Sm p) (s:State) (hs:SmS s) (n:Int):PC P inv 330 [.agg p.c,.agg s.c,.n n] (·=.tup [.agg (lkS p s n).c,.n (lkC p s n)]):=by
 by_cases he:lkC p s n=0
 ·obtain ⟨k,hm⟩:=zlR.1 he
  have:=(set18_po hH p hp s hs n hm).pc
  rw[zbL]at this
  rw[hm.lkS,he]
  exact this
 ·have c1:=zhN hH p hp s hs n
  unfold lkS
  rw[if_neg he]
  generalize lkC p s n=e at *
  refine PC.fn hH cd330 fun w0 M Q hM hE hQ hR=>?_;dsimp only[cd330,qm,ql,qf,qi,qb,qc,qp,qv,qN,qT,qF,qt]at hQ ⊢
  (repeat' first|refine zaa [0,1,2,3,4,6,7,8,9,10,11,17,32] fun K hK=>?_|(refine hK.go ?_;clear hK K)|with_reducible exact wT|refine wA ?_|(refine wB (fun h=>?_) (fun h=>?_)<;>first|exact wN h|subst (h:(_:Bool)=_)|skip)|(refine wQ ?_;clear hQ hR hE hM)|refine wC c1 ?_|fail)
  all_goals first|rfl|(exfalso;contradiction)|trace_state
end Go.Lev
namespace Go.Lev
open Go.Eng
set_option maxRecDepth 10000
set_option maxHeartbeats 4000000
variable {P:Program} {inv:Nat→Option Nat} {w0:World} {M:Nat→Prop}
theorem setK_sm {s:State} (h:SmS s) (n:Int) (q:List AskR):SmS (zfS s n q):=⟨h.1,by show (zaZ _ _).length≤_;rw[zbV];exact h.2.1,by show (zdZ _ _ _ _).length≤_;rw[zbe];exact h.2.2⟩
end Go.Lev
namespace Go.Lev
open Go.Eng
set_option maxRecDepth 10000
set_option maxHeartbeats 4000000
variable {P:Program} {inv:Nat→Option Nat} {w0:World} {M:Nat→Prop}
theorem lockSets_pc (hH:HasAll P inv) (hI:HasIds P inv) (p:Pln) (hp:Pln.ok p) (s:State) (n:Int):PC P inv 325 [.agg p.c,.agg s.c,.n n] (·=.b true):=by
 have c1:=zdj hH p
 have c2:=zfg hH s
 cases g1:zgx p with
 |true =>
  rw[g1]at c1
  refine PC.fn hH cd325 fun w0 M Q hM hE hQ hR=>?_;dsimp only[cd325,qm,ql,qf,qi,qb,qc,qp,qv,qN,qT,qF,qt]at hQ ⊢
  (repeat' first|refine zaa [0,1,2,3,4,6,7,8,9,10,11,12,13,19,38,53,55,60,72] fun K hK=>?_|(refine hK.go ?_;clear hK K)|with_reducible exact wT|refine wA ?_|(refine wB (fun h=>?_) (fun h=>?_)<;>first|exact wN h|subst (h:(_:Bool)=_)|skip)|(refine wQ ?_;clear hQ hR hE hM)|refine wC c1 ?_|fail)
 |false =>
  rw[g1]at c1
  cases g2:zhV s with
  |true =>
   rw[g2]at c2
   refine PC.fn hH cd325 fun w0 M Q hM hE hQ hR=>?_;dsimp only[cd325,qm,ql,qf,qi,qb,qc,qp,qv,qN,qT,qF,qt]at hQ ⊢
   (repeat' first|refine zaa [0,1,2,3,4,6,7,8,9,10,11,12,13,19,38,53,55,60,72] fun K hK=>?_|(refine hK.go ?_;clear hK K)|with_reducible exact wT|refine wA ?_|(refine wB (fun h=>?_) (fun h=>?_)<;>first|exact wN h|subst (h:(_:Bool)=_)|skip)|(refine wQ ?_;clear hQ hR hE hM)|refine wC c1 ?_|refine wC c2 ?_|fail)
  |false =>
   rw[g2]at c2
   have sp:=sm_of hp g1
   have ss:=zms g2
   have c3:=zcd hH s ss
   have c4:=set18_pc hH p sp s ss n
   have c5:=zlQ hH hI p sp s ss n
   have c6:=zhN hH p sp s ss n
   have c7:=za6 hH ss (rfl:s=s)
   have hl1:=ss.1
   have hl2:=ss.2.1
   have hl3:=ss.2.2
   unfold stV stR at c3
   by_cases he:lkC p s n=0
   ·have c8:=ziW hH hI p sp s ss n he
    have e1:lkS p s n=zfS s n (lkW p s n).asks:=by unfold lkS;rw[if_pos he]
    have sT:=setK_sm ss n (lkW p s n).asks
    have c9:=za6 hH sT (rfl:zfS s n (lkW p s n).asks=_)
    have hnr:=ze0 6 (zfS s n (lkW p s n).asks)
    rw[e1,he]at c4
    rw[he]at c5 c6
    have hl4:=sT.2.1
    have hl5:=sT.2.2
    clear e1 he
    generalize zfS s n (lkW p s n).asks=T at *
    unfold zen zdn at c8
    unfold zdn at hnr
    refine PC.fn hH cd325 fun w0 M Q hM hE hQ hR=>?_;dsimp only[cd325,qm,ql,qf,qi,qb,qc,qp,qv,qN,qT,qF,qt]at hQ ⊢
    (repeat' first|refine zaa [0,1,2,3,4,6,7,8,9,10,11,12,13,19,38,53,55,60,72] fun K hK=>?_|(refine hK.go ?_;clear hK K)|with_reducible exact wT|refine wA ?_|(refine wB (fun h=>?_) (fun h=>?_)<;>first|exact wN h|subst (h:(_:Bool)=_)|skip)|(refine wQ ?_;clear hQ hR hE hM)|refine wC c1 ?_|refine wC c2 ?_|refine wO c3 ?_|refine wV c8 ?_|refine wC c4 ?_|refine wS c9 ?_|refine wS c5 ?_|refine wP c5 ?_|refine wC c6 ?_|fail)
    all_goals first|(exfalso;contradiction)|skip
    refine zae (ι:=Nat) [4,6,7,8,12] (fun z=>[(12,.n z)]) (fun z=>[(15,.cells ((zbN w9 z T.switches).map Switch.c).flatten (decide (0<T.switches.length)))]) (fun z=>z) (T.switches.length) (fun _=>True) (0) ?_;rintro k ⟨hk,-⟩;(try dsimp only at hk ⊢);rcases Nat.lt_or_ge k T.switches.length with hlt|hge
    ·have d1:=zaX w9 hlt
     have d2:=zaz (c:=Switch.c) (l:=zbN w9 k T.switches) (k:=k) (i:=2) (by rw[zaB];exact hlt) (by omega) (.i .i64 9) (w9 k (nth T.switches k)) (by rw[zaI _ hlt];rfl)
     rw[d1]at d2
     (have hX:=@d2;(repeat' first|refine zaa [0,1,2,3,4,6,7,8,9,10,11,12,13,19,38,53,55,60,72] fun K hK=>?_|(refine hK.go ?_;clear hK K)|with_reducible exact wT|refine wA ?_|(refine wB (fun h=>?_) (fun h=>?_)<;>first|exact wN h|subst (h:(_:Bool)=_)|skip)|(refine wQ ?_;clear hQ hR hE hM)|fail);all_goals clear hX)
     all_goals first|(exfalso;contradiction)|exact ⟨k+1,by omega,by omega,by omega,rfl⟩|trace_state
    ·(repeat' first|refine zaa [0,1,2,3,4,6,7,8,9,10,11,12,13,19,38,53,55,60,72] fun K hK=>?_|(refine hK.go ?_;clear hK K)|with_reducible exact wT|refine wA ?_|(refine wB (fun h=>?_) (fun h=>?_)<;>first|exact wN h|subst (h:(_:Bool)=_)|skip)|(refine wQ ?_;clear hQ hR hE hM)|fail)
     refine zae (ι:=Nat) [4,6,7,8,13] (fun z=>[(13,.n z)]) (fun z=>[(16,.cells ((zbN k9 z T.locks).map Lock.c).flatten (decide (0<T.locks.length)))]) (fun z=>z) (T.locks.length) (fun _=>True) (0) ?_;rintro k2 ⟨hk,-⟩;(try dsimp only at hk ⊢);rcases Nat.lt_or_ge k2 T.locks.length with hlt|hge
     ·have hlt2:k2<T.locks.length:=by assumption
      have d1:=zaX k9 hlt2
      have d2:=zaz (c:=Lock.c) (l:=zbN k9 k2 T.locks) (k:=k2) (i:=1) (by rw[zaB];exact hlt2) (by omega) (.i .u8 9) (k9 k2 (nth T.locks k2)) (by rw[zaI _ hlt2];rfl)
      rw[d1]at d2
      (have hX:=@d2;(repeat' first|refine zaa [0,1,2,3,4,6,7,8,9,10,11,12,13,19,38,53,55,60,72] fun K hK=>?_|(refine hK.go ?_;clear hK K)|with_reducible exact wT|refine wA ?_|(refine wB (fun h=>?_) (fun h=>?_)<;>first|exact wN h|subst (h:(_:Bool)=_)|skip)|(refine wQ ?_;clear hQ hR hE hM)|fail);all_goals clear hX)
      all_goals first|(exfalso;contradiction)|exact ⟨k2+1,by omega,by omega,by omega,rfl⟩|trace_state
     ·(repeat' first|refine zaa [0,1,2,3,4,6,7,8,9,10,11,12,13,19,38,53,55,60,72] fun K hK=>?_|(refine hK.go ?_;clear hK K)|with_reducible exact wT|refine wA ?_|(refine wB (fun h=>?_) (fun h=>?_)<;>first|exact wN h|subst (h:(_:Bool)=_)|skip)|(refine wQ ?_;clear hQ hR hE hM)|refine wS c7 ?_|fail)
      all_goals first|rfl|(exfalso;contradiction)|trace_state
   ·have c8:=znQ hH hI p sp s ss n
    have e1:lkS p s n=State.z:=by unfold lkS;rw[if_neg he]
    have c9:=za6 hH (a:=State.z) ⟨by decide,by decide,by decide⟩ (rfl:State.z=State.z)
    rw[e1]at c4 c8
    unfold State.z at c4 c8 c9
    clear e1
    generalize lkC p s n=e at *
    refine PC.fn hH cd325 fun w0 M Q hM hE hQ hR=>?_;dsimp only[cd325,qm,ql,qf,qi,qb,qc,qp,qv,qN,qT,qF,qt]at hQ ⊢
    (repeat' first|refine zaa [0,1,2,3,4,6,7,8,9,10,11,12,13,19,38,53,55,60,72] fun K hK=>?_|(refine hK.go ?_;clear hK K)|with_reducible exact wT|refine wA ?_|(refine wB (fun h=>?_) (fun h=>?_)<;>first|exact wN h|subst (h:(_:Bool)=_)|skip)|(refine wQ ?_;clear hQ hR hE hM)|refine wC c1 ?_|refine wC c2 ?_|refine wO c3 ?_|refine wS c8 ?_|refine wC c4 ?_|refine wS c9 ?_|refine wS c5 ?_|refine wP c5 ?_|refine wC c6 ?_|fail)
    all_goals first|(exfalso;contradiction)|skip
    refine zae (ι:=Nat) [4,6,7,8,12] (fun z=>[(12,.n z)]) (fun _=>[]) (fun z=>z) (0) (fun _=>True) (0) ?_;rintro k ⟨hk,-⟩;(try dsimp only at hk ⊢);rcases Nat.lt_or_ge k 0 with hlt|hge
    ·exact absurd hlt (by omega)
    ·(repeat' first|refine zaa [0,1,2,3,4,6,7,8,9,10,11,12,13,19,38,53,55,60,72] fun K hK=>?_|(refine hK.go ?_;clear hK K)|with_reducible exact wT|refine wA ?_|(refine wB (fun h=>?_) (fun h=>?_)<;>first|exact wN h|subst (h:(_:Bool)=_)|skip)|(refine wQ ?_;clear hQ hR hE hM)|fail)
     refine zae (ι:=Nat) [4,6,7,8,13] (fun z=>[(13,.n z)]) (fun _=>[]) (fun z=>z) (0) (fun _=>True) (0) ?_;rintro k2 ⟨hk,-⟩;(try dsimp only at hk ⊢);rcases Nat.lt_or_ge k2 0 with hlt|hge
     ·exact absurd (show k2<0 by assumption) (by omega)
     ·(repeat' first|refine zaa [0,1,2,3,4,6,7,8,9,10,11,12,13,19,38,53,55,60,72] fun K hK=>?_|(refine hK.go ?_;clear hK K)|with_reducible exact wT|refine wA ?_|(refine wB (fun h=>?_) (fun h=>?_)<;>first|exact wN h|subst (h:(_:Bool)=_)|skip)|(refine wQ ?_;clear hQ hR hE hM)|refine wS c7 ?_|fail)
      all_goals first|rfl|(exfalso;contradiction)|trace_state
end Go.Lev
