/-
  The contracts of plan.id, one for each type of element: its answer is the element's first cell. Conditions: none.
-/
import Derived.Test.YtjfongdncghjmaaGreatSeat
import Derived.Test.YtjfongdncghjmaaGreatL1
import Derived.WalkKit
import Derived.Below
set_option linter.unusedSimpArgs false
set_option linter.unusedVariables false
namespace Go.Eng.Tryz
open Go Go.RowKit Go.Proofs.Tryz Go.Eng
theorem assertNo {P:Program} {T U:TypeId} {fs:Array Field} {z:Value} (hu:P.underlying U=some (.struct fs)) (hz:(P.info? U).bind (·.zero)=some z) (ne:T≠U) (I:TypeId) (w:World) (v:Value) :
  (Instr.typeAssert (.iface T v) I U true).run P w=.ok (.tuple #[z,.bool false]) w:=by
 obtain ⟨i,h1,h2⟩:=Option.bind_eq_some_iff.1 hz;simp[Instr.typeAssert,run_underlying hu,zeroValue,typeInfo,h1,h2,ne]
theorem assertYes {P:Program} {U:TypeId} {fs:Array Field} (hu:P.underlying U=some (.struct fs)) (I:TypeId) (w:World) (v:Value) :
  (Instr.typeAssert (.iface U v) I U true).run P w=.ok (.tuple #[v,.bool true]) w:=by
 simp[Instr.typeAssert,run_underlying hu]
theorem below2 (w:World) (a b:Obj):Below w.heap.size w ((w.alloc a).alloc b):=((Below.refl _ _).alloc (Nat.le_refl _) _).alloc (by simp) _
set_option maxHeartbeats 4000000 in
set_option maxRecDepth 100000 in
theorem idPointW (n a:Int) (w:World):Calls prog 181 #[.agg #[.int .i64 n,.int .i64 a]] w fun e w'=>e=.returned (.int .i64 n)/\Below w.heap.size w w':=by
 have tY:=@assertYes prog 146 _ underlying146
 go_enter func181,ntmps181
 go_wp2
 go_ret
 exact ⟨rfl,below2 _ _ _⟩
set_option maxHeartbeats 4000000 in
set_option maxRecDepth 100000 in
theorem idSignalW (n a b:Int) (w:World):Calls prog 183 #[.agg #[.int .i64 n,.int .i64 a,.int .i64 b]] w fun e w'=>e=.returned (.int .i64 n)/\Below w.heap.size w w':=by
 have tPoint:=@assertNo prog 184 146 _ (.agg #[.int .i64 0,.int .i64 0]) underlying146 (by kernel_rfl) (by decide)
 have tY:=@assertYes prog 184 _ underlying184
 go_enter func183,ntmps183
 go_wp2
 go_ret
 exact ⟨rfl,below2 _ _ _⟩
set_option maxHeartbeats 4000000 in
set_option maxRecDepth 100000 in
theorem idRouteW (n a b t:Int) (p1 p2 p3:Option Addr) (l1 c1 l2 c2 l3 c3:Nat) (w:World):Calls prog 161 #[.agg #[.int .i64 n,.int .i64 a,.int .i64 b,.slice p1 l1 c1,.slice p2 l2 c2,.slice p3 l3 c3,.int .i64 t]] w fun e w'=>e=.returned (.int .i64 n)/\Below w.heap.size w w':=by
 have tPoint:=@assertNo prog 79 146 _ (.agg #[.int .i64 0,.int .i64 0]) underlying146 (by kernel_rfl) (by decide)
 have tSignal:=@assertNo prog 79 184 _ (.agg #[.int .i64 0,.int .i64 0,.int .i64 0]) underlying184 (by kernel_rfl) (by decide)
 have tY:=@assertYes prog 79 _ underlying79
 go_enter func161,ntmps161
 go_wp2
 go_ret
 exact ⟨rfl,below2 _ _ _⟩
theorem invOne {j g0:Nat} (h:(List.range tab.length).all (fun g=>!(inv g == some j)||Nat.beq g g0)=true):∀ g,inv g=some j->g=g0:=by
 intro g hg;by_cases hl:g<tab.length
 ·have:=List.all_eq_true.1 h g (List.mem_range.2 hl)
  rw[hg]at this
  simpa using this
 ·unfold inv at hg
  rw[List.getElem?_eq_none (by omega)]at hg
  cases hg
def slcV (x:AV):Bool:=match x with|.s0 _=>true|.sl _ _=>true|_=>false
theorem slcV_rel {c:Ctx} {x:AV} {v:Value} (h:slcV x=true) (r:rel c x v):∃ p l k,v=.slice p l k:=by
 unfold slcV at h;split at h
 ·simp only[rel]at r;obtain ⟨ad,rfl⟩:=r;exact ⟨_,_,_,rfl⟩
 ·simp only[rel]at r;obtain ⟨ad,cap,rfl,_⟩:=r;exact ⟨_,_,_,rfl⟩
 ·cases h
theorem pcOf {j g:Nat} {a:List AV} {n:Int} (hi:∀ g',inv g'=some j->g'=g) (hc:∀ (M:Nat->Prop) (w:World) (vs:Array Value),zcp ⟨inv,w,M,fun _=>none⟩ a vs.toList->Calls prog g vs w fun e w'=>e=.returned (.int .i64 n)/\Below w.heap.size w w'):PC prog inv j a (·=.i .i64 n):=by
 intro g' hg M w vs _ hr;rw[hi g' hg];refine (hc M w vs hr).mono ?_;rintro e w' ⟨he,hb⟩;exact ⟨_,_,he,rfl,hb,rfl,by simp only[rel]⟩
theorem arr_eq {v:Value} {vs:Array Value} (h:vs.toList=[v]):vs=#[v]:=by cases vs;simp at h;simp[h]
theorem id_Point (n a:Int):PC prog inv 141 [.agg [.i .i64 n,.i .i64 a]] (·=.i .i64 n):=pcOf (invOne (g0:=181) (by kernel_rfl)) fun M w vs hr=>by
 simp only[zcp,rel,relCs]at hr;obtain ⟨y,ys,e,⟨xs,rfl,z1,r1,e1,_,rfl,z2,r2,e2,_,rfl,rfl⟩,rfl⟩:=hr;have hx:xs=#[.int .i64 n,.int .i64 a]:=by rw[e2]at e1;cases xs;simp at e1;simp[e1]
 rw[arr_eq e,hx];exact idPointW n a w
theorem id_Signal (n a b:Int):PC prog inv 142 [.agg [.i .i64 n,.i .i64 a,.i .i64 b]] (·=.i .i64 n):=pcOf (invOne (g0:=183) (by kernel_rfl)) fun M w vs hr=>by
 simp only[zcp,rel,relCs]at hr;obtain ⟨y,ys,e,⟨xs,rfl,z1,r1,e1,_,rfl,z2,r2,e2,_,rfl,z3,r3,e3,_,rfl,rfl⟩,rfl⟩:=hr;have hx:xs=#[.int .i64 n,.int .i64 a,.int .i64 b]:=by rw[e3]at e2;rw[e2]at e1;cases xs;simp at e1;simp[e1]
 rw[arr_eq e,hx];exact idSignalW n a b w
theorem id_Route (n a b t:Int) (x y z:AV) (hx:slcV x=true) (hy:slcV y=true) (hz:slcV z=true):PC prog inv 135 [.agg [.i .i64 n,.i .i64 a,.i .i64 b,x,y,z,.i .i64 t]] (·=.i .i64 n):=pcOf (invOne (g0:=161) (by kernel_rfl)) fun M w vs hr=>by
 simp only[zcp,relCs]at hr;obtain ⟨y0,ys,e,hr,rfl⟩:=hr;simp only[rel]at hr;obtain ⟨xs,rfl,hr⟩:=hr;simp only[relCs]at hr;obtain ⟨z1,r1,e1,_,q1,z2,r2,e2,_,q2,z3,r3,e3,_,q3,z4,r4,e4,_,q4,z5,r5,e5,_,q5,z6,r6,e6,_,q6,z7,r7,e7,_,q7,e8⟩:=hr;simp only[rel]at q1 q2 q3 q7;obtain ⟨p4,l4,c4,rfl⟩:=slcV_rel hx q4;obtain ⟨p5,l5,c5,rfl⟩:=slcV_rel hy q5;obtain ⟨p6,l6,c6,rfl⟩:=slcV_rel hz q6;subst q1 q2 q3 q7 e8;have hxs:xs=#[.int .i64 n,.int .i64 a,.int .i64 b,.slice p4 l4 c4,.slice p5 l5 c5,.slice p6 l6 c6,.int .i64 t]:=by rw[e7]at e6;rw[e6]at e5;rw[e5]at e4;rw[e4]at e3;rw[e3]at e2;rw[e2]at e1;cases xs;simp at e1;simp[e1]
 rw[arr_eq e,hxs];exact idRouteW n a b t p4 p5 p6 l4 c4 l5 c5 l6 c6 w
theorem ids:Go.Lev.HasIds prog inv:=⟨fun x=>id_Point x.id x.sec,fun x=>id_Signal x.id x.sec x.ed,fun x=>id_Route x.id x.entry x.exit x.timer _ _ _ rfl rfl rfl⟩
end Go.Eng.Tryz
