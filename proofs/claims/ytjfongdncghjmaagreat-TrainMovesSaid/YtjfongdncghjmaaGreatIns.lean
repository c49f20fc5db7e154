/-
  What slices.Insert does in the model, of one element that lies in a block of its own: for trains, for numbers. Conditions: none.
-/
import Derived.Test.YtjfongdncghjmaaGreatL15
import Derived.Test.YtjfongdncghjmaaGreatSeat
import Derived.Test.YtjfongdncghjmaaGreatProg
import Derived.WalkKit
import Derived.Lib.Walk
import Derived.Lib.SliceRun
import Derived.Lib.JoinLaws
import Derived.Lib.AppendZeros
import Derived.Lib.AppendZerosOnto
import Derived.Lib.Overlaps
import Derived.Laws.Externs
import Derived.Laws.IdiomCopy
import Derived.Deep.RegionLaw
set_option linter.unusedSimpArgs false
set_option linter.unusedVariables false
namespace Go.Eng.Tryz
open Go Go.RowKit Go.Proofs.Tryz Go.Eng
set_option maxHeartbeats 4000000 in
set_option maxRecDepth 100000 in
theorem ins_trn_end (w w1:World) (base:Option Addr) (n c vb voff m vc:Nat) (r:Value) (hm:0<m) (hnil:base=none->n=0)
  (hrun:∀ ty,(Builtin.append_ #[33,33] ty #[.slice base n c,.slice (some ⟨vb,voff,none⟩) m vc]).run prog w=.ok r w1) :
  Calls prog 60 #[.slice base n c,.int .i64 n,.slice (some ⟨vb,voff,none⟩) m vc] w fun e w'=>e=.returned r/\w'=w1:=by
 have hz1:¬((m:Int)=0):=by omega
 go_enter func60,ntmps60
 cases base with
 |none =>
  have h0:=hnil rfl;subst h0
  go_wp2_with (at_builtin;refine Lib.wpList_append_run _ rfl _ _ _ _ rfl _ _ rfl rfl _ _ (hrun _) ?_)
  all_goals (go_ret;exact ⟨rfl,rfl⟩)
 |some a =>
  obtain ⟨ab,ao,asp⟩:=a
  go_wp2_with (at_builtin;refine Lib.wpList_append_run _ rfl _ _ _ _ rfl _ _ rfl rfl _ _ (hrun _) ?_)
  all_goals (go_ret;exact ⟨rfl,rfl⟩)
set_option maxHeartbeats 4000000 in
set_option maxRecDepth 100000 in
theorem ins_trn_room (w:World) (b off n c i vb voff m vc k1 k2:Nat) (A1 A2:Array Value) (hi:i<n) (hm:0<m) (hroom:n+m<=c) (h63:n+m<=1000000000)
  (hov:∀ lb cb,(callFunc 101 #[.slice (some ⟨vb,voff,none⟩) m vc,.slice (some ⟨b,off+(i+m)*8,none⟩) lb cb]).run prog w=.ok (.value (.bool false)) w)
  (hcp1:∀ ty dc sc,(Builtin.copy_ #[33,33] ty #[.slice (some ⟨b,off+(i+m)*8,none⟩) (n+m-(i+m)) dc,.slice (some ⟨b,off+i*8,none⟩) (n+m-i) sc]).run prog w.drew=.ok (goInt k1) (w.drew.setRow b A1))
  (hcp2:∀ ty dc,(Builtin.copy_ #[33,33] ty #[.slice (some ⟨b,off+i*8,none⟩) (n+m-i) dc,.slice (some ⟨vb,voff,none⟩) m vc]).run prog (w.drew.setRow b A1)=.ok (goInt k2) ((w.drew.setRow b A1).setRow b A2)) :
  Calls prog 60 #[.slice (some ⟨b,off,none⟩) n c,.int .i64 i,.slice (some ⟨vb,voff,none⟩) m vc] w fun e w'=>e=.returned (.slice (some ⟨b,off,none⟩) (n+m) c)/\w'=(w.drew.setRow b A1).setRow b A2:=by
 have hz1:¬((m:Int)=0):=by omega
 have hz2:¬((i:Int)=(n:Int)):=by omega
 have hw1:IntKind.i64.wrap ((i:Int)+(m:Int))=(i:Int)+(m:Int):=by rw[IntKind.wrap_i64];omega
 have hb1:(0:Int)<=(i:Int)+(m:Int):=by omega
 have hin:i<=n:=by omega
 have htn:((i:Int)+(m:Int)).toNat=i+m:=by omega
 have hb2:¬(c=i+m):=by omega
 have hb3:(i:Int)<=(n:Int)+(m:Int):=by omega
 have hb4:¬(c=i):=by omega
 go_enter func60,ntmps60
 go_wp2_with (simp only[hov])
 go_region_law (refine step_copy_run2 rfl _ _ 33 33 rfl _ _ (by simp[Act.eval,Act.put]) (by simp[Act.eval,Act.put]) (hcp1 _ _ _) ?_)
 go_wp2_with (at_builtin;refine zpJ _ rfl _ _ 33 33 rfl _ _ rfl rfl (hcp2 _ _) ?_)
 go_ret
 exact ⟨rfl,rfl⟩
set_option maxHeartbeats 4000000 in
set_option maxRecDepth 100000 in
theorem ins_trn_grow (w:World) (b off n c i vb voff m vc k1 k2 G:Nat) (ROW A1 A2:Array Value) (hi:i<n) (hm:0<m) (hnc:n<=c) (hroom:c<n+m) (h63:n+m<=1000000000) (hGn:n+m<=G)
  (hrz:∀ ty,(Builtin.append_ #[33,3] ty #[.slice (some ⟨b,off,none⟩) i c,.int .i64 ((n:Int)+(m:Int)-(i:Int))]).run prog w=.ok (.slice (some ⟨w.heap.size,0,none⟩) (n+m) G) (w.drew.alloc (.cells ROW 52)))
  (hcpA:∀ (W:World),W.heap=(w.drew.alloc (.cells ROW 52)).heap->∀ ty dc,(Builtin.copy_ #[33,33] ty #[.slice (some ⟨w.heap.size,i*8,none⟩) (n+m-i) dc,.slice (some ⟨vb,voff,none⟩) m vc]).run prog W=.ok (goInt k1) (W.setRow w.heap.size A1))
  (hcpB:∀ (W:World),W.heap=((w.drew.alloc (.cells ROW 52)).setRow w.heap.size A1).heap->∀ ty dc sc,(Builtin.copy_ #[33,33] ty #[.slice (some ⟨w.heap.size,(i+m)*8,none⟩) (n+m-(i+m)) dc,.slice (some ⟨b,off+i*8,none⟩) (n-i) sc]).run prog W=.ok (goInt k2) (W.setRow w.heap.size A2)) :
  Calls prog 60 #[.slice (some ⟨b,off,none⟩) n c,.int .i64 i,.slice (some ⟨vb,voff,none⟩) m vc] w fun e' w'=>e'=.returned (.slice (some ⟨w.heap.size,0,none⟩) (n+m) G)/\w'.heap=(((w.drew.alloc (.cells ROW 52)).setRow w.heap.size A1).setRow w.heap.size A2).heap/\w'.os=w.os/\w'.tape=w.tape/\w'.output=w.output:=by
 have hz1:¬((m:Int)=0):=by omega
 have hz2:¬((i:Int)=(n:Int)):=by omega
 have hz3:(c:Int)<(n:Int)+(m:Int):=by omega
 have hGi:¬(G=i):=by omega
 have hGim:¬(G=i+m):=by omega
 have hci:¬(c=i):=by omega
 have hw1:IntKind.i64.wrap ((i:Int)+(m:Int))=(i:Int)+(m:Int):=by rw[IntKind.wrap_i64];omega
 have hw2:IntKind.i64.wrap ((n:Int)+(m:Int))=(n:Int)+(m:Int):=by rw[IntKind.wrap_i64];omega
 have hw3:IntKind.i64.wrap ((n:Int)+(m:Int)-(i:Int))=(n:Int)+(m:Int)-(i:Int):=by rw[IntKind.wrap_i64];omega
 have hb1:(0:Int)<=(i:Int)+(m:Int):=by omega
 have hin:i<=n:=by omega
 have htn:((i:Int)+(m:Int)).toNat=i+m:=by omega
 have hb3:(i:Int)<=(n:Int):=by omega
 have hE1:((w.alloc (.cells ROW 52)).drew).heap=(w.drew.alloc (.cells ROW 52)).heap:=rfl;have hF1:(((w.alloc (.cells ROW 52)).drew.setRow w.heap.size A1).drew).heap=((w.drew.alloc (.cells ROW 52)).setRow w.heap.size A1).heap:=rfl;have cB:=hcpB _ hF1;have cA:=hcpA _ hE1;have cA2:=hcpA _ rfl;have cB2:=hcpB _ rfl;clear hE1 hF1
 go_enter func60,ntmps60
 go_wp2_with (first
  |(at_builtin;refine Lib.wpList_append_run _ rfl _ _ _ _ rfl _ _ rfl rfl _ _ (hrz _) ?_)
  |(at_builtin;refine zpJ _ rfl _ _ 33 33 rfl _ _ rfl rfl (hcpA _ rfl _ _) ?_))
 go_region_law (refine step_copy_run2 rfl _ _ 33 33 rfl (.slice (some ⟨w.heap.size,(i+m)*8,none⟩) (n+m-(i+m)) (G-(i+m))) (.slice (some ⟨b,off+i*8,none⟩) (n-i) (c-i)) (by simp[Act.eval,Act.put]) (by simp[Act.eval,Act.put]) (hcpB _ rfl _ (G-(i+m)) (c-i)) ?_)
 go_wp2
 go_ret
 exact ⟨rfl,rfl,rfl,rfl,rfl⟩
theorem ins_trn_ov (w:World) (vb vc b o lb cb:Nat) (vxs xs:Array Value) (vty ty:TypeId) (h1:w.heap[vb]?=some (.cells vxs vty (0,0))) (h2:w.heap[b]?=some (.cells xs ty (0,0))) (hne:vb≠b) (hp:0<xs.size) :
  (callFunc 101 #[.slice (some ⟨vb,0,none⟩) 1 vc,.slice (some ⟨b,o,none⟩) lb cb]).run prog w=.ok (.value (.bool false)) w:=by
 rw[run_callFunc_extern func101 (by kernel_rfl) (by kernel_rfl) (by kernel_rfl) (e:=Extern.SlicesOverlaps.overlaps #[33,33] #[4]) (by kernel_rfl),
  Lib.run_overlaps_apart w 33 4 52 underlying33 8 (fun w=>by kernel_rfl) ⟨vb,0,none⟩ ⟨b,o,none⟩ 1 vc lb cb hne vty ty vxs.size xs.size (by simp[World.shape?,h1]) (by simp[World.shape?,h2]) (by omega) (by simp[World.frozen?,h1]) (by simp[World.frozen?,h1])]
 rfl
theorem ins_trn:InsC prog 60 8:=by
 have hs:((prog.info? 52).map fun i=>(i.zero.map fun z=>z.cells.size,i.size,decide (i.bytes<=32768)))=some (some 8,8,true):=by kernel_rfl
 obtain ⟨i0,hi0,hs⟩:=Option.map_eq_some_iff.1 hs;simp only[Prod.mk.injEq,decide_eq_true_eq]at hs;obtain ⟨hz,hsz,hby⟩:=hs;obtain ⟨z,hz,hzc⟩:=Option.map_eq_some_iff.1 hz;exact insC_of (ov:=101) (S:=33) (SI:=3) (mul:=fun x=>x*8) (fun x=>by omega) underlying33 underlying3 hi0 hz hsz (by omega) hzc hby ins_trn_ov ins_trn_end ins_trn_room ins_trn_grow
set_option maxHeartbeats 4000000 in
set_option maxRecDepth 100000 in
theorem ins_int_end (w w1:World) (base:Option Addr) (n c vb voff m vc:Nat) (r:Value) (hm:0<m) (hnil:base=none->n=0)
  (hrun:∀ ty,(Builtin.append_ #[50,50] ty #[.slice base n c,.slice (some ⟨vb,voff,none⟩) m vc]).run prog w=.ok r w1) :
  Calls prog 66 #[.slice base n c,.int .i64 n,.slice (some ⟨vb,voff,none⟩) m vc] w fun e w'=>e=.returned r/\w'=w1:=by
 have hz1:¬((m:Int)=0):=by omega
 go_enter func66,ntmps66
 cases base with
 |none =>
  have h0:=hnil rfl;subst h0
  go_wp2_with (at_builtin;refine Lib.wpList_append_run _ rfl _ _ _ _ rfl _ _ rfl rfl _ _ (hrun _) ?_)
  all_goals (go_ret;exact ⟨rfl,rfl⟩)
 |some a =>
  obtain ⟨ab,ao,asp⟩:=a
  go_wp2_with (at_builtin;refine Lib.wpList_append_run _ rfl _ _ _ _ rfl _ _ rfl rfl _ _ (hrun _) ?_)
  all_goals (go_ret;exact ⟨rfl,rfl⟩)
set_option maxHeartbeats 4000000 in
set_option maxRecDepth 100000 in
theorem ins_int_room (w:World) (b off n c i vb voff m vc k1 k2:Nat) (A1 A2:Array Value) (hi:i<n) (hm:0<m) (hroom:n+m<=c) (h63:n+m<=1000000000)
  (hov:∀ lb cb,(callFunc 104 #[.slice (some ⟨vb,voff,none⟩) m vc,.slice (some ⟨b,off+(i+m),none⟩) lb cb]).run prog w=.ok (.value (.bool false)) w)
  (hcp1:∀ ty dc sc,(Builtin.copy_ #[50,50] ty #[.slice (some ⟨b,off+(i+m),none⟩) (n+m-(i+m)) dc,.slice (some ⟨b,off+i,none⟩) (n+m-i) sc]).run prog w.drew=.ok (goInt k1) (w.drew.setRow b A1))
  (hcp2:∀ ty dc,(Builtin.copy_ #[50,50] ty #[.slice (some ⟨b,off+i,none⟩) (n+m-i) dc,.slice (some ⟨vb,voff,none⟩) m vc]).run prog (w.drew.setRow b A1)=.ok (goInt k2) ((w.drew.setRow b A1).setRow b A2)) :
  Calls prog 66 #[.slice (some ⟨b,off,none⟩) n c,.int .i64 i,.slice (some ⟨vb,voff,none⟩) m vc] w fun e w'=>e=.returned (.slice (some ⟨b,off,none⟩) (n+m) c)/\w'=(w.drew.setRow b A1).setRow b A2:=by
 have hz1:¬((m:Int)=0):=by omega
 have hz2:¬((i:Int)=(n:Int)):=by omega
 have hw1:IntKind.i64.wrap ((i:Int)+(m:Int))=(i:Int)+(m:Int):=by rw[IntKind.wrap_i64];omega
 have hb1:(0:Int)<=(i:Int)+(m:Int):=by omega
 have hin:i<=n:=by omega
 have htn:((i:Int)+(m:Int)).toNat=i+m:=by omega
 have hb2:¬(c=i+m):=by omega
 have hb3:(i:Int)<=(n:Int)+(m:Int):=by omega
 have hb4:¬(c=i):=by omega
 go_enter func66,ntmps66
 go_wp2_with (simp only[hov])
 go_region_law (refine step_copy_run2 rfl _ _ 50 50 rfl _ _ (by simp[Act.eval,Act.put]) (by simp[Act.eval,Act.put]) (hcp1 _ _ _) ?_)
 go_wp2_with (at_builtin;refine zpJ _ rfl _ _ 50 50 rfl _ _ rfl rfl (hcp2 _ _) ?_)
 go_ret
 exact ⟨rfl,rfl⟩
set_option maxHeartbeats 4000000 in
set_option maxRecDepth 100000 in
theorem ins_int_grow (w:World) (b off n c i vb voff m vc k1 k2 G:Nat) (ROW A1 A2:Array Value) (hi:i<n) (hm:0<m) (hnc:n<=c) (hroom:c<n+m) (h63:n+m<=1000000000) (hGn:n+m<=G)
  (hrz:∀ ty,(Builtin.append_ #[50,3] ty #[.slice (some ⟨b,off,none⟩) i c,.int .i64 ((n:Int)+(m:Int)-(i:Int))]).run prog w=.ok (.slice (some ⟨w.heap.size,0,none⟩) (n+m) G) (w.drew.alloc (.cells ROW 3)))
  (hcpA:∀ (W:World),W.heap=(w.drew.alloc (.cells ROW 3)).heap->∀ ty dc,(Builtin.copy_ #[50,50] ty #[.slice (some ⟨w.heap.size,i,none⟩) (n+m-i) dc,.slice (some ⟨vb,voff,none⟩) m vc]).run prog W=.ok (goInt k1) (W.setRow w.heap.size A1))
  (hcpB:∀ (W:World),W.heap=((w.drew.alloc (.cells ROW 3)).setRow w.heap.size A1).heap->∀ ty dc sc,(Builtin.copy_ #[50,50] ty #[.slice (some ⟨w.heap.size,(i+m),none⟩) (n+m-(i+m)) dc,.slice (some ⟨b,off+i,none⟩) (n-i) sc]).run prog W=.ok (goInt k2) (W.setRow w.heap.size A2)) :
  Calls prog 66 #[.slice (some ⟨b,off,none⟩) n c,.int .i64 i,.slice (some ⟨vb,voff,none⟩) m vc] w fun e' w'=>e'=.returned (.slice (some ⟨w.heap.size,0,none⟩) (n+m) G)/\w'.heap=(((w.drew.alloc (.cells ROW 3)).setRow w.heap.size A1).setRow w.heap.size A2).heap/\w'.os=w.os/\w'.tape=w.tape/\w'.output=w.output:=by
 have hz1:¬((m:Int)=0):=by omega
 have hz2:¬((i:Int)=(n:Int)):=by omega
 have hz3:(c:Int)<(n:Int)+(m:Int):=by omega
 have hGi:¬(G=i):=by omega
 have hGim:¬(G=i+m):=by omega
 have hci:¬(c=i):=by omega
 have hw1:IntKind.i64.wrap ((i:Int)+(m:Int))=(i:Int)+(m:Int):=by rw[IntKind.wrap_i64];omega
 have hw2:IntKind.i64.wrap ((n:Int)+(m:Int))=(n:Int)+(m:Int):=by rw[IntKind.wrap_i64];omega
 have hw3:IntKind.i64.wrap ((n:Int)+(m:Int)-(i:Int))=(n:Int)+(m:Int)-(i:Int):=by rw[IntKind.wrap_i64];omega
 have hb1:(0:Int)<=(i:Int)+(m:Int):=by omega
 have hin:i<=n:=by omega
 have htn:((i:Int)+(m:Int)).toNat=i+m:=by omega
 have hb3:(i:Int)<=(n:Int):=by omega
 have hE1:((w.alloc (.cells ROW 3)).drew).heap=(w.drew.alloc (.cells ROW 3)).heap:=rfl;have hF1:(((w.alloc (.cells ROW 3)).drew.setRow w.heap.size A1).drew).heap=((w.drew.alloc (.cells ROW 3)).setRow w.heap.size A1).heap:=rfl;have cB:=hcpB _ hF1;have cA:=hcpA _ hE1;have cA2:=hcpA _ rfl;have cB2:=hcpB _ rfl;clear hE1 hF1
 go_enter func66,ntmps66
 go_wp2_with (first
  |(at_builtin;refine Lib.wpList_append_run _ rfl _ _ _ _ rfl _ _ rfl rfl _ _ (hrz _) ?_)
  |(at_builtin;refine zpJ _ rfl _ _ 50 50 rfl _ _ rfl rfl (hcpA _ rfl _ _) ?_))
 go_region_law (refine step_copy_run2 rfl _ _ 50 50 rfl (.slice (some ⟨w.heap.size,(i+m),none⟩) (n+m-(i+m)) (G-(i+m))) (.slice (some ⟨b,off+i,none⟩) (n-i) (c-i)) (by simp[Act.eval,Act.put]) (by simp[Act.eval,Act.put]) (hcpB _ rfl _ (G-(i+m)) (c-i)) ?_)
 go_wp2
 go_ret
 exact ⟨rfl,rfl,rfl,rfl,rfl⟩
theorem ins_int_ov (w:World) (vb vc b o lb cb:Nat) (vxs xs:Array Value) (vty ty:TypeId) (h1:w.heap[vb]?=some (.cells vxs vty (0,0))) (h2:w.heap[b]?=some (.cells xs ty (0,0))) (hne:vb≠b) (hp:0<xs.size) :
  (callFunc 104 #[.slice (some ⟨vb,0,none⟩) 1 vc,.slice (some ⟨b,o,none⟩) lb cb]).run prog w=.ok (.value (.bool false)) w:=by
 rw[run_callFunc_extern func104 (by kernel_rfl) (by kernel_rfl) (by kernel_rfl) (e:=Extern.SlicesOverlaps.overlaps #[50,50] #[4]) (by kernel_rfl),
  Lib.run_overlaps_apart w 50 4 3 underlying50 1 (fun w=>by kernel_rfl) ⟨vb,0,none⟩ ⟨b,o,none⟩ 1 vc lb cb hne vty ty vxs.size xs.size (by simp[World.shape?,h1]) (by simp[World.shape?,h2]) (by omega) (by simp[World.frozen?,h1]) (by simp[World.frozen?,h1])]
 rfl
theorem ins_int:InsC prog 66 1:=by
 have hs:((prog.info? 3).map fun i=>(i.zero.map fun z=>z.cells.size,i.size,decide (i.bytes<=32768)))=some (some 1,1,true):=by kernel_rfl
 obtain ⟨i0,hi0,hs⟩:=Option.map_eq_some_iff.1 hs;simp only[Prod.mk.injEq,decide_eq_true_eq]at hs;obtain ⟨hz,hsz,hby⟩:=hs;obtain ⟨z,hz,hzc⟩:=Option.map_eq_some_iff.1 hz;exact insC_of (ov:=104) (S:=50) (SI:=3) (mul:=fun x=>x) (fun x=>by omega) underlying50 underlying3 hi0 hz hsz (by omega) hzc hby ins_int_ov ins_int_end ins_int_room ins_int_grow
def onlyB (j G:Nat):Bool:=(List.range tab.length).all fun g=>match inv g with|some k=>!(Nat.beq k j)||Nat.beq g G|none=>true
theorem only {j G g:Nat} (c:onlyB j G=true) (h:inv g=some j):g=G:=by
 have h1:=List.all_eq_true.1 c g (List.mem_range.2 (invlt h));rw[h]at h1
 simpa using h1
theorem insAll:Go.Eng.HasIns prog inv:=⟨fun g h=>by rw[only (G:=60) (by kernel_rfl) h];exact ins_trn,fun g h=>by rw[only (G:=66) (by kernel_rfl) h];exact ins_int⟩
end Go.Eng.Tryz
