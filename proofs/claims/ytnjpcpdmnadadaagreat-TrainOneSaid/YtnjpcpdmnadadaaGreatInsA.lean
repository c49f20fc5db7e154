/-
  What slices.Insert does in the model, out of what its walks show. Conditions: those that each theorem names.
-/
import Derived.Test.YtnjpcpdmnadadaaGreatL14
import Derived.Laws.IdiomCopy
set_option linter.unusedSimpArgs false
set_option linter.unusedVariables false
set_option linter.unusedSectionVars false
namespace Go.Eng
open Go.RowKit
section
variable {P : Program}
/-- copy, where the row that is written is known: all is read before anything is written. -/
theorem run_copy_row (w : World) {dT sT ty e : TypeId} {sz b o dLen dCap : Nat} {a : Addr} {sLen sCap : Nat} {cs : List Value} {cur : Array Value} {t : TypeId} (hu : P.underlying dT = some (.slice e)) (hs : (P.info? e).map (·.size) = some sz) (hn : cs.length = Nat.min sLen dLen * sz)
    (hsrc : ∀ j v, cs[j]? = some v → w.cell? (a.add j) = some v) (hg : w.heap[b]? = some (.cells cur t (0, 0))) (hfit : o + cs.length ≤ cur.size) (h1 : ∀ v ∈ cs, v.oneCell' = true) :
    (Builtin.copy_ #[dT, sT] ty #[.slice (some ⟨b, o, none⟩) dLen dCap, .slice (some a) sLen sCap]).run P w = .ok (goInt (Nat.min sLen dLen)) (w.setRow b (cur.toList.take o ++ cs ++ cur.toList.drop (o + cs.length)).toArray) := by
  have hl := run_loadCells_list (P := P) w a cs hsrc
  have hst := run_storeCells_at P b o t cs 0 cur w hg (by simpa using hfit) h1
  simp only [Nat.add_zero] at hst
  cases hq : P.info? e with
  | none => simp [hq] at hs
  | some i =>
    have hi : i.size = sz := by simpa [hq] using hs
    simp [Builtin.copy_, run_underlying hu, Builtin.lenOf, Builtin.firstCells, sizeOf, typeInfo, hq, hi, ← hn, hl, hst]
theorem wpList_copy_run2 (w : World) {ops : Array Oper} {rest : List Oper} {o : Oper} {a : Act} {Q : Exit → Act → World → Prop} (hgd : o.guard = none) (d s : Operand) (t t' : TypeId)
    (ho : o.op = .call { callee := .builtin .copy, args := #[d, s], argTypes := #[t, t'] }) (v u : Value) (hd : a.eval d = v) (hs : a.eval s = u) {v' : Value} {w' : World}
    (hr : (Builtin.copy_ #[t, t'] o.type #[v, u]).run P w = .ok v' w') (h : wpList P ops Q rest (a.put o.dst v') w') : wpList P ops Q (o :: rest) a w :=
  wpList_plain hgd fun _ hK => by
    unfold Oper.wp execOp
    simp only [ho, resolve, invoke, builtin, Sem.run_bind, Sem.run_pure, Result.andThen_ok, List.map_toArray, List.map_cons, List.map_nil, hd, hs, hr]
    exact hK _ _ h
theorem step_copy_run2 {ops : Array Oper} {o : Oper} {a : Act} {w : World} {K : Act → World → Prop} {Q : Exit → Act → World → Prop} {E : Prop}
    (hg : o.guard = none) (d x : Operand) (dT sT : TypeId) (hop : o.op = Op.call { callee := Callee.builtin Builtin.copy, args := #[d, x], argTypes := #[dT, sT] })
    (v u : Value) (hd : a.eval d = v) (hx : a.eval x = u) {v' : Value} {w' : World} (hr : (Builtin.copy_ #[dT, sT] o.type #[v, u]).run P w = .ok v' w') (hK : K (a.put o.dst v') w') :
    if Region.wanted o (yielded ops a.tmps) = true then Oper.wp P o a w K Q else E := by
  have hw : Region.wanted o (yielded ops a.tmps) = true := by simp [Region.wanted, hg]
  rw [if_pos hw]
  unfold Oper.wp
  simp [execOp, hop, resolve, invoke, builtin, hd, hx, hr, Result.andThen]
  exact hK
end
section
variable {P : Program}
theorem setRow_keep {w : World} {b : Nat} {A : Array Value} : (w.setRow b A).os = w.os ∧ (w.setRow b A).tape = w.tape ∧ (w.setRow b A).output = w.output ∧ (w.setRow b A).heap.size = w.heap.size := ⟨rfl, rfl, rfl, by simp [World.setRow]⟩
theorem cell_of_row {w : World} {b : Nat} {xs : Array Value} {ty : TypeId} (hg : w.heap[b]? = some (.cells xs ty (0, 0))) (j : Nat) : w.cell? ⟨b, j, none⟩ = xs[j]? := by
  simp only [World.cell?, hg, Option.isSome_none, Bool.false_eq_true, if_false]
/-- slices.Insert, out of what its walks show. -/
theorem insC_of {g ov sz e S SI : Nat} {i0 : TypeInfo} {z : Value} {mul : Nat → Nat} (hmul : ∀ x, mul x = x * sz) (hu : P.underlying S = some (.slice e)) (hI : P.underlying SI = some (.int .i64)) (hi0 : P.info? e = some i0) (hz : i0.zero = some z) (hsz : i0.size = sz) (hpos : 0 < sz) (hzc : z.cells.size = sz) (hby : i0.bytes ≤ 32768)
    (hov : ∀ (w : World) (vb vc b o lb cb : Nat) (vxs xs : Array Value) (vty ty : TypeId), w.heap[vb]? = some (.cells vxs vty (0, 0)) → w.heap[b]? = some (.cells xs ty (0, 0)) → vb ≠ b → 0 < xs.size → (callFunc ov #[.slice (some ⟨vb, 0, none⟩) 1 vc, .slice (some ⟨b, o, none⟩) lb cb]).run P w = .ok (.value (.bool false)) w)
    (hend : ∀ (w w1 : World) (base : Option Addr) (n c vb voff m vc : Nat) (r : Value), 0 < m → (base = none → n = 0) → (∀ ty, (Builtin.append_ #[S, S] ty #[.slice base n c, .slice (some ⟨vb, voff, none⟩) m vc]).run P w = .ok r w1) →
      Calls P g #[.slice base n c, .int .i64 n, .slice (some ⟨vb, voff, none⟩) m vc] w fun e w' => e = .returned r ∧ w' = w1)
    (hroom : ∀ (w : World) (b off n c i vb voff m vc k1 k2 : Nat) (A1 A2 : Array Value), i < n → 0 < m → n + m ≤ c → n + m ≤ 1000000000 →
      (∀ lb cb, (callFunc ov #[.slice (some ⟨vb, voff, none⟩) m vc, .slice (some ⟨b, off + mul (i + m), none⟩) lb cb]).run P w = .ok (.value (.bool false)) w) →
      (∀ ty dc sc, (Builtin.copy_ #[S, S] ty #[.slice (some ⟨b, off + mul (i + m), none⟩) (n + m - (i + m)) dc, .slice (some ⟨b, off + mul i, none⟩) (n + m - i) sc]).run P w.drew = .ok (goInt k1) (w.drew.setRow b A1)) →
      (∀ ty dc, (Builtin.copy_ #[S, S] ty #[.slice (some ⟨b, off + mul i, none⟩) (n + m - i) dc, .slice (some ⟨vb, voff, none⟩) m vc]).run P (w.drew.setRow b A1) = .ok (goInt k2) ((w.drew.setRow b A1).setRow b A2)) →
      Calls P g #[.slice (some ⟨b, off, none⟩) n c, .int .i64 i, .slice (some ⟨vb, voff, none⟩) m vc] w fun e w' => e = .returned (.slice (some ⟨b, off, none⟩) (n + m) c) ∧ w' = (w.drew.setRow b A1).setRow b A2)
    (hgrow : ∀ (w : World) (b off n c i vb voff m vc k1 k2 G : Nat) (ROW A1 A2 : Array Value), i < n → 0 < m → n ≤ c → c < n + m → n + m ≤ 1000000000 → n + m ≤ G →
      (∀ ty, (Builtin.append_ #[S, SI] ty #[.slice (some ⟨b, off, none⟩) i c, .int .i64 ((n : Int) + (m : Int) - (i : Int))]).run P w = .ok (.slice (some ⟨w.heap.size, 0, none⟩) (n + m) G) (w.drew.alloc (.cells ROW e))) →
      (∀ (W : World), W.heap = (w.drew.alloc (.cells ROW e)).heap → ∀ ty dc, (Builtin.copy_ #[S, S] ty #[.slice (some ⟨w.heap.size, mul i, none⟩) (n + m - i) dc, .slice (some ⟨vb, voff, none⟩) m vc]).run P W = .ok (goInt k1) (W.setRow w.heap.size A1)) →
      (∀ (W : World), W.heap = ((w.drew.alloc (.cells ROW e)).setRow w.heap.size A1).heap → ∀ ty dc sc, (Builtin.copy_ #[S, S] ty #[.slice (some ⟨w.heap.size, mul (i + m), none⟩) (n + m - (i + m)) dc, .slice (some ⟨b, off + mul i, none⟩) (n - i) sc]).run P W = .ok (goInt k2) (W.setRow w.heap.size A2)) →
      Calls P g #[.slice (some ⟨b, off, none⟩) n c, .int .i64 i, .slice (some ⟨vb, voff, none⟩) m vc] w fun e' w' => e' = .returned (.slice (some ⟨w.heap.size, 0, none⟩) (n + m) G) ∧ w'.heap = (((w.drew.alloc (.cells ROW e)).setRow w.heap.size A1).setRow w.heap.size A2).heap ∧ w'.os = w.os ∧ w'.tape = w.tape ∧ w'.output = w.output) :
    InsC P g sz := by
  intro w base n c i vb vc cs vs vxs vty hi hn hnc hcl hvl h1c h1v hbase hvb hvsz hvt hvc
  subst hsz
  have hsm : (P.info? e).map (·.size) = some i0.size := by rw [hi0]; rfl
  have hvcell : ∀ (W : World), W.heap[vb]? = w.heap[vb]? → ∀ j v, vs[j]? = some v → W.cell? ((⟨vb, 0, none⟩ : Addr).add j) = some v := by
    intro W hW j v hv
    rw [zch, Nat.zero_add, cell_of_row (hW.trans hvb)]
    rw [← hvt, List.getElem?_take] at hv
    split at hv
    · simpa using hv
    · cases hv
  have hfn : ∀ (W : World), W.heap[vb]? = w.heap[vb]? → (Builtin.firstCells i0.size 1 (.slice (some ⟨vb, 0, none⟩) 1 vc)).run P W = .ok vs.toArray W := fun W hW =>
    run_firstCells_some W i0.size 1 _ 1 vc vs (by omega) (hvcell W hW)
  have hvlt : vb < w.heap.size := (Array.getElem?_eq_some_iff.1 hvb).1
  rcases Nat.lt_or_ge i n with hin | hin
  · -- i < n: zc3 is a row
    have hc0 : c ≠ 0 := by omega
    obtain ⟨b, xs, ty, rfl, hbv, hg, hfit, hxc⟩ := hbase.resolve_left hc0
    have hblt : b < w.heap.size := (Array.getElem?_eq_some_iff.1 hg).1
    have hnc' : n * i0.size ≤ c * i0.size := Nat.mul_le_mul_right _ hnc
    have hcc : ∀ (W : World), W.heap[b]? = w.heap[b]? → ∀ k j v, (cs.drop k)[j]? = some v → W.cell? ((⟨b, 0 + k, none⟩ : Addr).add j) = some v := by
      intro W hW k j v hv
      rw [zch, Nat.zero_add, cell_of_row (hW.trans hg)]
      rw [List.getElem?_drop, ← hxc, List.getElem?_take] at hv
      split at hv
      · simpa using hv
      · cases hv
    have himul : i * i0.size ≤ n * i0.size := Nat.mul_le_mul_right _ hi
    have hi1 : (i + 1) * i0.size = i * i0.size + i0.size := by rw [Nat.add_mul, Nat.one_mul]
    have hn1 : (n + 1) * i0.size = n * i0.size + i0.size := by rw [Nat.add_mul, Nat.one_mul]
    have hdl : (cs.drop (i * i0.size)).length = (n - i) * i0.size := by rw [List.length_drop, hcl, Nat.sub_mul]
    have hdl' : (cs.drop (i * i0.size)).length = n * i0.size - i * i0.size := by rw [List.length_drop, hcl]
    have h1d : ∀ v ∈ cs.drop (i * i0.size), v.oneCell' = true := fun v hv => h1c v (List.mem_of_mem_drop hv)
    by_cases hrm : n + 1 ≤ c
    · have hrm' : (n + 1) * i0.size ≤ c * i0.size := Nat.mul_le_mul_right _ hrm
      have hcp1 : ∀ ty' dc sc, (Builtin.copy_ #[S, S] ty' #[.slice (some ⟨b, 0 + mul (i + 1), none⟩) (n + 1 - (i + 1)) dc, .slice (some ⟨b, 0 + mul i, none⟩) (n + 1 - i) sc]).run P w.drew = .ok (goInt ((n - i : Nat) : Int)) (w.drew.setRow b (xs.toList.take (0 + mul (i + 1)) ++ cs.drop (i * i0.size) ++ xs.toList.drop (0 + mul (i + 1) + (cs.drop (i * i0.size)).length)).toArray) := by
        intro ty' dc sc
        have hmin : Nat.min (n + 1 - i) (n + 1 - (i + 1)) = n - i := by simp only [Nat.min_def]; split <;> omega
        have := run_copy_row (P := P) w.drew (sT := S) (ty := ty') (dCap := dc) (sCap := sc) (b := b) (o := 0 + mul (i + 1)) (dLen := n + 1 - (i + 1)) (a := ⟨b, 0 + mul i, none⟩) (sLen := n + 1 - i) (cs := cs.drop (i * i0.size)) (cur := xs) (t := ty) hu hsm (by rw [hmin]; exact hdl)
          (by rw [hmul]; exact hcc w.drew rfl _) hg (by rw [hmul, hdl']; omega) h1d
        rw [hmin] at this
        exact this
      generalize hA1 : (xs.toList.take (0 + mul (i + 1)) ++ cs.drop (i * i0.size) ++ xs.toList.drop (0 + mul (i + 1) + (cs.drop (i * i0.size)).length)).toArray = A1 at hcp1
      have hA1s : A1.size = xs.size := by rw [← hA1]; simp only [List.size_toArray, List.length_append, List.length_take, List.length_drop, hmul, hdl', Array.length_toList]; omega
      have hg1 : (w.drew.setRow b A1).heap[b]? = some (.cells A1 ty (0, 0)) := setRow_heap w.drew b xs A1 ty (0, 0) hg
      have hv1 : (w.drew.setRow b A1).heap[vb]? = w.heap[vb]? := setRow_other w.drew b vb A1 (Ne.symm hbv)
      have hcp2 : ∀ ty' dc, (Builtin.copy_ #[S, S] ty' #[.slice (some ⟨b, 0 + mul i, none⟩) (n + 1 - i) dc, .slice (some ⟨vb, 0, none⟩) 1 vc]).run P (w.drew.setRow b A1) = .ok (goInt 1) ((w.drew.setRow b A1).setRow b (A1.toList.take (0 + mul i) ++ vs ++ A1.toList.drop (0 + mul i + vs.length)).toArray) := by
        intro ty' dc
        have hmin : Nat.min 1 (n + 1 - i) = 1 := by simp only [Nat.min_def]; split <;> omega
        have := run_copy_row (P := P) (w.drew.setRow b A1) (sT := S) (ty := ty') (dCap := dc) (sCap := vc) (b := b) (o := 0 + mul i) (dLen := n + 1 - i) (a := ⟨vb, 0, none⟩) (sLen := 1) (cs := vs) (cur := A1) (t := ty) hu hsm (by rw [hmin]; omega)
          (hvcell _ hv1) hg1 (by rw [hmul]; omega) h1v
        rw [hmin] at this
        exact this
      refine (hroom w b 0 n c i vb 0 1 vc _ _ _ _ hin (by omega) hrm (by omega) (fun lb cb => hov w vb vc b _ lb cb vxs xs vty ty hvb hg (Ne.symm hbv) (by omega)) hcp1 hcp2).mono ?_
      rintro e' w' ⟨rfl, rfl⟩
      have hg2 := setRow_heap (w.drew.setRow b A1) b A1 (A1.toList.take (0 + mul i) ++ vs ++ A1.toList.drop (0 + mul i + vs.length)).toArray ty (0, 0) hg1
      refine ⟨b, c, _, ty, rfl, hg2, hrm, ?_, ?_, rfl, rfl, rfl, ?_, ?_, .inr ⟨by omega, rfl⟩⟩
      · simp only [List.size_toArray, List.length_append, List.length_take, List.length_drop, hmul, Array.length_toList, hA1s]; omega
      · have hA1l : A1.toList = xs.toList.take ((i + 1) * i0.size) ++ cs.drop (i * i0.size) ++ xs.toList.drop ((i + 1) * i0.size + (cs.drop (i * i0.size)).length) := by rw [← hA1, Nat.zero_add, hmul]
        simp only [hmul, Nat.zero_add]
        have e1 : A1.toList.take (i * i0.size) = cs.take (i * i0.size) := by
          rw [hA1l, List.append_assoc, List.take_append_of_le_length (by rw [List.length_take]; simp; omega), List.take_take, Nat.min_eq_left (by omega), ← hxc, List.take_take, Nat.min_eq_left himul]
        have e2 : A1.toList.drop (i * i0.size + vs.length) = cs.drop (i * i0.size) ++ xs.toList.drop ((i + 1) * i0.size + (cs.drop (i * i0.size)).length) := by
          rw [hvl, ← hi1, hA1l, List.append_assoc]
          exact List.drop_left' (by rw [List.length_take]; simp; omega)
        rw [e1, e2, List.append_assoc (cs.take _), ← List.append_assoc vs, ← List.append_assoc (cs.take _), ← List.append_assoc (cs.take _)]
        exact List.take_left' (by simp only [List.length_append, List.length_take, hdl', hcl, hvl]; omega)
      · have h1 := (setRow_keep (w := w.drew.setRow b A1) (b := b) (A := (A1.toList.take (0 + mul i) ++ vs ++ A1.toList.drop (0 + mul i + vs.length)).toArray)).2.2.2
        have h2 := (setRow_keep (w := w.drew) (b := b) (A := A1)).2.2.2
        rw [h1, h2]
        exact Nat.le_refl _
      · intro k hk hkb
        rw [setRow_other _ b k _ hkb, setRow_other _ b k _ hkb]
        rfl
    · -- a new row
      obtain ⟨G, hG⟩ : ∃ G, G = grownCap w (n + 1) c e := ⟨_, rfl⟩
      have hGn : n + 1 ≤ G := by rw [hG]; exact grownCap_ge w _ _ _
      have hold : (Builtin.firstCells i0.size i (.slice (some ⟨b, 0, none⟩) i c)).run P w.drew = .ok (cs.take (i * i0.size)).toArray w.drew :=
        run_firstCells_some w.drew i0.size i ⟨b, 0, none⟩ i c (cs.take (i * i0.size)) (by rw [List.length_take]; omega) (fun j v hj => by
          rw [List.getElem?_take] at hj
          split at hj
          · exact hcc w.drew rfl 0 j v (by simpa using hj)
          · cases hj)
      have hfits : (n + 1) * i0.bytes ≤ 140737488355328 := Nat.le_trans (Nat.mul_le_mul_left _ hby) (by omega)
      have hfits2 : (n + 1 - i) * i0.bytes ≤ (n + 1) * i0.bytes := Nat.mul_le_mul_right _ (by omega)
      have hrz : ∀ ty', (Builtin.append_ #[S, SI] ty' #[.slice (some ⟨b, 0, none⟩) i c, .int .i64 ((n : Int) + ((1 : Nat) : Int) - (i : Int))]).run P w = .ok (.slice (some ⟨w.heap.size, 0, none⟩) (n + 1) G) (w.drew.alloc (.cells ((cs.take (i * i0.size)).toArray ++ Builtin.zeroCells z.cells (n + 1 - i) ++ Builtin.zeroCells z.cells (G - (n + 1))) e)) := by
        intro ty'
        have h := Lib.run_append_grow_zeros (P := P) w S SI ty' e i0 z .i64 .i64 hu hI hi0 hz (some ⟨b, 0, none⟩) i c (cs.take (i * i0.size)) hold (n + 1 - i) (by omega) (by omega) (by omega) (by omega) (by omega) (growslice_fits (by omega) (by rw [show i + (n + 1 - i) = n + 1 by omega]; exact hfits))
        rw [show i + (n + 1 - i) = n + 1 by omega, ← hG] at h
        rw [show (n : Int) + ((1 : Nat) : Int) - (i : Int) = ((n + 1 - i : Nat) : Int) by omega]
        exact h
      obtain ⟨ROW, hROW⟩ : ∃ ROW : Array Value, ROW = (cs.take (i * i0.size)).toArray ++ Builtin.zeroCells z.cells (n + 1 - i) ++ Builtin.zeroCells z.cells (G - (n + 1)) := ⟨_, rfl⟩
      rw [← hROW] at hrz
      have hGm : G * i0.size = (n + 1) * i0.size + (G - (n + 1)) * i0.size := by rw [← Nat.add_mul]; congr 1; omega
      have hnm : (n + 1) * i0.size = i * i0.size + (n + 1 - i) * i0.size := by rw [← Nat.add_mul]; congr 1; omega
      have hRl : ROW.size = G * i0.size := by
        rw [hROW]
        simp only [Array.size_append, List.size_toArray, List.length_take, size_zeroCells, hzc, hcl]
        omega
      have hRt : ROW.toList.take (i * i0.size) = cs.take (i * i0.size) := by
        rw [hROW, Array.toList_append, Array.toList_append, List.append_assoc]
        exact List.take_left' (by simp only [List.length_take]; omega)
      have hal : (w.drew.alloc (.cells ROW e)).heap[w.heap.size]? = some (.cells ROW e (0, 0)) := heap_alloc_new w.drew _
      have hold' : ∀ k, k < w.heap.size → (w.drew.alloc (.cells ROW e)).heap[k]? = w.heap[k]? := fun k hk => Below.heap_alloc w.drew _ k hk
      have hcpA : ∀ (W : World), W.heap = (w.drew.alloc (.cells ROW e)).heap → ∀ ty' dc, (Builtin.copy_ #[S, S] ty' #[.slice (some ⟨w.heap.size, mul i, none⟩) (n + 1 - i) dc, .slice (some ⟨vb, 0, none⟩) 1 vc]).run P W = .ok (goInt 1) (W.setRow w.heap.size (ROW.toList.take (mul i) ++ vs ++ ROW.toList.drop (mul i + vs.length)).toArray) := by
        intro W hW ty' dc
        have hmin : Nat.min 1 (n + 1 - i) = 1 := by simp only [Nat.min_def]; split <;> omega
        have := run_copy_row (P := P) W (sT := S) (ty := ty') (dCap := dc) (sCap := vc) (b := w.heap.size) (o := mul i) (dLen := n + 1 - i) (a := ⟨vb, 0, none⟩) (sLen := 1) (cs := vs) (cur := ROW) (t := e) hu hsm (by rw [hmin]; omega)
          (hvcell W (by rw [hW]; exact hold' vb hvlt)) (by rw [hW]; exact hal) (by rw [hmul, hRl]; omega) h1v
        rw [hmin] at this
        exact this
      generalize hA1 : (ROW.toList.take (mul i) ++ vs ++ ROW.toList.drop (mul i + vs.length)).toArray = A1 at hcpA
      have hA1s : A1.size = G * i0.size := by rw [← hA1]; simp only [List.size_toArray, List.length_append, List.length_take, List.length_drop, hmul, Array.length_toList, hRl, hvl]; omega
      have hA1t : A1.toList.take ((i + 1) * i0.size) = cs.take (i * i0.size) ++ vs := by
        rw [← hA1, hmul]
        simp only
        rw [hRt]
        exact List.take_left' (by simp only [List.length_append, List.length_take, hcl, hvl]; omega)
      have hg1 : ((w.drew.alloc (.cells ROW e)).setRow w.heap.size A1).heap[w.heap.size]? = some (.cells A1 e (0, 0)) := setRow_heap _ _ ROW A1 e (0, 0) hal
      have hcpB : ∀ (W : World), W.heap = ((w.drew.alloc (.cells ROW e)).setRow w.heap.size A1).heap → ∀ ty' dc sc, (Builtin.copy_ #[S, S] ty' #[.slice (some ⟨w.heap.size, mul (i + 1), none⟩) (n + 1 - (i + 1)) dc, .slice (some ⟨b, 0 + mul i, none⟩) (n - i) sc]).run P W = .ok (goInt ((n - i : Nat) : Int)) (W.setRow w.heap.size (A1.toList.take (mul (i + 1)) ++ cs.drop (i * i0.size) ++ A1.toList.drop (mul (i + 1) + (cs.drop (i * i0.size)).length)).toArray) := by
        intro W hW ty' dc sc
        have hmin : Nat.min (n - i) (n + 1 - (i + 1)) = n - i := by simp only [Nat.min_def]; split <;> omega
        have := run_copy_row (P := P) W (sT := S) (ty := ty') (dCap := dc) (sCap := sc) (b := w.heap.size) (o := mul (i + 1)) (dLen := n + 1 - (i + 1)) (a := ⟨b, 0 + mul i, none⟩) (sLen := n - i) (cs := cs.drop (i * i0.size)) (cur := A1) (t := e) hu hsm (by rw [hmin]; exact hdl)
          (by rw [hmul]; exact hcc W (by rw [hW, setRow_other _ _ _ _ (Nat.ne_of_lt hblt)]; exact hold' b hblt) _) (by rw [hW]; exact hg1) (by rw [hmul, hdl', hA1s]; omega) h1d
        rw [hmin] at this
        exact this
      refine (hgrow w b 0 n c i vb 0 1 vc _ _ G ROW A1 _ hin (by omega) hnc (by omega) (by omega) hGn hrz hcpA hcpB).mono ?_
      rintro e' w' ⟨rfl, hh, k1, k2, k3⟩
      have hg2 := setRow_heap ((w.drew.alloc (.cells ROW e)).setRow w.heap.size A1) w.heap.size A1 (A1.toList.take (mul (i + 1)) ++ cs.drop (i * i0.size) ++ A1.toList.drop (mul (i + 1) + (cs.drop (i * i0.size)).length)).toArray e (0, 0) hg1
      refine ⟨w.heap.size, G, _, e, rfl, by rw [hh]; exact hg2, hGn, ?_, ?_, k1, k2, k3, ?_, ?_, .inl rfl⟩
      · simp only [List.size_toArray, List.length_append, List.length_take, List.length_drop, hmul, Array.length_toList, hA1s, hdl']; omega
      · simp only [hmul]
        rw [hA1t]
        exact List.take_left' (by simp only [List.length_append, List.length_take, hdl', hcl, hvl]; omega)
      · rw [hh, setRow_keep.2.2.2, setRow_keep.2.2.2]
        simp
      · intro k hk hkb
        rw [hh, setRow_other _ _ k _ hkb, setRow_other _ _ k _ hkb]
        exact hold' k hk
  · -- at the end
    obtain rfl : i = n := by omega
    have hi1 : (i + 1) * i0.size = i * i0.size + i0.size := by rw [Nat.add_mul, Nat.one_mul]
    have hbn : base = none → i = 0 := by
      intro hb
      rcases hbase with h | ⟨b, xs, ty, h, _⟩
      · omega
      · rw [hb] at h; cases h
    have hct : cs.take (i * i0.size) ++ vs ++ cs.drop (i * i0.size) = cs ++ vs := by rw [← hcl, List.take_length, List.drop_length, List.append_nil]
    by_cases hrm : i + 1 ≤ c
    · obtain ⟨b, xs, ty, rfl, hbv, hg, hfit, hxc⟩ := hbase.resolve_left (by omega)
      have hrm' : (i + 1) * i0.size ≤ c * i0.size := Nat.mul_le_mul_right _ hrm
      have hrun : ∀ ty', (Builtin.append_ #[S, S] ty' #[.slice (some ⟨b, 0, none⟩) i c, .slice (some ⟨vb, 0, none⟩) 1 vc]).run P w = _ := fun ty' =>
        zj7 (P := P) (ty := ty') w hu hu hi0 b i c xs ty hg (some ⟨vb, 0, none⟩) 1 vc vs (hfn w rfl) h1v hrm (by rw [hvl]; omega)
      refine (hend w _ (some ⟨b, 0, none⟩) i c vb 0 1 vc _ (by omega) (fun h => by cases h) hrun).mono ?_
      rintro e' w' ⟨rfl, rfl⟩
      have hg2 := setRow_heap w b xs (xs.toList.take (i * i0.size) ++ vs ++ xs.toList.drop (i * i0.size + vs.length)).toArray ty (0, 0) hg
      refine ⟨b, c, _, ty, rfl, hg2, hrm, ?_, ?_, rfl, rfl, rfl, ?_, ?_, .inr ⟨by omega, rfl⟩⟩
      · simp only [List.size_toArray, List.length_append, List.length_take, List.length_drop, Array.length_toList, hvl]; omega
      · rw [hct, hxc]
        exact List.take_left' (by simp only [List.length_append, hcl, hvl]; omega)
      · rw [setRow_keep.2.2.2]; exact Nat.le_refl _
      · intro k hk hkb
        rw [setRow_other _ b k _ hkb]
    · have hold : (Builtin.firstCells i0.size i (.slice base i c)).run P w.drew = .ok cs.toArray w.drew := by
        rcases hbase with h | ⟨b, xs, ty, rfl, hbv, hg, hfit, hxc⟩
        · have h0 : i = 0 := by omega
          subst h0
          have hcs : cs = [] := List.eq_nil_of_length_eq_zero (by rw [hcl, Nat.zero_mul])
          subst hcs
          cases base <;> simp [Builtin.firstCells, loadCells, loadCellsFrom]
        · exact run_firstCells_some w.drew i0.size i ⟨b, 0, none⟩ i c cs hcl (fun j v hj => by
            rw [zch, Nat.zero_add, cell_of_row (w := w.drew) hg]
            rw [← hxc, List.getElem?_take] at hj
            split at hj
            · simpa using hj
            · cases hj)
      have hrun : ∀ ty', (Builtin.append_ #[S, S] ty' #[.slice base i c, .slice (some ⟨vb, 0, none⟩) 1 vc]).run P w = _ := fun ty' =>
        zgq (P := P) (ty := ty') w hu hu hi0 hz base i c cs vs (some ⟨vb, 0, none⟩) 1 vc hold (hfn w.drew rfl) (by omega) (by omega) (growslice_fits (by omega) (Nat.le_trans (Nat.mul_le_mul_left _ hby) (by omega)))
      refine (hend w _ base i c vb 0 1 vc _ (by omega) hbn hrun).mono ?_
      rintro e' w' ⟨rfl, rfl⟩
      have hGn := grownCap_ge w (i + 1) c e
      generalize grownCap w (i + 1) c e = G at hGn
      have hGm : G * i0.size = (i + 1) * i0.size + (G - (i + 1)) * i0.size := by rw [← Nat.add_mul]; congr 1; omega
      refine ⟨w.heap.size, G, _, e, rfl, heap_alloc_new w.drew _, hGn, ?_, ?_, rfl, rfl, rfl, ?_, ?_, .inl rfl⟩
      · simp only [Array.size_append, List.size_toArray, size_zeroCells, hzc, hcl, hvl]
        omega
      · rw [hct, Array.toList_append, Array.toList_append]
        exact List.take_left' (by simp only [List.length_append, hcl, hvl]; omega)
      · simp
      · intro k hk hkb
        exact Below.heap_alloc w.drew _ k hk
end
end Go.Eng
