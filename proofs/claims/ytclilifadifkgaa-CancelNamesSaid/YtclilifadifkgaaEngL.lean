/-
  THE ENGINE, PART L: all operations; lists of them; code.
-/
import Derived.Test.YtclilifadifkgaaEngK
import Derived.Tactics2
import Derived.Lib.AppendZerosOnto
import Derived.WalkSpells
namespace Go.Eng
open Go.RowKit

section
variable {P : Program} {inv : Nat → Option Nat} {w0 : World} {M : Nat → Prop} {n N : Nat} {φ : AF} {σ : AS} {β : Nat → Nat} {a : Act} {w : World}

theorem dst_lt {d : Option Nat} (h : dstOk n d = true) : ∀ k, d = some k → k < n := by
  intro k hk
  subst hk
  simpa [dstOk] using h

/-- A call, and what comes behind it. -/
theorem call_sound (hE : Callable P inv) (hs : St inv w0 M n φ σ β a w) {g j : Nat} (hg : inv g = some j) {args : List AV} {vs : Array Value} (hr : relL (ctx inv M σ β w) args vs.toList) {K : AF → AS → Prop} {d : Option Nat} (hd : ∀ k, d = some k → k < n)
    (h : CallK P inv w0 M N φ σ j args fun r σ' => K (putO φ d r) σ') {o : Oper} (ho : o.dst = d) {next : Act → World → Prop} {Q : Exit → Act → World → Prop}
    (hn : ∀ φ' σ' β' a' w', K φ' σ' → St inv w0 M n φ' σ' β' a' w' → Ext N (ctx inv M σ β w) (ctx inv M σ' β' w') → next a' w')
    (hx : (execOp a.eval o).run P w = (callFunc g vs).run P w) : o.wp P a w next Q := by
  obtain ⟨fn, h1, h2, h3⟩ := hE.2 g j hg
  unfold Oper.wp
  have hc : (callFunc g vs).run P w = .ok (.enter g vs) w := by
    simp only [callFunc, Sem.run_bind, run_program, Result.andThen_ok, h1, h3, h2, Bool.false_eq_true, if_false, Sem.run_pure]
  rw [hx, hc]
  simp only [Oper.upon]
  obtain ⟨N', hN, hφ, hac⟩ := h
  refine (hac g hg β w vs hs.mem hr).mono fun e w' ⟨v, r, σ', β', he, hk, hm, hext, hrr⟩ => ?_
  subst he
  show next (a.put o.dst v) w'
  rw [ho]
  cases d with
  | none => exact hn _ _ _ _ _ hk (hs.keep hm hext hφ) (hext.mono hN)
  | some d => exact hn _ _ _ _ _ hk (hs.put hm hext hφ (hd d rfl) hrr) (hext.mono hN)

theorem copds_zip (hs : Knows inv w0 M φ σ β a w) {ts : List TypeId} {xs : List Operand} {l : List Opd} (h : copds P inv (ts.zip xs) = some l) (hl : ts.length = xs.length) : relL (ctx inv M σ β w) (l.map (ev φ)) (xs.map a.eval) := by
  have := copds_rel hs h
  have e : (ts.zip xs).map (fun p => a.eval p.2) = xs.map a.eval := by
    show (ts.zip xs).map (a.eval ∘ Prod.snd) = _
    rw [← List.map_map, List.map_snd_zip (by omega)]
  rw [e] at this
  exact this

set_option maxHeartbeats 1000000 in
theorem eff_sound (hE : Callable P inv) (hM : ∀ b, M b → b < w0.heap.size) (hs : St inv w0 M n φ σ β a w) {o : Oper} {op : AOp} (hc : compileEff P inv o = some op) (hdst : op.dst = o.dst) (hok : dstOk n o.dst = true) {K : AF → AS → Prop} (h : aop P inv w0 M N op φ σ K)
    {next : Act → World → Prop} {Q : Exit → Act → World → Prop} (hn : ∀ φ' σ' β' a' w', K φ' σ' → St inv w0 M n φ' σ' β' a' w' → Ext N (ctx inv M σ β w) (ctx inv M σ' β' w') → next a' w') : o.wp P a w next Q := by
  have hdl := dst_lt hok
  obtain ⟨f1, f2, f3⟩ := fresh_le N φ σ
  have val : ∀ {v : Value} {w' : World}, (execOp a.eval o).run P w = .ok (.value v) w' → next (a.put o.dst v) w' → o.wp P a w next Q := by
    intro v w' h1 h2
    unfold Oper.wp
    rw [h1]
    exact h2
  unfold compileEff at hc
  split at hc
  · -- alloc
    rename_i t ho
    obtain ⟨z, h1, rfl⟩ := Option.map_eq_some_iff.1 hc
    simp only [AOp.dst] at hdst
    obtain ⟨i, zv, hi, hz, hzr⟩ := zeroOf_rel (c := ctx inv M σ β w) h1
    have hlen := relCs_length hzr
    have hnew := hs.new_ptr (N := N) (ty := t) (hdl _ hdst.symm) (cs := runs z) (xs := zv.cells) (by rw [zeroOf_bound h1]; omega) (by simpa using hlen) hzr
    refine val (v := .pointer (some ⟨w.heap.size, 0, none⟩)) (w' := w.alloc (.cells zv.cells t)) ?_ ?_
    · simp only [execOp, ho, Sem.run_bind, run_alloc_zero hi hz, Result.andThen_ok, Sem.run_pure]
    · rw [← hdst]; exact hn _ _ _ _ _ h hnew.1 hnew.2
  · -- box
    rename_i t x ho
    split at hc
    · rename_i k dx h1 h2
      simp only [Option.some.injEq] at hc
      subst hc
      simp only [AOp.dst] at hdst
      obtain ⟨k1, k2, h⟩ := h
      have hx := copd_rel hs.toKnows h2
      have hxc := cells_rel k1 hx
      have hlen := relCs_length hxc
      have hnew := hs.new_ptr (N := N) (ty := t) (hdl _ hdst.symm) (cs := (ev φ dx).cells) (xs := (a.eval x).cells) (Nat.le_trans (cells_bound _) (Nat.le_trans (ev_bound dx (copd_bound h2)) f2)) (by simpa using hlen) hxc
      refine val (v := .pointer (some ⟨w.heap.size, 0, none⟩)) (w' := w.alloc (.cells (a.eval x).cells t)) ?_ ?_
      · simp [execOp, ho, Instr.box, newVar, newRow]
      · rw [← hdst]
        rw [k2] at hnew
        exact hn _ _ _ _ _ h hnew.1 hnew.2
    · cases hc
  · -- a slice and nil
    rename_i op0 t x _ ho
    split at hc
    · rename_i et e1
      have hn' : ∀ (ad : Option Addr) (len cap : Nat) (neg : Bool), op0 = (if neg = true then .neq else .eql) → a.eval x = .slice ad len cap → (ad = none → len = 0) → nilK len neg (fun t => K (fput φ (o.dst.getD 0) (.b t)) σ) → o.dst = some (o.dst.getD 0) → o.wp P a w next Q := by
        intro ad len cap neg hop hx hz hk hds
        have hg := eqGuard_plain (P := P) (w := w) op0 t x (.const (.slice none 0 0)) (.slice ad len cap) (.slice none 0 0) (by simp) (by simp)
        have hcst : a.eval (.const (.slice none 0 0)) = .slice none 0 0 := rfl
        have hv : (execOp a.eval o).run P w = .ok (.value (.bool (ad.isNone != neg))) w := by
          cases neg with
          | true =>
            simp only [if_true] at hop
            subst hop
            simp only [execOp, ho, hx, hcst, Sem.run_bind, hg, Result.andThen_ok, run_neq_slice_nil_any w t et ad len cap 0 0 e1, Sem.run_pure]
            simp
          | false =>
            simp only [Bool.false_eq_true, if_false] at hop
            subst hop
            simp only [execOp, ho, hx, hcst, Sem.run_bind, hg, Result.andThen_ok, Lib.run_eql_slice_nil w t et ad len cap 0 0 e1, Sem.run_pure]
            simp
        refine val hv ?_
        have hput : ∀ b, K (fput φ (o.dst.getD 0) (.b b)) σ → next (a.put o.dst (.bool b)) w := by
          intro b hk
          rw [hds]
          exact hn _ _ _ _ _ hk (hs.set (hdl _ hds) (by simp only [rel])) (.refl _ _)
        cases ad with
        | none => have := hput (!neg) (hk.1 (hz rfl)); simpa using this
        | some ad => have := hput neg hk.2; simpa using this
      have fin : ∀ (dx : Opd) (neg : Bool), op0 = (if neg = true then .neq else .eql) → copd P inv t x = some dx → op = .isnil (o.dst.getD 0) neg dx → o.wp P a w next Q := by
        intro dx neg hop h1 e
        subst e
        have r1 := copd_rel hs.toKnows h1
        simp only [AOp.dst] at hdst
        simp only [aop] at h
        split at h
        · rename_i sz es ep
          rw [ep] at r1
          simp only [rel] at r1
          obtain ⟨ad, cap, q1, _, q3⟩ := r1
          refine hn' ad _ cap neg hop q1 (fun e => ?_) h hdst.symm
          cases es with
          | nil => rfl
          | cons r es => obtain ⟨a', ea, _⟩ := q3 (by simp); rw [e] at ea; cases ea
        · rename_i sz ep
          rw [ep] at r1
          simp only [rel] at r1
          obtain ⟨ad, q1⟩ := r1
          exact hn' ad _ _ neg hop q1 (fun _ => rfl) h hdst.symm
        · rename_i l ver off m sz ep
          rw [ep] at r1
          obtain ⟨p, ad, cap, _, _, _, q1, hcap, hr⟩ := sm_live h.1 r1
          refine hn' ad _ cap neg hop q1 (fun e => ?_) h.2 hdst.symm
          subst e
          split at hr
          · rcases hr.1 with h0 | h0
            · omega
            · cases h0
          · omega
        · exact h.elim
      split at hc
      · rename_i dx h1
        simp only [Option.some.injEq] at hc
        exact fin dx false rfl h1 hc.symm
      · rename_i dx h1
        simp only [Option.some.injEq] at hc
        exact fin dx true rfl h1 hc.symm
      · cases hc
    · cases hc
  · -- buildSlice
    rename_i t len parts ho
    split at hc
    · rename_i h00
      obtain ⟨hlen0, hp0⟩ := h00
      split at hc
      · rename_i e e1
        obtain ⟨k, h1, rfl⟩ := Option.map_eq_some_iff.1 hc
        simp only [AOp.dst] at hdst
        simp only [aop] at h
        have hp1 : parts = #[] := Array.isEmpty_iff.1 hp0
        have hrun : (execOp a.eval o).run P w = .ok (.value (.slice (some ⟨w.heap.size, 0, none⟩) 0 0)) (w.alloc (.cells #[] e)) := by
          simp [execOp, ho, hlen0, hp1, Instr.buildSlice, Sem.run_bind, run_underlying e1, run_siz h1, Instr.fill, newRow]
          congr 2
          exact Array.eq_empty_of_size_eq_zero (by simp)
        obtain ⟨m1, m2⟩ := hs.mem.call (w' := w.alloc (.cells #[] e)) ((Below.refl _ w).alloc (Nat.le_refl _) _) (mx N (fbound φ))
        refine val hrun ?_
        rw [← hdst]
        exact hn _ _ _ _ _ h (hs.put m1 m2 (le_mx_right _ _) (hdl _ hdst.symm) (by simp only [rel]; exact ⟨_, rfl⟩)) (m2.mono (le_mx_left _ _))
      · cases hc
    rename_i hnot
    split at hc
    · rename_i e e1
      split at hc
      · rename_i k z h1 h2
        split at hc
        · rename_i ps h3
          split at hc
          · rename_i hcond
            obtain ⟨c1, c2, c3, c4⟩ := hcond
            simp only [Option.some.injEq] at hc
            subst hc
            simp only [AOp.dst] at hdst
            obtain ⟨i, zv, hi, hz, hzr⟩ := zeroOf_rel (c := ctx inv M σ β w) h2
            have hzl := relCs_length hzr
            have hzs : zv.cells.size = k := by rw [← Array.length_toList, ← hzl]; exact c4
            simp only [aop] at h
            obtain ⟨cs, ecs, h⟩ := obind_elim h
            · have hmade : relCs (ctx inv M σ β w) (List.replicate len (runs z)).flatten (madeCells zv.cells (len * k)).toList := by
                rw [← hzs, madeCells_eq]
                exact rep_rel hzr len
              obtain ⟨cells', k1, k2⟩ := fill_sound hs.toKnows h3 ecs hmade
              have hcl : cs.length = len * k := by
                have : ∀ {ps : List (Nat × Nat × Opd)} {c c' : List AV}, fillA φ c ps = some c' → c'.length = c.length := by
                  intro ps
                  induction ps with
                  | nil => intro c c' h; simp only [fillA, Option.some.injEq] at h; rw [h]
                  | cons p ps ih =>
                    obtain ⟨o1, o2, o3⟩ := p
                    intro c c' h
                    simp only [fillA] at h
                    split at h
                    · rw [ih h, ovl_length]
                    · cases h
                rw [this ecs, rep_length, c4]
              have hcl2 := relCs_length k2
              have hrun : (execOp a.eval o).run P w = .ok (.value (.slice (some ⟨w.heap.size, 0, none⟩) len len)) (w.alloc (.cells cells' e)) := by
                have hne : ¬ len * k = 0 := fun e => by rcases Nat.mul_eq_zero.1 e with e | e <;> omega
                have hle : ¬ (len * k > 2 ^ 24) := by have : (2 : Nat) ^ 24 = 16777216 := rfl; omega
                have k1' : Instr.fill (fun i => some (i * k, k)) (Array.map (fun x => zv.cells[x % zv.cells.size]!) (Array.range (len * k))) (parts.toList.map fun p => (p.1, a.eval p.2)) = some cells' := by
                  rw [← k1]
                  simp only [Option.map_some]
                  rfl
                simp only [execOp, ho, Instr.buildSlice, Sem.run_bind, run_underlying e1, Result.andThen_ok, run_siz h1, if_neg hle, Sem.run_pure, if_neg hne, zeroValue, run_typeInfo w hi, hz]
                simp only [Array.toList_map] at k1' ⊢
                rw [k1']
                simp [newRow]
              have hb : AV.boundL cs ≤ fresh N φ σ := fillA_bound ecs (cparts_bound h3) _ f2 (rep_bound (by rw [zeroOf_bound h2]; omega) len)
              have hrow : relCs (ctx inv M σ β w) cs (cells'.toList.take cs.length) := by
                rw [show cs.length = cells'.toList.length from hcl2, List.take_length]
                exact k2
              have hnew := hs.new_sm (N := N) (hdl _ hdst.symm) (cs := cs) (xs := cells') (ty := e) (sz := k) (m := len) (cap := len) (w' := w.alloc (.cells cells' e)) rfl rfl rfl rfl hb hcl (Nat.le_refl _) (by rw [← Array.length_toList, ← hcl2, hcl]; exact Nat.le_refl _) hrow
              refine val hrun ?_
              rw [← hdst]
              split at h
              · rename_i hbare
                -- the row has no name
                have hcall := hs.mem.call (w' := w.alloc (.cells cells' e)) ((Below.refl _ _).alloc (Nat.le_refl _) _) (fbound φ)
                have hcallN := hs.mem.call (w' := w.alloc (.cells cells' e)) ((Below.refl _ _).alloc (Nat.le_refl _) _) N
                refine hn _ _ _ _ _ h (hs.put hcall.1 hcall.2 (Nat.le_refl _) (hdl _ hdst.symm) ?_) hcallN.2
                simp only [rel]
                refine ⟨_, _, by rw [chunks_length], by rw [chunks_length]; exact Nat.le_refl _, fun _ => ⟨_, rfl, ?_, ?_, ?_⟩⟩
                · rintro (hm | ⟨l', o', e', hr', hb'⟩)
                  · have h6 := hM _ hm
                    have h7 := hs.mem.below.size
                    simp only at h6
                    omega
                  · have := (hs.mem.own l' o' e' hr').2
                    simp only at hb'
                    omega
                · show w.heap.size < (w.alloc (.cells cells' e)).heap.size
                  simp
                · refine relRows_chunks len (by omega) hbare (ys := cells'.toList) ?_ fun j u hu => ?_
                  · have h5 := hcall.2.relCs (underL_of_bound cs (by rw [bareL_bound cs hbare]; omega)) k2
                    exact relCs_bare (S := fun _ => none) cs _ hbare h5
                  · show (w.alloc (.cells cells' e)).cell? _ = some u
                    rw [Nat.zero_add, addr_add, Nat.zero_add]
                    have : (w.alloc (.cells cells' e)).heap[w.heap.size]? = some (.cells cells' e (0, 0)) := heap_alloc_new w _
                    simp only [World.cell?, this, Option.isSome_none, Bool.false_eq_true, if_false]
                    simpa using hu
              · exact hn _ _ _ _ _ h hnew.1 hnew.2
          · cases hc
        · cases hc
      · cases hc
    · cases hc
  · -- store
    rename_i t x y ho
    split at hc
    · rename_i k dx dy h1 h2 h3
      simp only [Option.some.injEq] at hc
      subst hc
      simp only [AOp.dst] at hdst
      have r1 := copd_rel hs.toKnows h2
      have r2 := copd_rel hs.toKnows h3
      simp only [aop] at h
      split at h
      · rename_i l ver off ep
        rw [ep] at r1
        split at h
        · rename_i cs r hg
          obtain ⟨q1, q2, q3, ⟨q4, q5⟩, h⟩ := h
          obtain ⟨w', hrun, hst, hext⟩ := store_sound (N := N) hs h1 r1 r2 (ev_bound dy (copd_bound h3)) hg q1 q2 q3 q4 q5
          unfold Oper.wp
          have hx : (execOp a.eval o).run P w = .ok .skip w' := by simp only [execOp, ho, Sem.run_bind, hrun, Result.andThen_ok, Sem.run_pure]
          rw [hx]
          show next (a.put o.dst undef) w'
          rw [← hdst]
          exact hn _ _ _ _ _ h hst hext
        · exact h.elim
      · exact h.elim
    · cases hc
  · -- makeSlice
    rename_i t l c ho
    split at hc
    · rename_i e e1
      split at hc
      · rename_i i z dl dc hi h2 h3 h4
        split at hc
        · rename_i hcond
          obtain ⟨c1, c2, c3⟩ := hcond
          simp only [Option.some.injEq] at hc
          subst hc
          simp only [AOp.dst] at hdst
          obtain ⟨i', zv, hi', hz, hzr⟩ := zeroOf_rel (c := ctx inv M σ β w) h2
          rw [hi] at hi'
          simp only [Option.some.injEq] at hi'
          subst hi'
          have hzl := relCs_length hzr
          have hzs : zv.cells.size = i.size := by rw [← Array.length_toList, ← hzl]; exact c2
          have r1 := copd_rel hs.toKnows h3
          have r2 := copd_rel hs.toKnows h4
          simp only [aop] at h
          split at h
          · rename_i kl al kc ac el ec
            rw [el] at r1
            rw [ec] at r2
            simp only [rel] at r1 r2
            obtain ⟨⟨q1, q2, q3⟩, h⟩ := h
            have hbytes : (i.bytes : Int) * ac ≤ 281474976710656 := by
              have h5 : (i.bytes : Int) * ac ≤ 32768 * ac := Int.mul_le_mul_of_nonneg_right (by omega) (by omega)
              omega
            have hrun := run_make (P := P) w t e i zv e1 hi hz kl kc al ac q1 q2 hbytes (by omega)
            have hle : al.toNat ≤ ac.toNat := by omega
            have hnew := hs.new_sm (N := N) (hdl _ hdst.symm) (cs := (List.replicate al.toNat (runs z)).flatten) (xs := madeCells zv.cells (ac.toNat * i.size)) (ty := e) (sz := i.size) (m := al.toNat) (cap := ac.toNat) (w' := w.alloc (.cells (madeCells zv.cells (ac.toNat * i.size)) e)) rfl rfl rfl rfl
              (rep_bound (by rw [zeroOf_bound h2]; omega) _) (by rw [rep_length, c2]) hle (by rw [size_madeCells]; exact Nat.le_refl _)
              (by rw [rep_length, c2, ← hzs, madeCells_take zv.cells _ _ hle]; exact rep_rel hzr _)
            refine val (v := .slice (some ⟨w.heap.size, 0, none⟩) al.toNat ac.toNat) (w' := w.alloc (.cells (madeCells zv.cells (ac.toNat * i.size)) e)) ?_ ?_
            · simp only [execOp, ho, r1, r2, Sem.run_bind, hrun, Result.andThen_ok, Sem.run_pure]
            · rw [← hdst]; exact hn _ _ _ _ _ h hnew.1 hnew.2
          · exact h.elim
        · cases hc
      · cases hc
    · cases hc
  · -- call
    rename_i c ho
    unfold ccall at hc
    split at hc
    · rename_i g ecal
      split at hc
      · rename_i j l h1 h2
        split at hc
        · rename_i hsz
          simp only [Option.some.injEq] at hc
          subst hc
          simp only [aop] at h
          refine call_sound hE hs h1 (vs := c.args.map a.eval) ?_ hdl h rfl hn ?_
          · rw [Array.toList_map]; exact copds_zip hs.toKnows h2 (by simpa using hsz)
          · simp [execOp, ho, resolve, ecal, invoke, Act.eval, Deferred.ofValue]
        · cases hc
      · cases hc
    · rename_i f _ ecal
      split at hc
      · rename_i df l h1 h2
        split at hc
        · rename_i hsz
          simp only [Option.some.injEq] at hc
          subst hc
          have r1 := copd_rel hs.toKnows h1
          simp only [aop] at h
          split at h
          · rename_i j caps ej
            rw [ej] at r1
            simp only [rel] at r1
            obtain ⟨g, xs, q1, q2, q3⟩ := r1
            refine call_sound hE hs q2 (vs := c.args.map a.eval ++ xs) ?_ hdl h rfl hn ?_
            · rw [Array.toList_append, Array.toList_map]; exact relL_append (copds_zip hs.toKnows h2 (by simpa using hsz)) q3
            · simp [execOp, ho, resolve, ecal, q1, invoke, Deferred.ofValue]
          · exact h.elim
        · cases hc
      · cases hc
    · rename_i ecal
      split at hc
      · rename_i d s x t u e0 e1 e2
        split at hc
        · rename_i e d' ds dx e3 e4 e5 e6
          split at hc
          · rename_i i e7
            split at hc
            · rename_i z e8
              split at hc
              · rename_i hcond
                simp only [Option.some.injEq] at hc
                subst hc
                simp only [aop] at h
                obtain ⟨v, w', φ', σ', β', hk, hrun, hst, hext⟩ := app_sound (N := N) (ty := o.type) hs e3 e4 e7 e8 hcond.2.1 hcond.1 hcond.2.2 (hdl d e0) (copd_rel hs.toKnows e5) (copd_rel hs.toKnows e6) h
                obtain ⟨callee, ⟨args⟩, ⟨ts⟩⟩ := c
                simp only at ecal e1 e2
                subst ecal e1 e2
                refine val (v := v) (w' := w') ?_ ?_
                · simp [execOp, ho, resolve, invoke, builtin, hrun]
                · rw [e0]; exact hn _ _ _ _ _ hk hst hext
              · cases hc
            · cases hc
          · cases hc
        · -- so many zeros
          rename_i e kq ds dx e3 e4 e5 e6
          split at hc
          · rename_i i z hi e8
            split at hc
            · rename_i hcond
              obtain ⟨c1, c2, c3⟩ := hcond
              simp only [Option.some.injEq] at hc
              subst hc
              obtain ⟨i', zv, hi', hz, hzr⟩ := zeroOf_rel (c := ctx inv M σ β w) e8
              rw [hi] at hi'
              simp only [Option.some.injEq] at hi'
              subst hi'
              have hzl := relCs_length hzr
              have hzs : zv.cells.size = i.size := by rw [← Array.length_toList, ← hzl]; exact c2
              have r1 := copd_rel hs.toKnows e5
              have r2 := copd_rel hs.toKnows e6
              simp only [aop] at h
              obtain ⟨callee, ⟨args⟩, ⟨ts⟩⟩ := c
              simp only at ecal e1 e2
              subst ecal e1 e2
              split at h
              · rename_i sz0 b el eb
                rw [el] at r1
                rw [eb] at r2
                simp only [rel] at r1 r2
                obtain ⟨ad, r1⟩ := r1
                obtain ⟨⟨q1, q2⟩, h⟩ := h
                obtain ⟨m, rfl⟩ := Int.eq_ofNat_of_zero_le q1
                simp only [Int.toNat_natCast] at h
                rcases Nat.eq_zero_or_pos m with h0 | h0
                · subst h0
                  simp only [Nat.lt_irrefl, decide_false, List.replicate_zero, List.flatten_nil] at h
                  have hg := hs.mem.ghost_put f3
                  have hrun : (Builtin.append_ #[t, u] o.type #[.slice ad 0 0, .int .i64 ((0 : Nat) : Int)]).run P w = .ok (.slice ad 0 0) w := by
                    have hw : IntKind.i64.wrap (0 : Int) = 0 := by rw [IntKind.wrap_i64]; rfl
                    cases ad <;> simp [Builtin.append_, run_underlying e3, run_underlying e4, sizeOf, typeInfo, hi, asInt, asIntOf, hw, storeCells]
                  refine val (v := .slice ad 0 0) (w' := w) ?_ ?_
                  · simp only [Int.natCast_zero] at hrun
                    simp [execOp, ho, resolve, invoke, builtin, r1, r2, hrun]
                  · rw [e0]
                    refine hn _ _ _ _ _ h (hs.put hg.1 hg.2.1 f2 (hdl d e0) ?_) (hg.2.1.mono f1)
                    simp only [rel]
                    refine ⟨rfl, fun p' hp' => ?_⟩
                    have : p' = ⟨0, 0, 0, false⟩ := by have := (show place β w _ _ = some p' from hp').symm.trans hg.2.2; simpa using this
                    subst this
                    exact ⟨by simp, fun _ => ⟨by simp, ad, 0, rfl, Nat.le_refl _, by simp⟩⟩
                · have hm31 : m ≤ 2147483648 := by omega
                  have hby : m * i.bytes ≤ 140737488355328 := Nat.le_trans (Nat.mul_le_mul_left _ c3) (by omega)
                  have hfo : (Builtin.firstCells i.size 0 (.slice ad 0 0)).run P w.drew = .ok #[] w.drew := by cases ad <;> simp [Builtin.firstCells, loadCells, loadCellsFrom]
                  have hrun := Lib.run_append_grow_zeros (P := P) w t u o.type e i zv .i64 kq e3 e4 hi hz ad 0 0 [] hfo m h0 c1 (by omega) (by omega) (by omega) (growslice_fits (by omega) (by simpa using hby))
                  simp only [Nat.zero_add] at hrun
                  have hge := grownCap_ge w m 0 e
                  rw [show decide (0 < m) = true by simpa using h0] at h
                  have hnew := hs.new_sm (N := N) (hdl d e0) (cs := (List.replicate m (runs z)).flatten) (m := m) (sz := i.size) (cap := grownCap w m 0 e) (w' := w.drew.alloc (.cells ([].toArray ++ Builtin.zeroCells zv.cells m ++ Builtin.zeroCells zv.cells (grownCap w m 0 e - m)) e))
                    rfl rfl rfl rfl (rep_bound (by rw [zeroOf_bound e8]; omega) _) (by rw [rep_length, c2]) hge
                    (by simp [size_zeroCells, hzs]; rw [← Nat.add_mul]; exact Nat.mul_le_mul_right _ (by omega))
                    (by
                      have hz2 : (Builtin.zeroCells zv.cells m).toList = (List.replicate m zv.cells.toList).flatten := madeCells_eq zv.cells m
                      have : ([].toArray ++ Builtin.zeroCells zv.cells m ++ Builtin.zeroCells zv.cells (grownCap w m 0 e - m)).toList.take (List.replicate m (runs z)).flatten.length = (List.replicate m zv.cells.toList).flatten := by
                        simp only [Array.toList_append, hz2, List.nil_append]
                        rw [List.take_left' (by rw [rep_length, rep_length, c2]; simp [hzs])]
                      rw [this]
                      exact rep_rel hzr m)
                  refine val (v := .slice (some ⟨w.heap.size, 0, none⟩) m (grownCap w m 0 e)) (w' := w.drew.alloc (.cells ([].toArray ++ Builtin.zeroCells zv.cells m ++ Builtin.zeroCells zv.cells (grownCap w m 0 e - m)) e)) ?_ ?_
                  · simp only [execOp, ho, resolve, invoke, builtin, r1, r2]
                    simp [hrun, r1, r2]
                  · rw [e0]; exact hn _ _ _ _ _ h hnew.1 hnew.2
              · exact h.elim
            · cases hc
          · cases hc
        · cases hc
      · cases hc
    · cases hc
  · -- makeMap
    rename_i t ho
    simp only [Option.some.injEq] at hc
    subst hc
    simp only [AOp.dst] at hdst
    simp only [aop] at h
    have hnew := hs.new_map (N := N) (hdl _ hdst.symm)
    refine val (v := .map (some w.heap.size)) (w' := w.alloc (.map #[] 0)) ?_ ?_
    · simp [execOp, ho, Instr.makeMap]
    · rw [← hdst]; exact hn _ _ _ _ _ h hnew.1 hnew.2
  · -- mapUpdate
    rename_i t m k v ho
    split at hc
    · rename_i kt vt e1
      split at hc
      · rename_i dm dk dv e2 h1 h2 h3
        simp only [Option.some.injEq] at hc
        subst hc
        simp only [AOp.dst] at hdst
        have r1 := copd_rel hs.toKnows h1
        have r2 := copd_rel hs.toKnows h2
        have r3 := copd_rel hs.toKnows h3
        simp only [aop] at h
        split at h
        · rename_i l b x em ek exv
          split at h
          · rename_i kvs hg
            rw [em] at r1
            rw [ek] at r2
            rw [exv] at r3
            simp only [rel] at r1 r2 r3
            have hp : place β w σ l = some ⟨β l, 0, 0, true⟩ := by unfold place; rw [hg]
            have hm := r1.2 _ hp rfl
            simp only at hm
            obtain ⟨es, clk, hh, hes⟩ := hs.mem.maps l kvs hg
            have hfk : (Instr.findKey kt (.int .i64 b) es.toList).run P w = .ok (findI es.toList b 0) w := by
              simp only [Instr.findKey, Sem.run_bind, run_underlying e2, Result.andThen_ok, findNow_eq b es.toList kvs 0 hes, Sem.run_pure]
            have hck := Go.MapKept.run_checkKey (w := w) (k := .int .i64 b) e2 rfl false 9999
            have hown := hs.mem.own l _ hg rfl
            have hu : upd β l (β l) = β := by funext k; unfold upd; split <;> simp_all
            have fin : ∀ (es' : Array MapEntry) (clk' : Nat), es'.toList.map (fun e => (e.key, e.val)) = (mset kvs b x).map (fun p => (Value.int .i64 p.1, Value.int .i64 p.2)) →
                (Instr.mapUpdate t (a.eval m) (a.eval k) (a.eval v)).run P w = .ok () { w with heap := w.heap.setIfInBounds (β l) (.map es' clk') } → o.wp P a w next Q := by
              intro es' clk' he hrun
              have hput := hs.mem.put_imap (l := l) (b' := β l) (kvs := mset kvs b x) (es := es') (clk := clk') (w' := { w with heap := w.heap.setIfInBounds (β l) (.map es' clk') }) (N := fresh N φ σ)
                (hs.mem.below.trans ⟨rfl, rfl, rfl, by simp, fun b' hb' => (Go.MapKept.heap_set hh).2 b' (by omega)⟩) (by simp)
                (fun b' _ hne => (Go.MapKept.heap_set hh).2 b' hne) (Go.MapKept.heap_set hh).1 hown.1 (fun l' o' hne e hr he => hne (hs.mem.inj l' l o' _ e hg hr rfl he)) (.inr ⟨kvs, hg, rfl⟩) (fun hle => by omega) f3 (fun hle => by omega) he
              rw [hu] at hput
              unfold Oper.wp
              have hx : (execOp a.eval o).run P w = .ok .skip { w with heap := w.heap.setIfInBounds (β l) (.map es' clk') } := by simp only [execOp, ho, Sem.run_bind, hrun, Result.andThen_ok, Sem.run_pure]
              rw [hx]
              show next (a.put o.dst undef) _
              rw [← hdst]
              exact hn _ _ _ _ _ h (hs.keep hput.1 hput.2.1 f2) (hput.2.1.mono f1)
            rcases findI_set b x es.toList kvs 0 hes with ⟨g1, g2⟩ | ⟨j, y, e', g1, g2, g3, g4⟩
            · rw [g1] at hfk
              refine fin (es.push { key := .int .i64 b, val := .int .i64 x, born := clk }) (clk + 1) (by rw [g2]; simp [hes]) ?_
              rw [hm, r2, r3]
              simp only [Instr.mapUpdate, Sem.run_bind, run_underlying e1, Result.andThen_ok, Go.MapKept.run_getObj_map hh, hck, hfk, Go.MapKept.run_setObj_map _ hh]
            · rw [g1, Nat.zero_add] at hfk
              refine fin (es.modify j fun e => { e with key := .int .i64 b, val := .int .i64 x }) clk (by rw [← g4]; simp) ?_
              rw [hm, r2, r3]
              have g5 : es[j]? = some e' := by simpa using g2
              have hks : (Instr.keyThatStays (.int .i64 b) (.int .i64 b)).run P w = .ok (.int .i64 b) w := Go.MapKept.run_keyThatStays (d := .int .i64) rfl
              simp only [Instr.mapUpdate, Sem.run_bind, run_underlying e1, Result.andThen_ok, Go.MapKept.run_getObj_map hh, hck, hfk, g5, Option.map_some, Option.getD_some, g3, hks, Go.MapKept.run_setObj_map _ hh]
          · exact h.elim
        · exact h.elim
      · cases hc
    · cases hc
  · cases hc
end
end Go.Eng
