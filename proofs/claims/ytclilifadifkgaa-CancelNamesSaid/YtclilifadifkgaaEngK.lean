/-
  THE ENGINE, PART K: append.
-/
import Derived.Test.YtclilifadifkgaaEngJ
namespace Go.Eng
open Go.RowKit

section
variable {P : Program} {inv : Nat → Option Nat} {w0 : World} {M : Nat → Prop} {n N : Nat} {φ : AF} {σ : AS} {β : Nat → Nat} {a : Act} {w : World}

theorem cell_heap {w w' : World} (h : w'.heap = w.heap) (p : Addr) : w'.cell? p = w.cell? p := by simp [World.cell?, h]

theorem boundL_seg {N : Nat} {cs : List AV} (h : AV.boundL cs ≤ N) (off m : Nat) : AV.boundL (seg cs off m) ≤ N :=
  boundL_of fun x hx => boundL_sub h x (List.mem_of_mem_drop (List.mem_of_mem_take hx))

theorem asrc_sound {sz : Nat} {x : AV} {u : Value} {K : Nat → List AV → Prop} (hm : Mem inv w0 M σ β w) (hx : rel (ctx inv M σ β w) x u) (h : asrc σ sz x K) :
    ∃ m new A c news, K m new ∧ u = .slice A m c ∧ relCs (ctx inv M σ β w) new news ∧ news.length = m * sz ∧ AV.boundL new ≤ sbound σ ∧
      ∀ w', w'.heap = w.heap → (Builtin.firstCells sz m (.slice A m c)).run P w' = .ok news.toArray w' := by
  unfold asrc at h
  split at h
  · simp only [rel] at hx
    obtain ⟨ad, rfl⟩ := hx
    refine ⟨0, [], ad, 0, [], h, rfl, relCs_nil, by simp, by simp [AV.boundL], fun w' _ => ?_⟩
    cases ad <;> simp [Builtin.firstCells, loadCells, loadCellsFrom]
  · rename_i sz' es
    obtain ⟨rfl, h⟩ := h
    simp only [rel] at hx
    obtain ⟨ad, cap, rfl, hcap, hr⟩ := hx
    by_cases hne : es = []
    · subst hne
      refine ⟨_, _, ad, cap, [], h, rfl, by simpa using relCs_nil, by simp, by simp [AV.boundL], fun w' _ => ?_⟩
      cases ad <;> simp [Builtin.firstCells, loadCells, loadCellsFrom]
    · obtain ⟨a', rfl, _, _, hrows⟩ := hr hne
      obtain ⟨hl, hb, ys, hys, hc⟩ := relRows_list hrows
      have hyl := relCs_length hys
      refine ⟨_, _, _, cap, ys, h, rfl, relCs_bare (S := (ctx inv M σ β w).S) _ _ hb hys, by rw [← hyl, hl], by rw [bareL_bound _ hb]; omega, fun w' hw' => ?_⟩
      exact run_firstCells_some w' sz' es.length a' es.length cap ys (by rw [← hyl, hl]) fun j v hv => by
        rw [cell_heap hw']; have := hc j v hv; simp only [Nat.zero_add] at this; exact this
  · rename_i l ver off m sz'
    obtain ⟨rfl, h⟩ := h
    split at h
    · rename_i cs r hg
      obtain ⟨hv, h⟩ := h
      have hlive : live σ l ver := by unfold live; rw [hg]; exact hv
      obtain ⟨p, ad, cap, hp, hpv, hb, rfl, hcap, hr⟩ := sm_live hlive hx
      have hbd := boundL_seg (sbound_get σ l _ hg).2 off (m * sz')
      have hsegl : (seg cs off (m * sz')).length = m * sz' := by simp [seg]; omega
      by_cases h0 : m = 0
      · subst h0
        refine ⟨0, _, ad, cap, [], h, rfl, by simpa [seg] using relCs_nil, by simp, hbd, fun w' _ => ?_⟩
        cases ad <;> simp [Builtin.firstCells, loadCells, loadCellsFrom]
      · have hreal : r = true := by
          cases r with
          | true => rfl
          | false =>
            unfold place at hp
            rw [hg] at hp
            cases hp
            simp at hr
            omega
        subst hreal
        have hpe : p = ⟨β l, cs.length, blockSize w (β l), true⟩ := by unfold place at hp; rw [hg] at hp; cases hp; rfl
        subst hpe
        simp only [if_true] at hr
        obtain ⟨hr1, hr2⟩ := hr
        have had : ad = some ⟨β l, off, none⟩ := hr1.resolve_left (by omega)
        subst had
        obtain ⟨ys, hyl, hyr, hyc⟩ := hm.cell hg
        refine ⟨m, _, _, cap, (ys.drop off).take (m * sz'), h, rfl, relCs_take _ (relCs_drop _ hyr), by simp [hyl]; omega, hbd, fun w' hw' => ?_⟩
        exact run_firstCells_some w' sz' m _ m cap _ (by simp [hyl]; omega) fun j v hv => by
          rw [cell_heap hw', addr_add]
          rw [List.getElem?_take] at hv
          split at hv
          · rw [List.getElem?_drop] at hv; exact hyc _ _ hv
          · cases hv
    · exact h.elim
  · exact h.elim

/-- A row that is not there yet gets a name. -/
theorem Mem.ghost_put {l : Nat} (h : Mem inv w0 M σ β w) (hl : sbound σ ≤ l) : Mem inv w0 M (sput σ l (.cells [] false)) β w ∧ Ext l (ctx inv M σ β w) (ctx inv M (sput σ l (.cells [] false)) β w) ∧ place β w (sput σ l (.cells [] false)) l = some ⟨0, 0, 0, false⟩ := by
  have hno : ∀ o, sget σ l ≠ some o := fun o e => by have := (sbound_get σ l o e).1; omega
  have hget : ∀ k o, sget (sput σ l (.cells [] false)) k = some o → o.real = true → sget σ k = some o := by
    intro k o e hr
    rw [sget_sput] at e
    split at e
    · simp at e; subst e; cases hr
    · exact e
  have hpl : ∀ k, k ≠ l → place β w (sput σ l (.cells [] false)) k = place β w σ k := by
    intro k hk
    unfold place
    rw [sget_sput, if_neg hk]
  have hx : Ext l (ctx inv M σ β w) (ctx inv M (sput σ l (.cells [] false)) β w) := by
    refine ⟨⟨rfl, Nat.le_refl _, fun _ _ _ => rfl, fun b _ hA => ?_⟩, fun k hk p' hp' => ?_⟩
    · rcases hA with hm | ⟨k, o, e, hr, hb⟩
      · exact .inl hm
      · exact .inr ⟨k, o, hget k o e hr, hr, hb⟩
    · exact ⟨p', (hpl k (by omega)).symm.trans hp', Nat.le_refl _, fun _ => rfl⟩
  refine ⟨⟨h.below, fun l1 l2 o1 o2 e1 e2 r1 r2 => h.inj l1 l2 o1 o2 (hget _ _ e1 r1) (hget _ _ e2 r2) r1 r2, fun l1 o1 e1 r1 => h.own l1 o1 (hget _ _ e1 r1) r1, fun l1 cs e1 => ?_, fun l1 cs e1 => ?_, fun l1 kvs e1 => h.maps l1 kvs (hget _ _ e1 rfl)⟩, hx, ?_⟩
  · have e2 := hget _ _ e1 rfl
    obtain ⟨xs, ty, q1, q2, q3⟩ := h.cells l1 cs e2
    exact ⟨xs, ty, q1, q2, hx.relCs (underL_of_bound _ (Nat.le_trans (sbound_get σ l1 _ e2).2 hl)) q3⟩
  · rw [sget_sput] at e1
    split at e1
    · simp at e1; exact e1
    · exact h.ghost l1 cs e1
  · unfold place
    rw [sget_sput, if_pos rfl]
    rfl

/-- Names that read alike. -/
theorem Mem.alike {σ' : AS} (h : Mem inv w0 M σ β w) (he : ∀ l, sget σ' l = sget σ l) (N1 : Nat) : Mem inv w0 M σ' β w ∧ Ext N1 (ctx inv M σ β w) (ctx inv M σ' β w) := h.drop (fun l o e => by rw [← he l]; exact e) N1

theorem app_sound {t u ty e d' : TypeId} {i : TypeInfo} {z : Value} (hs : St inv w0 M n φ σ β a w) (ht : P.underlying t = some (.slice e)) (hu : P.underlying u = some (.slice d')) (hi : P.info? e = some i) (hz : i.zero = some z) (hzs : z.cells.size = i.size) (hpos : 0 < i.size) (hby : i.bytes ≤ 32768)
    {d : Nat} (hd : d < n) {s x : AV} {vs vx : Value} (hs1 : rel (ctx inv M σ β w) s vs) (hx1 : rel (ctx inv M σ β w) x vx) {K : AF → AS → Prop}
    (hh : asrc σ i.size x fun m new => aapp φ σ (fresh N φ σ) d i.size s m new K) :
    ∃ v w' φ' σ' β', K φ' σ' ∧ (Builtin.append_ #[t, u] ty #[vs, vx]).run P w = .ok v w' ∧ St inv w0 M n φ' σ' β' (a.put (some d) v) w' ∧ Ext N (ctx inv M σ β w) (ctx inv M σ' β' w') := by
  obtain ⟨m, new, A, c, news, h, rfl, hnr, hnl, hnb, hfc⟩ := asrc_sound (P := P) hs.mem hx1 hh
  clear hh
  have hnewl := relCs_length hnr
  obtain ⟨f1, f2, f3⟩ := fresh_le N φ σ
  have hones := relCs_one hnr
  unfold aapp at h
  split at h
  · -- nothing lies there
    rename_i sz0
    obtain ⟨hsize, h⟩ := h
    simp only [rel] at hs1
    obtain ⟨ad, rfl⟩ := hs1
    by_cases h0 : m = 0
    · subst h0
      have hn0 : new = [] := List.eq_nil_of_length_eq_zero (by rw [hnewl, hnl]; simp)
      subst hn0
      have hg := hs.mem.ghost_put f3
      refine ⟨.slice ad 0 0, w, _, _, β, h, run_app_none w ht hu hi ad 0 0 (Nat.le_refl _) A c, ?_, hg.2.1.mono f1⟩
      simp only [Nat.lt_irrefl, decide_false]
      refine hs.put hg.1 hg.2.1 f2 hd ?_
      simp only [rel]
      refine ⟨rfl, fun p' hp' => ?_⟩
      have : p' = ⟨0, 0, 0, false⟩ := by have := (show place β w _ _ = some p' from hp').symm.trans hg.2.2; simpa using this
      subst this
      exact ⟨by simp, fun _ => ⟨by simp, ad, 0, rfl, Nat.le_refl _, by simp⟩⟩
    · have hfo : (Builtin.firstCells i.size 0 (.slice ad 0 0)).run P w.drew = .ok #[] w.drew := by cases ad <;> simp [Builtin.firstCells, loadCells, loadCellsFrom]
      have hrun := run_app_grow (P := P) (ty := ty) w ht hu hi hz ad 0 0 [] news A m c hfo (hfc w.drew rfl) (by omega) (by omega)
        (growslice_fits (by omega) (Nat.le_trans (Nat.mul_le_mul_left _ hby) (by omega)))
      simp only [Nat.zero_add] at hrun
      have hge := grownCap_ge w m 0 e
      have hnew := hs.new_sm (N := N) (d := d) hd (cs := new) (m := m) (sz := i.size) (cap := grownCap w m 0 e) (w' := w.drew.alloc (.cells ([].toArray ++ news.toArray ++ Builtin.zeroCells z.cells (grownCap w m 0 e - m)) e))
        rfl rfl rfl rfl (Nat.le_trans hnb f3) (by rw [hnewl, hnl]) hge
        (by simp [size_zeroCells, hzs, hnl]; rw [← Nat.add_mul]; exact Nat.mul_le_mul_right _ (by omega))
        (by simp [hnewl]; exact hnr)
      rw [show decide (0 < m) = true by simp; omega] at h
      exact ⟨_, _, _, _, _, h, hrun, hnew.1, hnew.2⟩
  · -- a named row
    rename_i l ver off k sz'
    obtain ⟨e1, e2, hkv, hsize, h⟩ := h
    subst e1 e2
    split at h
    · rename_i cs r hg
      obtain ⟨hv, h⟩ := h
      have hlive : live σ l ver := by unfold live; rw [hg]; exact hv
      obtain ⟨p, ad, cap, hp, hpv, hb, rfl, hcap, hr⟩ := sm_live hlive hs1
      by_cases h0 : m = 0
      · subst h0
        have hn0 : new = [] := List.eq_nil_of_length_eq_zero (by rw [hnewl, hnl]; simp)
        subst hn0
        have hal := hs.mem.alike (σ' := sput σ l (.cells (cs ++ []) (r || decide (0 < 0)))) (fun l' => by rw [sget_sput]; split <;> simp_all) (fresh N φ σ)
        refine ⟨.slice ad k cap, w, _, _, β, h, run_app_none w ht hu hi ad k cap hcap A c, ?_, hal.2.mono f1⟩
        refine hs.put hal.1 hal.2 f2 hd ?_
        have : rel (ctx inv M σ β w) (.sm l ((k + 0) * i.size) 0 (k + 0) i.size) (.slice ad k cap) := by rw [Nat.add_zero, hkv]; exact hs1
        refine hal.2.rel ?_ this
        simp only [AV.under, Nat.blt_eq]
        have := (sbound_get σ l _ hg).1
        omega
      · have hrb : (r || decide (0 < m)) = true := by simp; omega
        rw [hrb] at h
        by_cases hroom : k + m ≤ cap
        · -- there is room
          have hreal : r = true := by
            cases r with
            | true => rfl
            | false => unfold place at hp; rw [hg] at hp; cases hp; simp at hr; omega
          subst hreal
          have hpe : p = ⟨β l, cs.length, blockSize w (β l), true⟩ := by unfold place at hp; rw [hg] at hp; cases hp; rfl
          subst hpe
          simp only [if_true] at hr
          obtain ⟨hr1, hr2⟩ := hr
          have had : ad = some ⟨β l, 0, none⟩ := hr1.resolve_left (by omega)
          subst had
          obtain ⟨xs, te, e1, e2, e3⟩ := hs.mem.cells l cs hg
          have hbs : blockSize w (β l) = xs.size := by simp [blockSize, e1]
          rw [hbs] at hr2
          have hfit : k * i.size + news.length ≤ xs.size := by rw [hnl, ← Nat.add_mul]; exact Nat.le_trans (Nat.mul_le_mul_right _ hroom) (by omega)
          have hrun := run_app_room (P := P) (ty := ty) w ht hu hi (β l) k cap xs te e1 A m c news (hfc w rfl) hones hroom hfit
          have hcl : cs.length = k * i.size := by omega
          have hxl : cs.length ≤ xs.toList.length := by simpa using e2
          have hw := hs.mem.write (cs' := cs ++ new) (xs' := (xs.toList.take (k * i.size) ++ news ++ xs.toList.drop (k * i.size + news.length)).toArray) (N2 := fresh N φ σ) hg e1 f3
            (boundL_le_append (Nat.le_trans (sbound_get σ l _ hg).2 f3) (Nat.le_trans hnb f3))
            (by simp [hnewl]; omega) (by simp; omega) (by simp)
            (by
              have hlen : (xs.toList.take (k * i.size) ++ news).length = (cs ++ new).length := by simp [hnewl]; omega
              simp only
              rw [List.take_append_of_le_length (by rw [hlen]; exact Nat.le_refl _), ← hlen, List.take_length, ← hcl]
              exact relCs_append e3 hnr)
          refine ⟨_, _, _, _, β, h, hrun, hs.put hw.1 hw.2.1 f2 hd ?_, hw.2.1.mono f1⟩
          have := rel_sm_mk (inv := inv) (M := M) (off := 0) (m := k + m) (sz := i.size) (cap := cap) (ver := (k + m) * i.size) hw.2.2 (by simp [hnewl, hnl, Nat.add_mul]; omega) (by simp) hroom rfl (by simpa using hr2)
          exact this
        · -- a new row
          have holds : ∃ olds : List Value, olds.length = k * i.size ∧ relCs (ctx inv M σ β w) cs olds ∧ (Builtin.firstCells i.size k (.slice ad k cap)).run P w.drew = .ok olds.toArray w.drew := by
            cases r with
            | false =>
              have hc0 := hs.mem.ghost l cs hg
              subst hc0
              have hk0 : k = 0 := by
                rcases Nat.eq_zero_or_pos k with e | e
                · exact e
                · have : 0 < k * i.size := Nat.mul_pos e hpos
                  simp at hv; omega
              subst hk0
              refine ⟨[], by simp, relCs_nil, ?_⟩
              cases ad <;> simp [Builtin.firstCells, loadCells, loadCellsFrom]
            | true =>
              have hpe : p = ⟨β l, cs.length, blockSize w (β l), true⟩ := by unfold place at hp; rw [hg] at hp; cases hp; rfl
              subst hpe
              simp only [if_true] at hr
              obtain ⟨ys, hyl, hyr, hyc⟩ := hs.mem.cell hg
              refine ⟨ys, by omega, hyr, ?_⟩
              by_cases hk : k = 0
              · subst hk
                have : ys = [] := List.eq_nil_of_length_eq_zero (by omega)
                subst this
                cases ad <;> simp [Builtin.firstCells, loadCells, loadCellsFrom]
              · have had : ad = some ⟨β l, 0, none⟩ := hr.1.resolve_left (by omega)
                subst had
                exact run_firstCells_some w.drew i.size k _ k cap ys (by omega) fun j v hv' => by rw [addr_add]; simpa using hyc j v hv'
          obtain ⟨olds, hol, hor, hof⟩ := holds
          have hrun := run_app_grow (P := P) (ty := ty) w ht hu hi hz ad k cap olds news A m c hof (hfc w.drew rfl) (by omega) (by omega)
            (growslice_fits (by omega) (Nat.le_trans (Nat.mul_le_mul_left _ hby) (by omega)))
          have hge := grownCap_ge w (k + m) cap e
          have hcl : cs.length = k * i.size := by omega
          generalize hblk : olds.toArray ++ news.toArray ++ Builtin.zeroCells z.cells (grownCap w (k + m) cap e - (k + m)) = blk at hrun
          have hbl : blk.size = grownCap w (k + m) cap e * i.size := by
            rw [← hblk]
            simp only [Array.size_append, List.size_toArray, size_zeroCells, hzs, hol, hnl, ← Nat.add_mul]
            congr 1
            omega
          have hbt : blk.toList.take (cs ++ new).length = olds ++ news := by
            rw [← hblk]
            have : (cs ++ new).length = (olds ++ news).length := by simp [hnewl, hol]; omega
            rw [this]
            simp only [Array.toList_append]
            rw [List.take_left']
            rfl
          have hheap : ∀ b, b < w.heap.size → (w.drew.alloc (.cells blk e)).heap[b]? = w.heap[b]? := fun b hb => Below.heap_alloc w.drew _ b hb
          have hlen' : (cs ++ new).length ≤ blk.size := by
            rw [hbl]
            simp only [List.length_append, hnewl, hnl, hcl, ← Nat.add_mul]
            exact Nat.mul_le_mul_right _ hge
          have hsizep : 0 < m * i.size := Nat.mul_pos (by omega) hpos
          have hput := Mem.put (l := l) (b' := w.heap.size) (cs' := cs ++ new) (xs' := blk) (ty := e) (N := fresh N φ σ) (w' := w.drew.alloc (.cells blk e)) hs.mem
            (hs.mem.below.trans ⟨rfl, rfl, rfl, by simp, fun b hb => hheap b (Nat.lt_of_lt_of_le hb hs.mem.below.size)⟩) (by simp) (fun b hb _ => hheap b hb) (heap_alloc_new w.drew _) hlen' hs.mem.below.size
            (fun l' o' _ e' hr' => Nat.ne_of_lt (hs.mem.own l' o' e' hr').2) (.inl (Nat.le_refl _)) (fun l' o' e' _ => Nat.le_trans (sbound_get σ l' o' e').2 f3)
            (boundL_le_append (Nat.le_trans (sbound_get σ l _ hg).2 f3) (Nat.le_trans hnb f3))
            (fun _ p' hp' => ⟨p, hp, by simp at hp'; subst hp'; simp [hpv, hnewl, hnl]; omega, fun ee => by simp at hp'; subst hp'; simp [hpv, hnewl, hnl] at ee; omega⟩)
            (by rw [hbt]; exact relCs_append hor hnr)
          have hpl : place (upd β l w.heap.size) (w.drew.alloc (.cells blk e)) (sput σ l (.cells (cs ++ new) true)) l = some ⟨w.heap.size, (cs ++ new).length, blk.size, true⟩ := by
            unfold place
            rw [sget_sput, if_pos rfl]
            have : (w.drew.alloc (.cells blk e)).heap[w.heap.size]? = some (.cells blk e (0, 0)) := heap_alloc_new w.drew _
            simp only [upd_same, blockSize, this]
          refine ⟨_, _, _, _, _, h, hrun, hs.put hput.1 hput.2 f2 hd ?_, hput.2.mono f1⟩
          exact rel_sm_mk (inv := inv) (M := M) (off := 0) (m := k + m) (sz := i.size) (cap := grownCap w (k + m) cap e) (ver := (k + m) * i.size) hpl (by simp [hnewl, hnl, Nat.add_mul]; omega) (by simp) hge rfl (by show 0 + _ ≤ blk.size; rw [hbl]; omega)
    · exact h.elim
  · exact h.elim
end
end Go.Eng
