/-
  THE ENGINE, PART G: all operations that reckon a value.
-/
import Derived.Test.YtclilifadifkgaaEngF
import Derived.MapKept
namespace Go.Eng
open Go.RowKit

section
variable {P : Program} {inv : Nat → Option Nat} {w0 : World} {M : Nat → Prop} {φ : AF} {σ : AS} {β : Nat → Nat} {a : Act} {w : World}

theorem cells_take {c : Ctx} {cs : List AV} {zs : Array Value} (off n : Nat) (h : relCs c cs zs.toList) : rel c (.agg (seg cs off n)) (.agg (zs.extract off (off + n))) := by
  simp only [rel]
  refine ⟨_, rfl, ?_⟩
  rw [Array.toList_extract]
  simp only [seg, List.extract]
  rw [show off + n - off = n by omega]
  exact relCs_take n (relCs_drop off h)
theorem relCs_arr {c : Ctx} {cs : List AV} {zs : Array Value} {i : Nat} {x : AV} (h : relCs c cs zs.toList) (e : cs[i]? = some x) : ∃ y, zs[i]? = some y ∧ rel c x y := by
  obtain ⟨y, h1, _, h2⟩ := relCs_get h e
  exact ⟨y, by simpa using h1, h2⟩

def keyI : Value → Option Int | .int .i64 k => some k | _ => none
/-- The entry of a key. -/
def findI : List MapEntry → Int → Nat → Option (Nat × Value)
  | [], _, _ => none
  | e :: es, b, i => if keyI e.key = some b then some (i, e.val) else findI es b (i + 1)
theorem findNow_eq (b : Int) : ∀ (l : List MapEntry) (kvs : List (Int × Int)) (i : Nat), l.map (fun e => (e.key, e.val)) = kvs.map (fun p => (Value.int .i64 p.1, Value.int .i64 p.2)) → Instr.findNow (.int .i64) (.int .i64 b) l i = some (findI l b i)
  | [], _, _, _ => rfl
  | e :: l, kvs, i, h => by
    cases kvs with
    | nil => simp at h
    | cons p kvs =>
      simp only [List.map_cons, List.cons.injEq, Prod.mk.injEq] at h
      have ih := findNow_eq b l kvs (i + 1) h.2
      simp only [Instr.findNow, h.1.1, Instr.sameNow, if_true, findI, keyI]
      by_cases hb : p.1 = b
      · rw [hb]; simp
      · have : (b == p.1) = false := by simp; exact fun e => hb e.symm
        rw [this]
        simp only [ih]
        rw [if_neg (by simpa using hb)]
theorem findI_get (b : Int) : ∀ (l : List MapEntry) (kvs : List (Int × Int)) (i : Nat), l.map (fun e => (e.key, e.val)) = kvs.map (fun p => (Value.int .i64 p.1, Value.int .i64 p.2)) →
    (findI l b i = none ∧ mget kvs b = 0) ∨ ∃ j, findI l b i = some (j, .int .i64 (mget kvs b))
  | [], kvs, i, h => by
    cases kvs with
    | nil => exact .inl ⟨rfl, rfl⟩
    | cons p kvs => simp at h
  | e :: l, kvs, i, h => by
    cases kvs with
    | nil => simp at h
    | cons p kvs =>
      simp only [List.map_cons, List.cons.injEq, Prod.mk.injEq] at h
      simp only [findI, mget, h.1.1, keyI]
      by_cases hb : p.1 = b
      · rw [if_pos (by rw [hb]), if_pos hb.symm]; exact .inr ⟨i, by rw [h.1.2]⟩
      · rw [if_neg (by simpa using hb), if_neg (fun e => hb e.symm)]; exact findI_get b l kvs (i + 1) h.2

theorem copt_rel (hs : Knows inv w0 M φ σ β a w) {t : TypeId} {x : Option Operand} {d : Option Opd} (h : copt P inv t x = some d) : relO (ctx inv M σ β w) (d.map (ev φ)) (x.map a.eval) := by
  cases x with
  | none => simp only [copt, Option.some.injEq] at h; subst h; exact trivial
  | some x =>
    simp only [copt] at h
    obtain ⟨y, h1, h2⟩ := Option.map_eq_some_iff.1 h
    subst h2
    exact copd_rel hs h1

theorem cbuiltin_sound (hs : Knows inv w0 M φ σ β a w) {o : Oper} {c : Call} {e : AVal} (ho : o.op = .call c) (hc : cbuiltin P inv o.type c = some e) {K : AV → Prop} (h : aval φ σ e K) :
    ∃ x y, K x ∧ rel (ctx inv M σ β w) x y ∧ (execOp a.eval o).run P w = .ok (.value y) w := by
  obtain ⟨callee, ⟨args⟩, ⟨ts⟩⟩ := c
  unfold cbuiltin at hc
  split at hc
  · -- len
    rename_i x t e0 e1 e2
    simp only at e0 e1 e2
    subst e0 e1 e2
    split at hc
    · rename_i et d e1 h1
      simp only [Option.some.injEq] at hc
      subst hc
      have r1 := copd_rel hs h1
      have key : ∀ (ad : Option Addr) (n cap : Nat), a.eval x = .slice ad n cap → (execOp a.eval o).run P w = .ok (.value (.int .i64 n)) w := by
        intro ad n cap hv
        simp [execOp, ho, resolve, invoke, builtin, Builtin.len_, run_underlying e1, hv, goInt]
      simp only [aval] at h
      split at h
      · rename_i sz es ees
        rw [ees] at r1
        simp only [rel] at r1
        obtain ⟨ad, cap, q1, _⟩ := r1
        exact ⟨_, _, h, by simp only [rel], key _ _ _ q1⟩
      · rename_i sz ees
        rw [ees] at r1
        simp only [rel] at r1
        obtain ⟨ad, q1⟩ := r1
        exact ⟨_, _, h, by simp only [rel]; rfl, key _ _ _ q1⟩
      · rename_i l ver off n sz ees
        rw [ees] at r1
        obtain ⟨p, ad, cap, _, _, _, q1, _⟩ := sm_live h.1 r1
        exact ⟨_, _, h.2, by simp only [rel], key _ _ _ q1⟩
      · exact h.elim
    · rename_i n et d e1 h1
      simp only [Option.some.injEq] at hc
      subst hc
      refine ⟨_, .int .i64 n, h, by simp only [ev, rel], ?_⟩
      simp [execOp, ho, resolve, invoke, builtin, Builtin.len_, run_underlying e1, goInt]
    · cases hc
  · -- cap
    rename_i x t e0 e1 e2
    simp only at e0 e1 e2
    subst e0 e1 e2
    split at hc
    · rename_i et d e1 h1
      simp only [Option.some.injEq] at hc
      subst hc
      have r1 := copd_rel hs h1
      simp only [aval] at h
      split at h
      · rename_i sz ees
        rw [ees] at r1
        simp only [rel] at r1
        obtain ⟨ad, q1⟩ := r1
        refine ⟨_, .int .i64 0, h, by simp only [rel], ?_⟩
        simp [execOp, ho, resolve, invoke, builtin, Builtin.cap_, run_underlying e1, q1, goInt]
      · exact h.elim
    · cases hc
  · -- min
    rename_i x y e0 e1
    simp only at e0 e1
    subst e0 e1
    split at hc
    · rename_i dx dy h1 h2
      simp only [Option.some.injEq] at hc
      subst hc
      have r1 := copd_rel hs h1
      have r2 := copd_rel hs h2
      simp only [aval] at h
      split at h
      · rename_i k p k' q ep eq
        rw [ep] at r1
        rw [eq] at r2
        simp only [rel] at r1 r2
        obtain ⟨rfl, h⟩ := h
        refine ⟨_, .int k (if q < p then q else p), h, by simp only [rel, if_true], ?_⟩
        simp [execOp, ho, resolve, invoke, builtin, Builtin.min_, Builtin.min2, r1, r2, List.foldlM]
      · exact h.elim
    · cases hc
  · -- max
    rename_i x y e0 e1
    simp only at e0 e1
    subst e0 e1
    split at hc
    · rename_i dx dy h1 h2
      simp only [Option.some.injEq] at hc
      subst hc
      have r1 := copd_rel hs h1
      have r2 := copd_rel hs h2
      simp only [aval] at h
      split at h
      · rename_i k p k' q ep eq
        rw [ep] at r1
        rw [eq] at r2
        simp only [rel] at r1 r2
        obtain ⟨rfl, h⟩ := h
        refine ⟨_, .int k (if p < q then q else p), h, by simp only [rel, Bool.false_eq_true, if_false], ?_⟩
        simp [execOp, ho, resolve, invoke, builtin, Builtin.max_, Builtin.max2, r1, r2, List.foldlM]
      · exact h.elim
    · cases hc
  · cases hc

set_option maxHeartbeats 1000000 in
theorem aval_sound (hs : Knows inv w0 M φ σ β a w) {o : Oper} {e : AVal} (hc : compileVal P inv o = some e) {K : AV → Prop} (h : aval φ σ e K) :
    ∃ x y, K x ∧ rel (ctx inv M σ β w) x y ∧ (execOp a.eval o).run P w = .ok (.value y) w := by
  unfold compileVal at hc
  split at hc
  · -- move
    rename_i x ho
    obtain ⟨d, h1, rfl⟩ := Option.map_eq_some_iff.1 hc
    refine ⟨_, _, h, copd_rel hs h1, ?_⟩
    simp only [execOp, ho, Sem.run_pure]
  · rename_i x ho
    obtain ⟨d, h1, rfl⟩ := Option.map_eq_some_iff.1 hc
    refine ⟨_, _, h, copd_rel hs h1, ?_⟩
    simp only [execOp, ho, Sem.run_pure]
  · -- pick
    rename_i oc oa ob ho
    split at hc
    · rename_i dc da db h1 h2 h3
      simp only [Option.some.injEq] at hc
      subst hc
      have r1 := copd_rel hs h1
      have r2 := copd_rel hs h2
      have r3 := copd_rel hs h3
      simp only [aval] at h
      split at h
      · rename_i t et
        rw [et] at r1
        simp only [rel] at r1
        cases t with
        | true => exact ⟨_, _, h.1 rfl, r2, by simp [execOp, ho, r1, asBool]⟩
        | false => exact ⟨_, _, h.2 rfl, r3, by simp [execOp, ho, r1, asBool]⟩
      · exact h.elim
    · cases hc
  · -- binOp
    rename_i op t x y _ ho
    split at hc
    · rename_i ty dx dy h1 h2 h3
      simp only [Option.some.injEq] at hc
      subst hc
      simp only [aval] at h
      obtain ⟨z, r, k1, k2, k3⟩ := abin_sound (ox := x) (oy := y) h1 (copd_rel hs h2) (copd_rel hs h3) h
      refine ⟨z, r, k1, k2, ?_⟩
      simp only [execOp, ho, Sem.run_bind, Sem.run_pure] at k3 ⊢
      rw [k3]
      rfl
    · cases hc
  · -- not
    rename_i x ho
    obtain ⟨d, h1, rfl⟩ := Option.map_eq_some_iff.1 hc
    have r1 := copd_rel hs h1
    simp only [aval] at h
    split at h
    · rename_i t et
      rw [et] at r1
      simp only [rel] at r1
      exact ⟨_, .bool (!t), h, by simp only [rel], by simp [execOp, ho, r1, Op.unary]⟩
    · exact h.elim
  · -- convert
    rename_i src dst x ho
    split at hc
    · rename_i ds k d e1 e2 h1
      simp only [Option.some.injEq] at hc
      subst hc
      have r1 := copd_rel hs h1
      simp only [aval] at h
      split at h
      · rename_i k' n et
        rw [et] at r1
        simp only [rel] at r1
        refine ⟨_, .int k (k.wrap n), h, by simp only [rel], ?_⟩
        simp only [execOp, ho, r1, convert, Sem.run_bind, run_underlying e1, run_underlying e2, Result.andThen_ok]
        cases ds <;> simp [Conv.intToInt]
      · exact h.elim
    · cases hc
  · -- load
    rename_i t x ho
    split at hc
    · rename_i n d h1 h2
      simp only [Option.some.injEq] at hc
      subst hc
      simp only [aval] at h
      obtain ⟨v, ev', h⟩ := obind_elim h
      obtain ⟨u, k1, k2⟩ := aload_sound hs h1 (copd_rel hs h2) ev'
      exact ⟨v, u, h, k1, by simp [execOp, ho, k2]⟩
    · cases hc
  · -- fieldAddr
    rename_i s x f ho
    split at hc
    · rename_i fs d e1 h1
      split at hc
      · rename_i fd e2
        split at hc
        · rename_i n e3
          split at hc
          · cases hc
          · rename_i hn
            simp only [Option.some.injEq] at hc
            subst hc
            have r1 := copd_rel hs h1
            have key : ∀ ad : Addr, (Instr.fieldAt s (.pointer (some ad)) f).run P w = .ok (.pointer (some (ad.add fd.offset))) w := by
              intro ad
              simp [Instr.fieldAt, run_underlying e1, e2, Instr.sureAddr, fieldPlace, run_siz e3, hn]
            simp only [aval] at h
            split at h
            · rename_i l ver off et
              rw [et] at r1
              obtain ⟨hl, h⟩ := h
              obtain ⟨p, hp, hv, r2⟩ := ptr_live hl r1
              refine ⟨_, _, h, rel_ptr_mk hp hv, ?_⟩
              simp only [execOp, ho, r2, Sem.run_bind, key, Result.andThen_ok, addr_add, Sem.run_pure]
            · rename_i sz es i k et
              rw [et] at r1
              simp only [rel] at r1
              obtain ⟨ad, r2, r3, r4, r5⟩ := r1
              refine ⟨_, .pointer (some (ad.add (i * sz + (k + fd.offset)))), h, by simp only [rel]; exact ⟨ad, rfl, r3, r4, r5⟩, ?_⟩
              simp only [execOp, ho, r2, Sem.run_bind, key, Result.andThen_ok, add_add, Sem.run_pure, Nat.add_assoc]
            · exact h.elim
        · cases hc
      · cases hc
    · cases hc
  · -- indexAddr
    rename_i t x i ho
    split at hc
    · rename_i et dx di e1 h1 h2
      obtain ⟨n, h3, rfl⟩ := Option.map_eq_some_iff.1 hc
      have r1 := copd_rel hs h1
      have r2 := copd_rel hs h2
      have key : ∀ (ad : Addr) (len cap : Nat) (k : IntKind) (j : Int), 0 ≤ j → j < len → (Instr.indexAt t (.slice (some ad) len cap) (.int k j)).run P w = .ok (.pointer (some (ad.add (j.toNat * n)))) w := by
        intro ad len cap k j h0 hlt
        have : 0 ≤ j ∧ j < (len : Int) := ⟨h0, hlt⟩
        simp [Instr.indexAt, asIntOf, run_underlying e1, this, run_siz h3]
      simp only [aval] at h
      split at h
      · rename_i k j ej
        rw [ej] at r2
        simp only [rel] at r2
        split at h
        · rename_i sz es exx _
          rw [exx] at r1
          obtain ⟨rfl, ⟨h0, hlt⟩, h⟩ := h
          simp only [rel] at r1
          obtain ⟨ad, cap, q1, q2, q3⟩ := r1
          have hne : es ≠ [] := fun e => by rw [e] at hlt; simp at hlt; omega
          obtain ⟨a', rfl, q4, q5, q6⟩ := q3 hne
          refine ⟨_, .pointer (some (a'.add (j.toNat * sz))), h, by simp only [rel]; exact ⟨a', by simp, q4, q5, q6⟩, ?_⟩
          simp only [execOp, ho, q1, r2, Sem.run_bind, key a' _ cap k j h0 hlt, Result.andThen_ok, Sem.run_pure]
        · rename_i l ver off m sz exx _
          rw [exx] at r1
          obtain ⟨rfl, hl, ⟨h0, hlt⟩, h⟩ := h
          obtain ⟨p, ad, cap, hp, hv, hb, q1, hcap, hr⟩ := sm_live hl r1
          have hadd : ad = some ⟨p.block, off, none⟩ := by
            cases hreal : p.real with
            | false => rw [hreal] at hr; simp at hr; omega
            | true => rw [hreal] at hr; simp at hr; rcases hr.1 with e | e; · omega
                      · exact e
          subst hadd
          refine ⟨_, _, h, rel_ptr_mk hp hv, ?_⟩
          simp only [execOp, ho, q1, r2, Sem.run_bind, key _ _ cap k j h0 hlt, Result.andThen_ok, Sem.run_pure, addr_add]
        · rename_i exx e0; cases e0
        · rename_i exx e0; cases e0
        · exact h.elim
      · exact h.elim
    · rename_i m et dx di e1 h1 h2
      obtain ⟨n, h3, rfl⟩ := Option.map_eq_some_iff.1 hc
      have r1 := copd_rel hs h1
      have r2 := copd_rel hs h2
      have key : ∀ (ad : Addr) (k : IntKind) (j : Int), 0 ≤ j → j < m → (Instr.indexAt t (.pointer (some ad)) (.int k j)).run P w = .ok (.pointer (some (ad.add (j.toNat * n)))) w := by
        intro ad k j h0 hlt
        have : 0 ≤ j ∧ j < (m : Int) := ⟨h0, hlt⟩
        simp [Instr.indexAt, asIntOf, run_underlying e1, Instr.sureAddr, this, run_siz h3]
      simp only [aval] at h
      split at h
      · rename_i k j ej
        rw [ej] at r2
        simp only [rel] at r2
        split at h
        · rename_i e0; cases e0
        · rename_i e0; cases e0
        · rename_i l ver off m' exx e0
          cases e0
          rw [exx] at r1
          obtain ⟨hl, ⟨h0, hlt⟩, h⟩ := h
          obtain ⟨p, hp, hv, q1⟩ := ptr_live hl r1
          refine ⟨_, _, h, rel_ptr_mk hp hv, ?_⟩
          simp only [execOp, ho, q1, r2, Sem.run_bind, key _ k j h0 hlt, Result.andThen_ok, Sem.run_pure, addr_add]
        · rename_i sz es i' k' m' exx e0
          cases e0
          rw [exx] at r1
          obtain ⟨⟨h0, hlt⟩, h⟩ := h
          simp only [rel] at r1
          obtain ⟨ad, q1, q2, q3, q4⟩ := r1
          refine ⟨_, .pointer (some (ad.add (i' * sz + (k' + j.toNat * n)))), h, by simp only [rel]; exact ⟨ad, rfl, q2, q3, q4⟩, ?_⟩
          simp only [execOp, ho, q1, r2, Sem.run_bind, key _ k j h0 hlt, Result.andThen_ok, Sem.run_pure, add_add, Nat.add_assoc]
        · exact h.elim
      · exact h.elim
    · cases hc
  · -- field
    rename_i t x f ho
    split at hc
    · rename_i fs d e1 h1
      split at hc
      · rename_i fd e2
        obtain ⟨n, h3, rfl⟩ := Option.map_eq_some_iff.1 hc
        have r1 := copd_rel hs h1
        simp only [aval] at h
        split at h
        · rename_i cs ecs
          rw [ecs] at r1
          simp only [rel] at r1
          obtain ⟨zs, q1, q2⟩ := r1
          have key : ∀ v, (part fd.type zs fd.offset).run P w = .ok v w → (execOp a.eval o).run P w = .ok (.value v) w := by
            intro v hv
            simp only [execOp, ho, Instr.field, Sem.run_bind, run_underlying e1, Result.andThen_ok, e2, q1, asAgg, Sem.run_pure, hv]
          split at h
          · obtain ⟨v, hv, h⟩ := obind_elim h
            obtain ⟨y, k1, k2⟩ := relCs_arr q2 hv
            exact ⟨v, y, h, k2, key y (run_part_none h3 w zs _ y k1)⟩
          · rename_i m
            exact ⟨_, _, h, cells_take _ _ q2, key _ (run_part_some h3 w zs _)⟩
        · exact h.elim
      · cases hc
    · cases hc
  · -- index
    rename_i t x i ho
    split at hc
    · rename_i m et dx di e1 h1 h2
      split at hc
      · rename_i l n h3 h4
        simp only [Option.some.injEq] at hc
        subst hc
        have r1 := copd_rel hs h1
        have r2 := copd_rel hs h2
        simp only [aval] at h
        split at h
        · rename_i cs k j ecs ej
          rw [ecs] at r1
          rw [ej] at r2
          simp only [rel] at r1 r2
          obtain ⟨zs, q1, q2⟩ := r1
          obtain ⟨⟨h0, hlt⟩, h⟩ := h
          have hb : 0 ≤ j ∧ j < (m : Int) := ⟨h0, hlt⟩
          have key : ∀ v, (part et zs (j.toNat * n)).run P w = .ok v w → (execOp a.eval o).run P w = .ok (.value v) w := by
            intro v hv
            simp [execOp, ho, Instr.index, asIntOf, run_underlying e1, q1, r2, hb, run_siz h4, hv]
          cases l with
          | none =>
            obtain ⟨v, hv, h⟩ := obind_elim h
            obtain ⟨y, k1, k2⟩ := relCs_arr q2 hv
            exact ⟨v, y, h, k2, key y (run_part_none h3 w zs _ y k1)⟩
          | some l =>
            have hl := lay_siz h3
            rw [h4] at hl
            simp only [Option.some.injEq] at hl
            subst hl
            exact ⟨_, _, h, cells_take _ _ q2, key _ (run_part_some h3 w zs _)⟩
        · exact h.elim
      · cases hc
    · cases hc
  · -- builtin
    rename_i c ho
    exact cbuiltin_sound hs ho hc h
  · -- extract
    rename_i x i ho
    obtain ⟨d, h1, rfl⟩ := Option.map_eq_some_iff.1 hc
    have r1 := copd_rel hs h1
    simp only [aval] at h
    split at h
    · rename_i vs evs
      rw [evs] at r1
      simp only [rel] at r1
      obtain ⟨xs, q1, q2⟩ := r1
      obtain ⟨v, hv, h⟩ := obind_elim h
      obtain ⟨y, k1, k2⟩ := relL_get q2 hv
      have k1' : xs[i]? = some y := by simpa using k1
      exact ⟨v, y, h, k2, by simp [execOp, ho, q1, Instr.extract, k1']⟩
    · exact h.elim
  · -- makeFunc
    rename_i f first captured ho
    split at hc
    · rename_i hf
      split at hc
      · rename_i j l h1 h2
        simp only [Option.some.injEq] at hc
        subst hc
        simp only [aval] at h
        refine ⟨_, .func (.func f) #[] (captured.map a.eval), h, ?_, ?_⟩
        · simp only [rel]
          refine ⟨f, _, rfl, h1, ?_⟩
          have := copds_rel hs h2
          rw [List.map_map] at this
          rw [Array.toList_map]
          exact this
        · have hf' : first = #[] := Array.isEmpty_iff.1 hf
          simp [execOp, ho, Instr.makeFunc, hf']
      · cases hc
    · cases hc
  · -- build
    rename_i t parts ho
    have key : ∀ (cells : Array Value) (cs : List AV), P.built t (parts.map fun (i, x) => (i, a.eval x)).toList = some cells → (execOp a.eval o).run P w = .ok (.value (.agg cells)) w := by
      intro cells cs hb
      simp only [execOp, ho, Sem.run_bind, run_build w t _ cells hb, Result.andThen_ok, Sem.run_pure]
    split at hc
    · rename_i fs z e1 e2
      split at hc
      · rename_i hall
        obtain ⟨ps, h1, rfl⟩ := Option.map_eq_some_iff.1 hc
        simp only [aval] at h
        obtain ⟨cs, ecs, h⟩ := obind_elim h
        · obtain ⟨it, zv, hi, hz, hzr⟩ := zeroOf_rel (c := ctx inv M σ β w) e2
          obtain ⟨cells', k1, k2⟩ := fill_sound hs h1 ecs hzr
          refine ⟨_, .agg cells', h, by simp only [rel]; exact ⟨_, rfl, k2⟩, key cells' cs ?_⟩
          have hplaces : ∀ l : List Field, (∀ f ∈ l, (P.info? f.type).isSome = true) → l.mapM (fun f => (P.info? f.type).map fun i => (f.offset, i.size)) = some (l.map fun f => (f.offset, P.cellsOf f.type)) := by
            intro l
            induction l with
            | nil => intro _; rfl
            | cons f l ih =>
              intro hl
              obtain ⟨i, hi⟩ := Option.isSome_iff_exists.1 (hl f (by simp))
              simp [List.mapM_cons, hi, ih (fun f hf => hl f (by simp [hf])), Program.cellsOf]
          have hall' : ∀ f ∈ fs.toList, (P.info? f.type).isSome = true := by unfold allSized at hall; exact List.all_eq_true.1 hall
          simp only [Program.built, hi, e1, hz, hplaces fs.toList hall']
          rw [← k1, Array.toList_map]
          congr 1
          funext i
          simp only [structPlace, List.getElem?_toArray, List.getElem?_map, Array.getElem?_toList]
          cases e3 : fs[i]? with
          | none => rfl
          | some f =>
            have hm : f ∈ fs.toList := by
              have := Array.mem_of_getElem? e3
              simpa using this
            obtain ⟨ii, hii⟩ := Option.isSome_iff_exists.1 (hall' f hm)
            simp [siz, hii, Program.cellsOf]
      · cases hc
    · rename_i m et z e1 e2
      split at hc
      · rename_i n e3
        obtain ⟨ps, h1, rfl⟩ := Option.map_eq_some_iff.1 hc
        simp only [aval] at h
        obtain ⟨cs, ecs, h⟩ := obind_elim h
        · obtain ⟨it, zv, hi, hz, hzr⟩ := zeroOf_rel (c := ctx inv M σ β w) e2
          obtain ⟨cells', k1, k2⟩ := fill_sound hs h1 ecs hzr
          obtain ⟨ie, hie, hn, _⟩ := siz_info e3
          refine ⟨_, .agg cells', h, by simp only [rel]; exact ⟨_, rfl, k2⟩, key cells' cs ?_⟩
          simp only [Program.built, hi, e1, hz, hie]
          rw [← k1, Array.toList_map, hn]
          rfl
      · cases hc
    · cases hc
  · -- slice
    rename_i t x lo hi mx ho
    split at hc
    · rename_i et dx dlo dhi dmx e1 h1 h2 h3 h4
      obtain ⟨n, h5, rfl⟩ := Option.map_eq_some_iff.1 hc
      simp only [aval] at h
      obtain ⟨z, r, k1, k2, k3⟩ := aslc_sound (F := fun lo hi mx => Instr.sliceAt t (a.eval x) lo hi mx) (fun A len cap hu lo hi mx l h m hm hh hl => by rw [hu]; exact run_sliceAt e1 h5 A len cap hm hh hl) (copd_rel hs h1) (copt_rel hs h2) (copt_rel hs h3) (copt_rel hs h4) h
      exact ⟨z, r, k1, k2, by simp only [execOp, ho, Sem.run_bind, k3, Result.andThen_ok, Sem.run_pure]⟩
    · rename_i m et dx dlo dhi dmx e1 h1 h2 h3 h4
      obtain ⟨n, h5, rfl⟩ := Option.map_eq_some_iff.1 hc
      have r1 := copd_rel hs h1
      simp only [aval] at h
      split at h
      · rename_i l ver off ep
        rw [ep] at r1
        obtain ⟨hl, ⟨h0, hle⟩, h⟩ := h
        obtain ⟨p, hp, hv, r2⟩ := ptr_live hl r1
        have hsm : rel (ctx inv M σ β w) (.sm l ver off m n) (.slice (some ⟨p.block, off, none⟩) m m) := rel_sm_of hs.mem hl hp hv h0 hle
        obtain ⟨z, r, k1, k2, k3⟩ := aslc_sound (F := fun lo hi mx => Instr.sliceAt t (a.eval x) lo hi mx) (fun A len cap hu lo hi mx l h m hm hh hl => by
          simp only [Value.slice.injEq] at hu
          obtain ⟨rfl, rfl, rfl⟩ := hu
          rw [r2]
          exact run_sliceAt_arr e1 h5 _ hm hh hl) hsm (copt_rel hs h2) (copt_rel hs h3) (copt_rel hs h4) h
        exact ⟨z, r, k1, k2, by simp only [execOp, ho, Sem.run_bind, k3, Result.andThen_ok, Sem.run_pure]⟩
      · exact h.elim
    · cases hc
  · -- nilCheck
    rename_i x ho
    obtain ⟨d, h1, rfl⟩ := Option.map_eq_some_iff.1 hc
    have r1 := copd_rel hs h1
    simp only [aval] at h
    split at h
    · rename_i l ver off et
      rw [et] at r1
      obtain ⟨hl, h⟩ := h
      obtain ⟨p, hp, hv, r2⟩ := ptr_live hl r1
      exact ⟨_, _, h, r1, by simp [execOp, ho, r2]⟩
    · rename_i sz es i k et
      rw [et] at r1
      have r1' := r1
      simp only [rel] at r1
      obtain ⟨ad, r2, _⟩ := r1
      exact ⟨_, _, h, r1', by simp [execOp, ho, r2]⟩
    · rename_i j cs et
      rw [et] at r1
      have r1' := r1
      simp only [rel] at r1
      obtain ⟨g, xs, r2, _⟩ := r1
      exact ⟨_, _, h, r1', by simp [execOp, ho, r2]⟩
    · exact h.elim
  · -- lookup
    rename_i t x k ho
    split at hc
    · rename_i kt vt e1
      split at hc
      · rename_i dx dk e2 e3 h1 h2
        simp only [Option.some.injEq] at hc
        subst hc
        have r1 := copd_rel hs h1
        have r2 := copd_rel hs h2
        simp only [aval] at h
        obtain ⟨v, ev1, h⟩ := obind_elim h
        unfold alook at ev1
        split at ev1
        · rename_i l b em ek
          split at ev1
          · rename_i kvs hg
            simp only [Option.some.injEq] at ev1
            subst ev1
            rw [em] at r1
            rw [ek] at r2
            simp only [rel] at r1 r2
            have hp : place β w σ l = some ⟨β l, 0, 0, true⟩ := by unfold place; rw [hg]
            have hm := r1.2 _ hp rfl
            obtain ⟨es, clk, hh, hes⟩ := hs.mem.maps l kvs hg
            obtain ⟨i, hi, hz⟩ := Option.bind_eq_some_iff.1 e3
            refine ⟨_, .int .i64 (mget kvs b), h, by simp only [rel], ?_⟩
            have hck := fun e => Go.MapKept.run_checkKey (w := w) (k := .int .i64 b) e2 rfl e 9999
            have hfk : (Instr.findKey kt (.int .i64 b) es.toList).run P w = .ok (findI es.toList b 0) w := by
              simp only [Instr.findKey, Sem.run_bind, run_underlying e2, Result.andThen_ok, findNow_eq b es.toList kvs 0 hes, Sem.run_pure]
            have hz' : (zeroValue vt).run P w = .ok (.int .i64 0) w := by simp [zeroValue, typeInfo, hi, hz]
            have hl : (Instr.lookup t (a.eval x) (a.eval k) false).run P w = .ok (.int .i64 (mget kvs b)) w := by
              rw [hm, r2]
              rcases findI_get b es.toList kvs 0 hes with ⟨f1, f2⟩ | ⟨j, f1⟩
              · rw [f1] at hfk
                simp only [Instr.lookup, Sem.run_bind, run_underlying e1, Result.andThen_ok, Go.MapKept.run_getObj_map hh, Sem.run_pure, hck, hfk, hz', f2]
                rfl
              · rw [f1] at hfk
                simp only [Instr.lookup, Sem.run_bind, run_underlying e1, Result.andThen_ok, Go.MapKept.run_getObj_map hh, Sem.run_pure, hck, hfk]
                rfl
            simp only [execOp, ho, Sem.run_bind, hl, Result.andThen_ok, Sem.run_pure]
          · cases ev1
        · cases ev1
      · cases hc
    · cases hc
  · cases hc
end
end Go.Eng
