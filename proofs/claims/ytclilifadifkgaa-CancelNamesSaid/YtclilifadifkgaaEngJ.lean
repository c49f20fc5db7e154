/-
  THE ENGINE, PART J: stores, appends, calls; lists of operations.
-/
import Derived.Test.YtclilifadifkgaaEngI
namespace Go.Eng
open Go.RowKit

section
variable {P : Program} {inv : Nat → Option Nat} {w0 : World} {M : Nat → Prop} {n N : Nat} {φ : AF} {σ : AS} {β : Nat → Nat} {a : Act} {w : World}

theorem setRow_same (w : World) (g : Nat) (cs : Array Value) : (w.setRow g cs).os = w.os ∧ (w.setRow g cs).tape = w.tape ∧ (w.setRow g cs).output = w.output ∧ (w.setRow g cs).heap.size = w.heap.size := ⟨rfl, rfl, rfl, by simp [World.setRow]⟩

/-- A named row is written where it lies. -/
theorem Mem.write {l : Nat} {cs cs' : List AV} {xs xs' : Array Value} {ty : TypeId} {N2 : Nat} (h : Mem inv w0 M σ β w) (hg : sget σ l = some (.cells cs true)) (hxs : w.heap[β l]? = some (.cells xs ty (0, 0))) (hN : sbound σ ≤ N2) (hcb : AV.boundL cs' ≤ N2)
    (hlen' : cs'.length ≤ xs'.size) (hsize : xs'.size = xs.size) (hgrow : cs.length ≤ cs'.length) (hrel : relCs (ctx inv M σ β w) cs' (xs'.toList.take cs'.length)) :
    Mem inv w0 M (sput σ l (.cells cs' true)) β (w.setRow (β l) xs') ∧ Ext N2 (ctx inv M σ β w) (ctx inv M (sput σ l (.cells cs' true)) β (w.setRow (β l) xs')) ∧
      place β (w.setRow (β l) xs') (sput σ l (.cells cs' true)) l = some ⟨β l, cs'.length, xs.size, true⟩ := by
  have hu : upd β l (β l) = β := by funext k; unfold upd; split <;> simp_all
  have hown := h.own l _ hg rfl
  obtain ⟨s1, s2, s3, s4⟩ := setRow_same w (β l) xs'
  have hbel : Below w0.heap.size w0 (w.setRow (β l) xs') := h.below.trans ⟨s1, s2, s3, by omega, fun b hb => setRow_other w (β l) b xs' (by omega)⟩
  have hnew := setRow_heap w (β l) xs xs' ty (0, 0) hxs
  have hp : place β w σ l = some ⟨β l, cs.length, xs.size, true⟩ := by unfold place; rw [hg]; simp [blockSize, hxs]
  have := Mem.put (l := l) (b' := β l) (N := N2) h hbel (by omega) (fun b hb hne => setRow_other w (β l) b xs' hne) hnew hlen' hown.1
    (fun l' o' hne e hr he => hne (h.inj l' l o' _ e hg hr rfl he)) (.inr ⟨_, hg, rfl, rfl⟩) (fun l' o' e _ => Nat.le_trans (sbound_get σ l' o' e).2 hN) hcb
    (fun _ p' hp' => ⟨_, hp, by simp at hp'; subst hp'; exact hgrow, fun e => by simp at hp'; subst hp'; simp at e; simp [e, hsize]⟩) hrel
  rw [hu] at this
  refine ⟨this.1, this.2, ?_⟩
  unfold place
  rw [sget_sput, if_pos rfl]
  simp [blockSize, hnew, hsize]

theorem take_mid {α : Type} (l us : List α) (off m : Nat) (h1 : off + us.length ≤ m) (h2 : m ≤ l.length) :
    (l.take off ++ us ++ l.drop (off + us.length)).take m = (l.take m).take off ++ us ++ (l.take m).drop (off + us.length) := by
  rw [List.append_assoc, List.append_assoc, List.take_append, List.take_append, List.length_take, List.take_take, Nat.min_eq_left (show off ≤ l.length by omega), List.take_take, Nat.min_eq_left (show off ≤ m by omega), Nat.min_eq_right (show off ≤ m by omega),
    List.take_of_length_le (show us.length ≤ m - off by omega), List.drop_take]
  congr 3
  omega

theorem store_sound (hs : St inv w0 M n φ σ β a w) {t : TypeId} {k : Nat} (ht : siz P t = some k) {l ver off : Nat} {x : AV} {u v : Value} (hu : rel (ctx inv M σ β w) (.ptr l ver off) u) (hv : rel (ctx inv M σ β w) x v) (hxb : x.bound ≤ fbound φ)
    {cs : List AV} {r : Bool} (hg : sget σ l = some (.cells cs r)) (hver : cs.length = ver) (h1 : x.sound = true) (h2 : x.cells.length = k) (h3 : 0 < k) (h4 : off + k ≤ ver) :
    ∃ w', (Instr.storeAt t u v).run P w = .ok () w' ∧ St inv w0 M n φ (sput σ l (.cells (ovl cs off x.cells) r)) β a w' ∧ Ext N (ctx inv M σ β w) (ctx inv M (sput σ l (.cells (ovl cs off x.cells) r)) β w') := by
  have hr : r = true := by
    cases r with
    | true => rfl
    | false => have := hs.mem.ghost l cs hg; subst this; simp at hver; omega
  subst hr
  have hlive : live σ l ver := by unfold live; rw [hg]; exact hver
  obtain ⟨p, hp, _, rfl⟩ := ptr_live hlive hu
  obtain ⟨xs, ty, e1, e2, e3⟩ := hs.mem.cells l cs hg
  have hpb : p.block = β l := by unfold place at hp; rw [hg] at hp; cases hp; rfl
  rw [hpb]
  have hxc := cells_rel h1 hv
  have hxl := relCs_length hxc
  have hsz : v.cells.size = k := by rw [← Array.length_toList, ← hxl]; exact h2
  have hst := run_storeCells_at P (β l) off ty v.cells.toList 0 xs w e1 (by simp [hsz]; omega) (relCs_one hxc)
  simp only [Nat.add_zero, Array.length_toList, hsz] at hst
  obtain ⟨f1, f2, f3⟩ := fresh_le N φ σ
  have hl2 := relCs_length e3
  have hcsl : cs.length ≤ xs.toList.length := by simpa using e2
  have hw := hs.mem.write (cs' := ovl cs off x.cells) (xs' := (xs.toList.take off ++ v.cells.toList ++ xs.toList.drop (off + k)).toArray) (N2 := fresh N φ σ) hg e1 f3
    (boundL_ovl _ _ _ (Nat.le_trans (sbound_get σ l _ hg).2 f3) (Nat.le_trans (cells_bound x) (by omega)))
    (by rw [ovl_length]; simp [hsz]; omega) (by simp [hsz]; omega) (by rw [ovl_length]; exact Nat.le_refl _)
    (by
      rw [ovl_length, ovl_eq _ _ _ (by omega)]
      have hk : v.cells.toList.length = k := by simpa using hsz
      have := take_mid xs.toList v.cells.toList off cs.length (by omega) hcsl
      rw [hk] at this
      rw [this, ← h2]
      exact relCs_append (relCs_append (relCs_take off e3) hxc) (relCs_drop _ e3))
  refine ⟨_, ?_, hs.keep hw.1 hw.2.1 f2, hw.2.1.mono f1⟩
  simp [Instr.storeAt, Instr.sureAddr, storeVar, run_siz ht, hsz, hst]

/-! ### append -/
theorem run_app_grow {t u ty e d : TypeId} {i : TypeInfo} {z : Value} (w : World) (ht : P.underlying t = some (.slice e)) (hu : P.underlying u = some (.slice d)) (hi : P.info? e = some i) (hz : i.zero = some z)
    (base : Option Addr) (sLen sCap : Nat) (olds news : List Value) (A : Option Addr) (m c : Nat)
    (ho : (Builtin.firstCells i.size sLen (.slice base sLen sCap)).run P w.drew = .ok olds.toArray w.drew) (hn : (Builtin.firstCells i.size m (.slice A m c)).run P w.drew = .ok news.toArray w.drew)
    (hg : sCap < sLen + m) (h63 : ((sLen + m : Nat) : Int) ≤ 9223372036854775807) (hfit : Builtin.nextslicecap (sLen + m) sCap * i.bytes ≤ 281474976710656) :
    (Builtin.append_ #[t, u] ty #[.slice base sLen sCap, .slice A m c]).run P w =
      .ok (.slice (some ⟨w.heap.size, 0, none⟩) (sLen + m) (grownCap w (sLen + m) sCap e))
        (w.drew.alloc (.cells (olds.toArray ++ news.toArray ++ Builtin.zeroCells z.cells (grownCap w (sLen + m) sCap e - (sLen + m))) e)) := by
  have hn' : ¬ (sLen + m ≤ sCap) := by omega
  have h63' : ¬ (9223372036854775807 < ((sLen : Int) + (m : Int))) := by omega
  have h48' : ¬ (281474976710656 < Builtin.nextslicecap (sLen + m) sCap * i.bytes) := by omega
  simp [Builtin.append_, run_underlying ht, run_underlying hu, sizeOf, typeInfo, zeroValue, hi, hz, Builtin.lenOf, hn', h63', h48', Question.forced, ho, hn, newRow, grownCap]
  congr 2
  apply Array.ext'
  simp [List.append_assoc]
theorem run_app_room {t u ty e d : TypeId} {i : TypeInfo} (w : World) (ht : P.underlying t = some (.slice e)) (hu : P.underlying u = some (.slice d)) (hi : P.info? e = some i)
    (g sLen sCap : Nat) (cur : Array Value) (te : TypeId) (hgr : w.heap[g]? = some (.cells cur te (0, 0))) (A : Option Addr) (m c : Nat) (news : List Value)
    (hn : (Builtin.firstCells i.size m (.slice A m c)).run P w = .ok news.toArray w) (h1 : ∀ u ∈ news, u.oneCell' = true) (hroom : sLen + m ≤ sCap) (hfit : sLen * i.size + news.length ≤ cur.size) :
    (Builtin.append_ #[t, u] ty #[.slice (some ⟨g, 0, none⟩) sLen sCap, .slice A m c]).run P w =
      .ok (.slice (some ⟨g, 0, none⟩) (sLen + m) sCap) (w.setRow g (cur.toList.take (sLen * i.size) ++ news ++ cur.toList.drop (sLen * i.size + news.length)).toArray) := by
  have hst := run_storeCells_at P g (sLen * i.size) te news 0 cur w hgr (by simpa using hfit) h1
  simp only [Nat.add_zero] at hst
  simp [Builtin.append_, run_underlying ht, run_underlying hu, sizeOf, typeInfo, hi, Builtin.lenOf, hroom, hn, Addr.add_lit, hst]
theorem run_app_none {t u ty e d : TypeId} {i : TypeInfo} (w : World) (ht : P.underlying t = some (.slice e)) (hu : P.underlying u = some (.slice d)) (hi : P.info? e = some i)
    (base : Option Addr) (sLen sCap : Nat) (hcap : sLen ≤ sCap) (A : Option Addr) (c : Nat) :
    (Builtin.append_ #[t, u] ty #[.slice base sLen sCap, .slice A 0 c]).run P w = .ok (.slice base sLen sCap) w := by
  have hf : (Builtin.firstCells i.size 0 (.slice A 0 c)).run P w = .ok #[] w := by
    cases A <;> simp [Builtin.firstCells, loadCells, loadCellsFrom]
  cases base <;> simp [Builtin.append_, run_underlying ht, run_underlying hu, sizeOf, typeInfo, hi, Builtin.lenOf, hcap, hf, storeCells]
end
end Go.Eng
