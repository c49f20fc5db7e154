/-
  THE PLAIN DATA: states, as they are handed in.
-/
import Derived.Test.YtkpklcnecnijoaaEngY13
namespace Go.Lev
set_option linter.unusedSimpArgs false
set_option linter.unusedVariables false
set_option linter.unusedSectionVars false
open Go.Eng
def shTrack : Sh := .st [.i .i64, .i .u8]
def shSwitch : Sh := .st [.i .i64, .i .i64, .i .i64]
def shLock : Sh := .st [.i .i64, .i .u8, .i .i64, .i .i64]
def shState : Sh := .st [.s 2 shTrack, .s 3 shSwitch, .s 4 shLock]
def U8 (x : Int) : Prop := 0 ≤ x ∧ x ≤ 255
def Track.ok (t : Track) : Prop := I64 t.id ∧ U8 t.is
def Switch.ok (t : Switch) : Prop := I64 t.id ∧ I64 t.lie ∧ I64 t.call
def Lock.ok (t : Lock) : Prop := I64 t.id ∧ U8 t.phase ∧ I64 t.gone ∧ I64 t.left
def State.ok (s : State) : Prop := (s.tracks.length ≤ maxLen ∧ ∀ t ∈ s.tracks, t.ok) ∧ (s.switches.length ≤ maxLen ∧ ∀ t ∈ s.switches, t.ok) ∧ (s.locks.length ≤ maxLen ∧ ∀ t ∈ s.locks, t.ok)
theorem of_track (d : D) (h : Sh.ok shTrack d) : ∃ t : Track, Sh.av shTrack d = t.c ∧ t.ok := by
  obtain ⟨l, rfl, h⟩ := of_st h
  obtain ⟨d1, l, rfl, h1, h⟩ := of_cons h
  obtain ⟨d2, l, rfl, h2, h⟩ := of_cons h
  obtain rfl := of_nil h
  obtain ⟨a, rfl, ha⟩ := of_i64 h1
  obtain ⟨b, rfl, hb⟩ := of_u8 h2
  exact ⟨⟨a, b⟩, rfl, ha, hb⟩
theorem of_switch (d : D) (h : Sh.ok shSwitch d) : ∃ t : Switch, Sh.av shSwitch d = t.c ∧ t.ok := by
  obtain ⟨l, rfl, h⟩ := of_st h
  obtain ⟨d1, l, rfl, h1, h⟩ := of_cons h
  obtain ⟨d2, l, rfl, h2, h⟩ := of_cons h
  obtain ⟨d3, l, rfl, h3, h⟩ := of_cons h
  obtain rfl := of_nil h
  obtain ⟨a, rfl, ha⟩ := of_i64 h1
  obtain ⟨b, rfl, hb⟩ := of_i64 h2
  obtain ⟨c, rfl, hc⟩ := of_i64 h3
  exact ⟨⟨a, b, c⟩, rfl, ha, hb, hc⟩
theorem of_lock (d : D) (h : Sh.ok shLock d) : ∃ t : Lock, Sh.av shLock d = t.c ∧ t.ok := by
  obtain ⟨l, rfl, h⟩ := of_st h
  obtain ⟨d1, l, rfl, h1, h⟩ := of_cons h
  obtain ⟨d2, l, rfl, h2, h⟩ := of_cons h
  obtain ⟨d3, l, rfl, h3, h⟩ := of_cons h
  obtain ⟨d4, l, rfl, h4, h⟩ := of_cons h
  obtain rfl := of_nil h
  obtain ⟨a, rfl, ha⟩ := of_i64 h1
  obtain ⟨b, rfl, hb⟩ := of_u8 h2
  obtain ⟨c, rfl, hc⟩ := of_i64 h3
  obtain ⟨e, rfl, he⟩ := of_i64 h4
  exact ⟨⟨a, b, c, e⟩, rfl, ha, hb, hc, he⟩
theorem arg_state {d : D} (h : Sh.ok shState d) : ∃ s : State, Sh.arg shState d = .agg s.c ∧ s.ok := by
  obtain ⟨l, rfl, h⟩ := of_st h
  obtain ⟨d1, l, rfl, h1, h⟩ := of_cons h
  obtain ⟨d2, l, rfl, h2, h⟩ := of_cons h
  obtain ⟨d3, l, rfl, h3, h⟩ := of_cons h
  obtain rfl := of_nil h
  obtain ⟨l1, rfl, m1, h1⟩ := of_s h1
  obtain ⟨l2, rfl, m2, h2⟩ := of_s h2
  obtain ⟨l3, rfl, m3, h3⟩ := of_s h3
  obtain ⟨t1, e1, f1, g1⟩ := of_list of_track l1 h1
  obtain ⟨t2, e2, f2, g2⟩ := of_list of_switch l2 h2
  obtain ⟨t3, e3, f3, g3⟩ := of_list of_lock l3 h3
  refine ⟨⟨t1, t2, t3⟩, ?_, ⟨by simpa [f1] using m1, g1⟩, ⟨by simpa [f2] using m2, g2⟩, ⟨by simpa [f3] using m3, g3⟩⟩
  simp only [Sh.arg, Sh.av, Sh.avL, shState, e1, e2, e3, State.c, List.cons_append, List.nil_append]
end Go.Lev
