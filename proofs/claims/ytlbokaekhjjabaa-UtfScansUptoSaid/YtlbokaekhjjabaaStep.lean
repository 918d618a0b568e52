/-
  The walk of utf's step, wherever its state lies (a block of its own, or inside another struct): it computes 'stp'.
-/
import Derived.Test.YtlbokaekhjjabaaSpec
import Derived.WalkSpells
import Derived.WalkLawsBesides
import Derived.Lib.Hide
namespace Go.Proofs.Ytlbokaekhjjabaa
open Go.RowKit

/-- The three cells of a state are turned, and nothing else that was there. -/
def Turned (g o : Nat) (st : St) (w w' : World) : Prop :=
  ∃ w1, Below w.heap.size w w1 ∧ w' = ((w1.setCell ⟨g, o, none⟩ (.int .i64 st.1)).setCell ⟨g, o + 1, none⟩ (.int .u8 st.2.1)).setCell ⟨g, o + 2, none⟩ (.int .u8 st.2.2)

def StepYes (g o : Nat) (st : St) (w : World) (e : Ending) (w' : World) : Prop := e = .returned (.bool true) ∧ Turned g o st w w'
def StepNo (w : World) (e : Ending) (w' : World) : Prop := e = .returned (.bool false) ∧ Below w.heap.size w w'

theorem lt_of_cell {w : World} {g o : Nat} {v : Value} (h : w.cell? ⟨g, o, none⟩ = some v) : g < w.heap.size := block_lt_of_cell h



set_option maxHeartbeats 1000000 in
set_option maxRecDepth 100000 in
theorem step_in (g o : Nat) (a l m : Int) (c room : Int) (w : World) (h0 : 0 < a) (h3 : a ≤ 3)
    (c0 : w.cell? ⟨g, o, none⟩ = some (.int .i64 a)) (c1 : w.cell? ⟨g, o + 1, none⟩ = some (.int .u8 l)) (c2 : w.cell? ⟨g, o + 2, none⟩ = some (.int .u8 m))
    (f0 : w.frozen? ⟨g, o, none⟩ = false) (f1 : w.frozen? ⟨g, o + 1, none⟩ = false) (f2 : w.frozen? ⟨g, o + 2, none⟩ = false) (hl : l ≤ c) (hm : c ≤ m) :
    Calls Try.prog 45 #[.pointer (some ⟨g, o, none⟩), .int .u8 c, .int .i64 room] w (StepYes g o (a - 1, 128, 191) w) := by
  go_enter Try.func45, Try.ntmps45
  go_wp2
  go_ret
  exact ⟨rfl, w, Below.refl _ _, rfl⟩

set_option maxHeartbeats 1000000 in
set_option maxRecDepth 100000 in
theorem step_low (g o : Nat) (a l : Int) (c room : Int) (w : World) (h0 : 0 < a)
    (c0 : w.cell? ⟨g, o, none⟩ = some (.int .i64 a)) (c1 : w.cell? ⟨g, o + 1, none⟩ = some (.int .u8 l)) (hl : c < l) :
    Calls Try.prog 45 #[.pointer (some ⟨g, o, none⟩), .int .u8 c, .int .i64 room] w (StepNo w) := by
  go_enter Try.func45, Try.ntmps45
  go_wp2
  go_ret
  exact ⟨rfl, Below.refl _ _⟩

set_option maxHeartbeats 1000000 in
set_option maxRecDepth 100000 in
theorem step_high (g o : Nat) (a l m : Int) (c room : Int) (w : World) (h0 : 0 < a)
    (c0 : w.cell? ⟨g, o, none⟩ = some (.int .i64 a)) (c1 : w.cell? ⟨g, o + 1, none⟩ = some (.int .u8 l)) (c2 : w.cell? ⟨g, o + 2, none⟩ = some (.int .u8 m)) (hl : l ≤ c) (hm : m < c) :
    Calls Try.prog 45 #[.pointer (some ⟨g, o, none⟩), .int .u8 c, .int .i64 room] w (StepNo w) := by
  go_enter Try.func45, Try.ntmps45
  go_wp2
  go_ret
  exact ⟨rfl, Below.refl _ _⟩

set_option maxHeartbeats 1000000 in
set_option maxRecDepth 100000 in
theorem step_none (g o : Nat) (a : Int) (c room : Int) (w : World) (h0 : a ≤ 0)
    (c0 : w.cell? ⟨g, o, none⟩ = some (.int .i64 a)) (hn : (rowOf leadRows c).2.2.1 = 0) :
    Calls Try.prog 45 #[.pointer (some ⟨g, o, none⟩), .int .u8 c, .int .i64 room] w (StepNo w) := by
  obtain ⟨q1, q2, n, q3, q4, hr⟩ : ∃ q1 q2 n q3 q4, rowOf leadRows c = (q1, q2, n, q3, q4) := ⟨_, _, _, _, _, rfl⟩
  rw [hr] at hn
  obtain rfl : n = 0 := hn
  have HR := Lib.hid hr
  clear hr
  go_enter Try.func45, Try.ntmps45
  go_wp2_with (go_at_call 47; refine (row_any c _).mono ?_; rintro e w1 ⟨rfl, hb1⟩; rw [HR.out]; unfold aggOf; dsimp only)
  go_ret
  exact ⟨rfl, hb1.alloc hb1.size _⟩

set_option maxHeartbeats 1000000 in
set_option maxRecDepth 100000 in
theorem step_room (g o : Nat) (a : Int) (c room : Int) (w : World) (h0 : a ≤ 0)
    (c0 : w.cell? ⟨g, o, none⟩ = some (.int .i64 a)) (hn : ¬ (rowOf leadRows c).2.2.1 = 0) (hr0 : 0 ≤ room) (hr1 : room < (rowOf leadRows c).2.2.1 - 1) :
    Calls Try.prog 45 #[.pointer (some ⟨g, o, none⟩), .int .u8 c, .int .i64 room] w (StepNo w) := by
  have hb4 := rowOf_n c
  obtain ⟨q1, q2, n, q3, q4, hr⟩ : ∃ q1 q2 n q3 q4, rowOf leadRows c = (q1, q2, n, q3, q4) := ⟨_, _, _, _, _, rfl⟩
  rw [hr] at hn hr1 hb4
  dsimp only at hn hr1 hb4
  obtain ⟨hb4, hb5⟩ := hb4
  have hn' : (n == 0) = false := by simpa using hn
  have HR := Lib.hid hr
  clear hr
  go_enter Try.func45, Try.ntmps45
  go_wp2_with (go_at_call 47; refine (row_any c _).mono ?_; rintro e w1 ⟨rfl, hb1⟩; rw [HR.out]; unfold aggOf; dsimp only)
  go_ret
  exact ⟨rfl, hb1.alloc hb1.size _⟩

set_option maxHeartbeats 1000000 in
set_option maxRecDepth 100000 in
theorem step_first (g o : Nat) (a l m : Int) (c room : Int) (w : World) (h0 : a ≤ 0)
    (c0 : w.cell? ⟨g, o, none⟩ = some (.int .i64 a)) (c1 : w.cell? ⟨g, o + 1, none⟩ = some (.int .u8 l)) (c2 : w.cell? ⟨g, o + 2, none⟩ = some (.int .u8 m))
    (f0 : w.frozen? ⟨g, o, none⟩ = false) (f1 : w.frozen? ⟨g, o + 1, none⟩ = false) (f2 : w.frozen? ⟨g, o + 2, none⟩ = false) (hn : ¬ (rowOf leadRows c).2.2.1 = 0) (hr0 : 0 ≤ room) (hr1 : (rowOf leadRows c).2.2.1 - 1 ≤ room) :
    Calls Try.prog 45 #[.pointer (some ⟨g, o, none⟩), .int .u8 c, .int .i64 room] w (StepYes g o ((rowOf leadRows c).2.2.1 - 1, (rowOf leadRows c).2.2.2.1, (rowOf leadRows c).2.2.2.2) w) := by
  have hb4 := rowOf_n c
  obtain ⟨q1, q2, n, q3, q4, hr⟩ : ∃ q1 q2 n q3 q4, rowOf leadRows c = (q1, q2, n, q3, q4) := ⟨_, _, _, _, _, rfl⟩
  rw [hr] at hn hr1 hb4 ⊢
  dsimp only at hn hr1 hb4 ⊢
  obtain ⟨hb4, hb5⟩ := hb4
  have hn' : (n == 0) = false := by simpa using hn
  have HR := Lib.hid hr
  have hlt := lt_of_cell c0
  clear hr
  go_enter Try.func45, Try.ntmps45
  go_wp2_with (go_at_call 47; refine (row_any c _).mono ?_; rintro e w1 ⟨rfl, hb1⟩; rw [HR.out]; unfold aggOf; dsimp only; have hsz := hb1.size; have hb2 := fun ob => hb1.alloc hb1.size ob; have d0 := fun ob => ((hb2 ob).cell (p := ⟨g, o, none⟩) hlt).trans c0; have d1 := fun ob => ((hb2 ob).cell (p := ⟨g, o + 1, none⟩) hlt).trans c1; have d2 := fun ob => ((hb2 ob).cell (p := ⟨g, o + 2, none⟩) hlt).trans c2; have e0 := fun ob => ((hb2 ob).frozen (p := ⟨g, o, none⟩) hlt).trans f0; have e1 := fun ob => ((hb2 ob).frozen (p := ⟨g, o + 1, none⟩) hlt).trans f1; have e2 := fun ob => ((hb2 ob).frozen (p := ⟨g, o + 2, none⟩) hlt).trans f2; clear hb2)
  go_ret
  exact ⟨rfl, _, hb1.alloc hb1.size _, rfl⟩

set_option maxHeartbeats 1000000 in
set_option maxRecDepth 100000 in
theorem step_free (g o : Nat) (a l m : Int) (c room : Int) (w : World) (h0 : a ≤ 0)
    (c0 : w.cell? ⟨g, o, none⟩ = some (.int .i64 a)) (c1 : w.cell? ⟨g, o + 1, none⟩ = some (.int .u8 l)) (c2 : w.cell? ⟨g, o + 2, none⟩ = some (.int .u8 m))
    (f0 : w.frozen? ⟨g, o, none⟩ = false) (f1 : w.frozen? ⟨g, o + 1, none⟩ = false) (f2 : w.frozen? ⟨g, o + 2, none⟩ = false) (hn : ¬ (rowOf leadRows c).2.2.1 = 0) (hr0 : room < 0) :
    Calls Try.prog 45 #[.pointer (some ⟨g, o, none⟩), .int .u8 c, .int .i64 room] w (StepYes g o ((rowOf leadRows c).2.2.1 - 1, (rowOf leadRows c).2.2.2.1, (rowOf leadRows c).2.2.2.2) w) := by
  have hb4 := rowOf_n c
  obtain ⟨q1, q2, n, q3, q4, hr⟩ : ∃ q1 q2 n q3 q4, rowOf leadRows c = (q1, q2, n, q3, q4) := ⟨_, _, _, _, _, rfl⟩
  rw [hr] at hn hb4 ⊢
  dsimp only at hn hb4 ⊢
  obtain ⟨hb4, hb5⟩ := hb4
  have hn' : (n == 0) = false := by simpa using hn
  have HR := Lib.hid hr
  have hlt := lt_of_cell c0
  clear hr
  go_enter Try.func45, Try.ntmps45
  go_wp2_with (go_at_call 47; refine (row_any c _).mono ?_; rintro e w1 ⟨rfl, hb1⟩; rw [HR.out]; unfold aggOf; dsimp only; have hsz := hb1.size; have hb2 := fun ob => hb1.alloc hb1.size ob; have d0 := fun ob => ((hb2 ob).cell (p := ⟨g, o, none⟩) hlt).trans c0; have d1 := fun ob => ((hb2 ob).cell (p := ⟨g, o + 1, none⟩) hlt).trans c1; have d2 := fun ob => ((hb2 ob).cell (p := ⟨g, o + 2, none⟩) hlt).trans c2; have e0 := fun ob => ((hb2 ob).frozen (p := ⟨g, o, none⟩) hlt).trans f0; have e1 := fun ob => ((hb2 ob).frozen (p := ⟨g, o + 1, none⟩) hlt).trans f1; have e2 := fun ob => ((hb2 ob).frozen (p := ⟨g, o + 2, none⟩) hlt).trans f2; clear hb2)
  go_ret
  exact ⟨rfl, _, hb1.alloc hb1.size _, rfl⟩

/-- The whole step. -/
theorem step_ok (g o : Nat) (st st' : St) (c room : Int) (w : World) (h0 : 0 ≤ st.1 ∧ st.1 ≤ 3)
    (c0 : w.cell? ⟨g, o, none⟩ = some (.int .i64 st.1)) (c1 : w.cell? ⟨g, o + 1, none⟩ = some (.int .u8 st.2.1)) (c2 : w.cell? ⟨g, o + 2, none⟩ = some (.int .u8 st.2.2))
    (f0 : w.frozen? ⟨g, o, none⟩ = false) (f1 : w.frozen? ⟨g, o + 1, none⟩ = false) (f2 : w.frozen? ⟨g, o + 2, none⟩ = false) (h : stp st c room = some st') :
    Calls Try.prog 45 #[.pointer (some ⟨g, o, none⟩), .int .u8 c, .int .i64 room] w (StepYes g o st' w) := by
  unfold stp at h
  split at h
  · rename_i hg
    split at h
    · cases h
    · rename_i hr
      cases h
      exact step_in g o st.1 st.2.1 st.2.2 c room w hg h0.2 c0 c1 c2 f0 f1 f2 (by omega) (by omega)
  · rename_i hg
    split at h
    · cases h
    · rename_i hr
      cases h
      have hn : ¬ (rowOf leadRows c).2.2.1 = 0 := fun e => hr (.inl e)
      by_cases hp : 0 ≤ room
      · exact step_first g o st.1 st.2.1 st.2.2 c room w (by omega) c0 c1 c2 f0 f1 f2 hn hp (by omega)
      · exact step_free g o st.1 st.2.1 st.2.2 c room w (by omega) c0 c1 c2 f0 f1 f2 hn (by omega)
theorem step_no (g o : Nat) (st : St) (c room : Int) (w : World)
    (c0 : w.cell? ⟨g, o, none⟩ = some (.int .i64 st.1)) (c1 : w.cell? ⟨g, o + 1, none⟩ = some (.int .u8 st.2.1)) (c2 : w.cell? ⟨g, o + 2, none⟩ = some (.int .u8 st.2.2))
    (h : stp st c room = none) :
    Calls Try.prog 45 #[.pointer (some ⟨g, o, none⟩), .int .u8 c, .int .i64 room] w (StepNo w) := by
  unfold stp at h
  split at h
  · rename_i hg
    split at h
    · rename_i hr
      by_cases hl : c < st.2.1
      · exact step_low g o st.1 st.2.1 c room w hg c0 c1 hl
      · exact step_high g o st.1 st.2.1 st.2.2 c room w hg c0 c1 c2 (by omega) (by omega)
    · cases h
  · rename_i hg
    split at h
    · rename_i hr
      by_cases hn : (rowOf leadRows c).2.2.1 = 0
      · exact step_none g o st.1 c room w (by omega) c0 hn
      · exact step_room g o st.1 c room w (by omega) c0 hn (by omega) (by omega)
    · cases h
end Go.Proofs.Ytlbokaekhjjabaa
