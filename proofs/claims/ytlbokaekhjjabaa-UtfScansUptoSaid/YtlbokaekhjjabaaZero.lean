/-
  The methods of a scan that nobody made, and the law UtfZero.
-/
import Derived.Test.YtlbokaekhjjabaaSpec
import Derived.WalkSpells
import Derived.WalkLawsBesides
import Derived.Lib.Hide
namespace Go.Proofs.Ytlbokaekhjjabaa
open Go.RowKit
set_option linter.unusedVariables false

def Say (v : Value) (w : World) (e : Ending) (w' : World) : Prop := e = .returned v ∧ Below w.heap.size w w'

theorem may_nil (w : World) : Calls Try.prog 46 #[.pointer none] w (Say (.int .i64 7) w) := by
  go_enter Try.func46, Try.ntmps46
  go_wp2
  go_ret
  exact ⟨rfl, Below.refl _ _⟩
theorem may_zero (g : Nat) (w : World) (h : w.cell? ⟨g, 0, none⟩ = some (.int .i64 0)) : Calls Try.prog 46 #[.pointer (some ⟨g, 0, none⟩)] w (Say (.int .i64 7) w) := by
  go_enter Try.func46, Try.ntmps46
  go_wp2
  go_ret
  exact ⟨rfl, Below.refl _ _⟩
theorem feed_nil (w : World) (v : Value) : Calls Try.prog 23 #[.pointer none, v] w (Say (.int .i64 7) w) := by
  go_enter Try.func23, Try.ntmps23
  go_wp2_with (go_at_call 46; refine (may_nil _).mono ?_; rintro en w1 ⟨rfl, hb⟩)
  go_ret
  exact ⟨rfl, hb⟩
theorem feed_zero (g : Nat) (w : World) (v : Value) (h : w.cell? ⟨g, 0, none⟩ = some (.int .i64 0)) : Calls Try.prog 23 #[.pointer (some ⟨g, 0, none⟩), v] w (Say (.int .i64 7) w) := by
  go_enter Try.func23, Try.ntmps23
  go_wp2_with (go_at_call 46; refine (may_zero g _ h).mono ?_; rintro en w1 ⟨rfl, hb⟩)
  go_ret
  exact ⟨rfl, hb⟩
theorem close_nil (w : World) : Calls Try.prog 24 #[.pointer none] w (Say (.int .i64 7) w) := by
  go_enter Try.func24, Try.ntmps24
  go_wp2_with (go_at_call 46; refine (may_nil _).mono ?_; rintro en w1 ⟨rfl, hb⟩)
  go_ret
  exact ⟨rfl, hb⟩
theorem close_zero (g : Nat) (w : World) (h : w.cell? ⟨g, 0, none⟩ = some (.int .i64 0)) : Calls Try.prog 24 #[.pointer (some ⟨g, 0, none⟩)] w (Say (.int .i64 7) w) := by
  go_enter Try.func24, Try.ntmps24
  go_wp2_with (go_at_call 46; refine (may_zero g _ h).mono ?_; rintro en w1 ⟨rfl, hb⟩)
  go_ret
  exact ⟨rfl, hb⟩
theorem at_nil (w : World) : Calls Try.prog 25 #[.pointer none] w (Say (.int .i64 0) w) := by
  go_enter Try.func25, Try.ntmps25
  go_wp2
  go_ret
  exact ⟨rfl, Below.refl _ _⟩
theorem at_is (g : Nat) (n : Int) (w : World) (h : w.cell? ⟨g, 4, none⟩ = some (.int .i64 n)) : Calls Try.prog 25 #[.pointer (some ⟨g, 0, none⟩)] w (Say (.int .i64 n) w) := by
  go_enter Try.func25, Try.ntmps25
  go_wp2
  go_ret
  exact ⟨rfl, Below.refl _ _⟩

def zeroObj : Obj := .cells #[.int .i64 0, .int .i64 0, .int .u8 0, .int .u8 0, .int .i64 0] 33
theorem zero_c0 (w : World) : (w.alloc zeroObj).cell? ⟨w.heap.size, 0, none⟩ = some (.int .i64 0) := by unfold World.cell?; dsimp only; rw [heap_alloc_new]; rfl
theorem zero_c4 (w : World) : (w.alloc zeroObj).cell? ⟨w.heap.size, 4, none⟩ = some (.int .i64 0) := by unfold World.cell?; dsimp only; rw [heap_alloc_new]; rfl
set_option maxHeartbeats 1000000 in
theorem zero_any (v : Value) (w : World) : Calls Try.prog 4 #[v] w (Say (.bool true) w) := by
  go_enter Try.func4, Try.ntmps4
  go_wp2_with (fail)
  refine (feed_nil _ _).mono ?_
  rintro en w1 ⟨rfl, hb1⟩
  have c0 := (hb1.cell (p := ⟨w.heap.size, 0, none⟩) (block_lt_of_cell (zero_c0 w))).trans (zero_c0 w)
  have c4 := (hb1.cell (p := ⟨w.heap.size, 4, none⟩) (block_lt_of_cell (zero_c4 w))).trans (zero_c4 w)
  have hbb : Below w.heap.size w w1 := ((Below.refl _ _).alloc (Nat.le_refl _) zeroObj).trans (hb1.mono (by simp))
  clear hb1
  go_wp2_with (fail)
  refine (feed_zero _ _ _ c0).mono ?_
  rintro en wn ⟨rfl, hbn⟩
  have c0 := (hbn.cell (p := ⟨w.heap.size, 0, none⟩) (block_lt_of_cell c0)).trans c0
  have c4 := (hbn.cell (p := ⟨w.heap.size, 4, none⟩) (block_lt_of_cell c4)).trans c4
  have hbb := hbb.trans (hbn.mono hbb.size)
  clear hbn
  go_wp2_with (fail)
  refine (close_nil _).mono ?_
  rintro en wn ⟨rfl, hbn⟩
  have c0 := (hbn.cell (p := ⟨w.heap.size, 0, none⟩) (block_lt_of_cell c0)).trans c0
  have c4 := (hbn.cell (p := ⟨w.heap.size, 4, none⟩) (block_lt_of_cell c4)).trans c4
  have hbb := hbb.trans (hbn.mono hbb.size)
  clear hbn
  go_wp2_with (fail)
  refine (close_zero _ _ c0).mono ?_
  rintro en wn ⟨rfl, hbn⟩
  have c0 := (hbn.cell (p := ⟨w.heap.size, 0, none⟩) (block_lt_of_cell c0)).trans c0
  have c4 := (hbn.cell (p := ⟨w.heap.size, 4, none⟩) (block_lt_of_cell c4)).trans c4
  have hbb := hbb.trans (hbn.mono hbb.size)
  clear hbn
  go_wp2_with (fail)
  refine (at_nil _).mono ?_
  rintro en wn ⟨rfl, hbn⟩
  have c0 := (hbn.cell (p := ⟨w.heap.size, 0, none⟩) (block_lt_of_cell c0)).trans c0
  have c4 := (hbn.cell (p := ⟨w.heap.size, 4, none⟩) (block_lt_of_cell c4)).trans c4
  have hbb := hbb.trans (hbn.mono hbb.size)
  clear hbn
  go_wp2_with (fail)
  refine (at_is _ _ _ c4).mono ?_
  rintro en wn ⟨rfl, hbn⟩
  have c0 := (hbn.cell (p := ⟨w.heap.size, 0, none⟩) (block_lt_of_cell c0)).trans c0
  have c4 := (hbn.cell (p := ⟨w.heap.size, 4, none⟩) (block_lt_of_cell c4)).trans c4
  have hbb := hbb.trans (hbn.mono hbb.size)
  clear hbn
  go_wp2
  go_ret
  exact ⟨rfl, hbb⟩
end Go.Proofs.Ytlbokaekhjjabaa
