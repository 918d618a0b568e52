import Derived.Test.YtlbokaekhjjabaaProg
import Derived.Below
import Derived.Deep.Draws
import Derived.Deep.AppendLies
import Derived.Maps.AppendAt
import Derived.OwnWalk
import Derived.Laws.BytesArg
import Derived.Laws.MakeOwn
import Derived.Laws.OwnMore
import Derived.Deep.OwnRows
import Derived.Tactics
import Derived.Lib.ConvBytes
import Derived.Laws.Slices
import Derived.WalkKit
import Derived.KernelRfl
import Derived.RowKit3
import Derived.Deep.LoopGhost
import Derived.Deep.QuietTactic
import Derived.BigQuiet
import Derived.WideLaws
import Derived.Deep.DeepCutAuto
import Derived.Deep.CutBlock
import Derived.Deep.RegionHeld3
import Derived.Laws.Rows
import Derived.Lib.AppendStr
import Derived.ArgAppend
import Derived.Laws.IdiomCopy
import Derived.OrdersHeld
import Derived.Laws.BitsLemmas
import Derived.RowKit
import Derived.Test.YtlbokaekhjjabaaWWords
import Derived.Test.YtlbokaekhjjabaaWLast
import Derived.Test.YtlbokaekhjjabaaWRepsOne
import Derived.Test.YtlbokaekhjjabaaWMore
import Derived.RangeFuncNested
import Derived.RangeFuncBound
import Derived.RangeFuncCalls
import Derived.RangeFuncLeaves
import Derived.Shelf.Abstract
import Derived.Shelf.RegionOpen
import Derived.OwnWalkIn
import Derived.TacticsInMore
import Derived.LoopNIn
import Derived.LoopIn
import Derived.Test.YtlbokaekhjjabaaMTk0
import Derived.Test.YtlbokaekhjjabaaMTk1
/-
  num's step: its closure, its walk by states.
-/
namespace Go.Proofs.Ytlbokaekhjjabaa
open Go.RowKit
set_option linter.unusedVariables false

def dgB (c : Int) : Bool := decide (48 ≤ c) && decide (c ≤ 57)
theorem cf82 (xs : Array Value) (W : World) : (callFunc 82 xs).run Try.prog W = .ok (.enter 82 xs) W := by rfl
theorem dg_any (g : Nat) (c : Int) (w : World) (h : w.cell? ⟨g, 0, none⟩ = some (.int .u8 c)) : Calls Try.prog 82 #[.pointer (some ⟨g, 0, none⟩)] w fun en w' => en = .returned (.bool (dgB c)) ∧ w' = w := by
  unfold dgB
  by_cases h0 : 48 ≤ c
  · by_cases h1 : c ≤ 57
    · rw [decide_eq_true h0, decide_eq_true h1]
      go_enter Try.func82, Try.ntmps82
      go_wp2
      go_ret
      exact ⟨rfl, rfl⟩
    · rw [decide_eq_true h0, decide_eq_false h1]
      go_enter Try.func82, Try.ntmps82
      go_wp2
      go_ret
      exact ⟨rfl, rfl⟩
  · rw [decide_eq_false h0]
    go_enter Try.func82, Try.ntmps82
    go_wp2
    go_ret
    exact ⟨rfl, rfl⟩
/-- The state behind a byte. -/
def nst (s c : Int) : Int :=
  if s = 0 ∨ s = 1 then (if c = 45 ∧ s = 0 then 1 else if c = 48 then 2 else if dgB c = true then 3 else 9)
  else if s = 2 ∨ s = 3 ∨ s = 5 then (if c = 46 ∧ s ≠ 5 then 4 else if c = 101 ∨ c = 69 then 6 else if dgB c = true ∧ s ≠ 2 then s else 9)
  else if s = 4 then (if dgB c = true then 5 else 9)
  else if s = 6 ∨ s = 7 ∨ s = 8 then (if (c = 43 ∨ c = 45) ∧ s = 6 then 7 else if dgB c = true then 8 else 9) else 9
def StepPost (r : Int) (w : World) (en : Ending) (w' : World) : Prop := en = .returned (.int .i64 r) ∧ Below w.heap.size w w'

set_option maxHeartbeats 1000000 in
theorem step0_45 (w : World) : Calls Try.prog 74 #[.int .i64 0, .int .u8 45] w (StepPost (nst 0 45) w) := by
  have hr : nst 0 45 = 1 := by decide
  rw [hr]
  have hcf := cf82
  have hd : dgB 45 = false := by decide
  go_enter Try.func74, Try.ntmps74
  go_wp2_with (fail)
  go_ret
  exact ⟨rfl, (Below.refl _ _).alloc (Nat.le_refl _) _⟩
set_option maxHeartbeats 1000000 in
theorem step0_48 (w : World) : Calls Try.prog 74 #[.int .i64 0, .int .u8 48] w (StepPost (nst 0 48) w) := by
  have hr : nst 0 48 = 2 := by decide
  rw [hr]
  have hcf := cf82
  have hd : dgB 48 = true := by decide
  go_enter Try.func74, Try.ntmps74
  go_wp2_with (fail)
  go_ret
  exact ⟨rfl, (Below.refl _ _).alloc (Nat.le_refl _) _⟩
set_option maxHeartbeats 4000000 in
theorem step_0 (c : Int) (w : World) (h0 : 0 ≤ c) (h1 : c ≤ 255) : Calls Try.prog 74 #[.int .i64 0, .int .u8 c] w (StepPost (nst 0 c) w) := by
  have hcf := cf82
  by_cases h45 : c = 45
  · subst h45
    exact step0_45 w
  · have b45 : (c == 45) = false := by simpa using h45
    by_cases h48 : c = 48
    · subst h48
      exact step0_48 w
    · have b48 : (c == 48) = false := by simpa using h48
      cases hd : dgB c
      · have hn : dgB c = false := hd
        have hr : nst 0 c = 9 := by unfold nst; simp (config := { decide := true }) [h45, h48, hd]
        rw [hr]
        go_enter Try.func74, Try.ntmps74
        go_wp2_with (fail)
        all_goals (refine (dg_any w.heap.size c _ (by simp)).mono ?_; rintro en w1 ⟨rfl, rfl⟩; rw [hd]; go_wp2)
        go_ret
        exact ⟨rfl, (Below.refl _ _).alloc (Nat.le_refl _) _⟩
      · have hn : dgB c = true := hd
        have hr : nst 0 c = 3 := by unfold nst; simp (config := { decide := true }) [h45, h48, hd]
        rw [hr]
        go_enter Try.func74, Try.ntmps74
        go_wp2_with (fail)
        all_goals (refine (dg_any w.heap.size c _ (by simp)).mono ?_; rintro en w1 ⟨rfl, rfl⟩; rw [hd]; go_wp2)
        go_ret
        exact ⟨rfl, (Below.refl _ _).alloc (Nat.le_refl _) _⟩
set_option maxHeartbeats 1000000 in
theorem step1_45 (w : World) : Calls Try.prog 74 #[.int .i64 1, .int .u8 45] w (StepPost (nst 1 45) w) := by
  have hr : nst 1 45 = 9 := by decide
  rw [hr]
  have hcf := cf82
  have hd : dgB 45 = false := by decide
  go_enter Try.func74, Try.ntmps74
  go_wp2_with (fail)
  all_goals (refine (dg_any w.heap.size 45 _ (by simp)).mono ?_; rintro en w1 ⟨rfl, rfl⟩; rw [hd]; go_wp2)
  go_ret
  exact ⟨rfl, (Below.refl _ _).alloc (Nat.le_refl _) _⟩
set_option maxHeartbeats 1000000 in
theorem step1_48 (w : World) : Calls Try.prog 74 #[.int .i64 1, .int .u8 48] w (StepPost (nst 1 48) w) := by
  have hr : nst 1 48 = 2 := by decide
  rw [hr]
  have hcf := cf82
  have hd : dgB 48 = true := by decide
  go_enter Try.func74, Try.ntmps74
  go_wp2_with (fail)
  go_ret
  exact ⟨rfl, (Below.refl _ _).alloc (Nat.le_refl _) _⟩
set_option maxHeartbeats 4000000 in
theorem step_1 (c : Int) (w : World) (h0 : 0 ≤ c) (h1 : c ≤ 255) : Calls Try.prog 74 #[.int .i64 1, .int .u8 c] w (StepPost (nst 1 c) w) := by
  have hcf := cf82
  by_cases h45 : c = 45
  · subst h45
    exact step1_45 w
  · have b45 : (c == 45) = false := by simpa using h45
    by_cases h48 : c = 48
    · subst h48
      exact step1_48 w
    · have b48 : (c == 48) = false := by simpa using h48
      cases hd : dgB c
      · have hn : dgB c = false := hd
        have hr : nst 1 c = 9 := by unfold nst; simp (config := { decide := true }) [h45, h48, hd]
        rw [hr]
        go_enter Try.func74, Try.ntmps74
        go_wp2_with (fail)
        all_goals (refine (dg_any w.heap.size c _ (by simp)).mono ?_; rintro en w1 ⟨rfl, rfl⟩; rw [hd]; go_wp2)
        go_ret
        exact ⟨rfl, (Below.refl _ _).alloc (Nat.le_refl _) _⟩
      · have hn : dgB c = true := hd
        have hr : nst 1 c = 3 := by unfold nst; simp (config := { decide := true }) [h45, h48, hd]
        rw [hr]
        go_enter Try.func74, Try.ntmps74
        go_wp2_with (fail)
        all_goals (refine (dg_any w.heap.size c _ (by simp)).mono ?_; rintro en w1 ⟨rfl, rfl⟩; rw [hd]; go_wp2)
        go_ret
        exact ⟨rfl, (Below.refl _ _).alloc (Nat.le_refl _) _⟩
set_option maxHeartbeats 1000000 in
theorem step2_46 (w : World) : Calls Try.prog 74 #[.int .i64 2, .int .u8 46] w (StepPost (nst 2 46) w) := by
  have hr : nst 2 46 = 4 := by decide
  rw [hr]
  have hcf := cf82
  have hd : dgB 46 = false := by decide
  go_enter Try.func74, Try.ntmps74
  go_wp2_with (fail)
  go_ret
  exact ⟨rfl, (Below.refl _ _).alloc (Nat.le_refl _) _⟩
set_option maxHeartbeats 1000000 in
theorem step2_101 (w : World) : Calls Try.prog 74 #[.int .i64 2, .int .u8 101] w (StepPost (nst 2 101) w) := by
  have hr : nst 2 101 = 6 := by decide
  rw [hr]
  have hcf := cf82
  have hd : dgB 101 = false := by decide
  go_enter Try.func74, Try.ntmps74
  go_wp2_with (fail)
  go_ret
  exact ⟨rfl, (Below.refl _ _).alloc (Nat.le_refl _) _⟩
set_option maxHeartbeats 1000000 in
theorem step2_69 (w : World) : Calls Try.prog 74 #[.int .i64 2, .int .u8 69] w (StepPost (nst 2 69) w) := by
  have hr : nst 2 69 = 6 := by decide
  rw [hr]
  have hcf := cf82
  have hd : dgB 69 = false := by decide
  go_enter Try.func74, Try.ntmps74
  go_wp2_with (fail)
  go_ret
  exact ⟨rfl, (Below.refl _ _).alloc (Nat.le_refl _) _⟩
set_option maxHeartbeats 4000000 in
theorem step_2 (c : Int) (w : World) (h0 : 0 ≤ c) (h1 : c ≤ 255) : Calls Try.prog 74 #[.int .i64 2, .int .u8 c] w (StepPost (nst 2 c) w) := by
  have hcf := cf82
  by_cases h46 : c = 46
  · subst h46
    exact step2_46 w
  · have b46 : (c == 46) = false := by simpa using h46
    by_cases h101 : c = 101
    · subst h101
      exact step2_101 w
    · have b101 : (c == 101) = false := by simpa using h101
      by_cases h69 : c = 69
      · subst h69
        exact step2_69 w
      · have b69 : (c == 69) = false := by simpa using h69
        cases hd : dgB c
        · have hn : dgB c = false := hd
          have hr : nst 2 c = 9 := by unfold nst; simp (config := { decide := true }) [h46, h101, h69, hd]
          rw [hr]
          go_enter Try.func74, Try.ntmps74
          go_wp2_with (fail)
          all_goals (refine (dg_any w.heap.size c _ (by simp)).mono ?_; rintro en w1 ⟨rfl, rfl⟩; rw [hd]; go_wp2)
          go_ret
          exact ⟨rfl, (Below.refl _ _).alloc (Nat.le_refl _) _⟩
        · have hn : dgB c = true := hd
          have hr : nst 2 c = 9 := by unfold nst; simp (config := { decide := true }) [h46, h101, h69, hd]
          rw [hr]
          go_enter Try.func74, Try.ntmps74
          go_wp2_with (fail)
          all_goals (refine (dg_any w.heap.size c _ (by simp)).mono ?_; rintro en w1 ⟨rfl, rfl⟩; rw [hd]; go_wp2)
          go_ret
          exact ⟨rfl, (Below.refl _ _).alloc (Nat.le_refl _) _⟩
set_option maxHeartbeats 1000000 in
theorem step3_46 (w : World) : Calls Try.prog 74 #[.int .i64 3, .int .u8 46] w (StepPost (nst 3 46) w) := by
  have hr : nst 3 46 = 4 := by decide
  rw [hr]
  have hcf := cf82
  have hd : dgB 46 = false := by decide
  go_enter Try.func74, Try.ntmps74
  go_wp2_with (fail)
  go_ret
  exact ⟨rfl, (Below.refl _ _).alloc (Nat.le_refl _) _⟩
set_option maxHeartbeats 1000000 in
theorem step3_101 (w : World) : Calls Try.prog 74 #[.int .i64 3, .int .u8 101] w (StepPost (nst 3 101) w) := by
  have hr : nst 3 101 = 6 := by decide
  rw [hr]
  have hcf := cf82
  have hd : dgB 101 = false := by decide
  go_enter Try.func74, Try.ntmps74
  go_wp2_with (fail)
  go_ret
  exact ⟨rfl, (Below.refl _ _).alloc (Nat.le_refl _) _⟩
set_option maxHeartbeats 1000000 in
theorem step3_69 (w : World) : Calls Try.prog 74 #[.int .i64 3, .int .u8 69] w (StepPost (nst 3 69) w) := by
  have hr : nst 3 69 = 6 := by decide
  rw [hr]
  have hcf := cf82
  have hd : dgB 69 = false := by decide
  go_enter Try.func74, Try.ntmps74
  go_wp2_with (fail)
  go_ret
  exact ⟨rfl, (Below.refl _ _).alloc (Nat.le_refl _) _⟩
set_option maxHeartbeats 4000000 in
theorem step_3 (c : Int) (w : World) (h0 : 0 ≤ c) (h1 : c ≤ 255) : Calls Try.prog 74 #[.int .i64 3, .int .u8 c] w (StepPost (nst 3 c) w) := by
  have hcf := cf82
  by_cases h46 : c = 46
  · subst h46
    exact step3_46 w
  · have b46 : (c == 46) = false := by simpa using h46
    by_cases h101 : c = 101
    · subst h101
      exact step3_101 w
    · have b101 : (c == 101) = false := by simpa using h101
      by_cases h69 : c = 69
      · subst h69
        exact step3_69 w
      · have b69 : (c == 69) = false := by simpa using h69
        cases hd : dgB c
        · have hn : dgB c = false := hd
          have hr : nst 3 c = 9 := by unfold nst; simp (config := { decide := true }) [h46, h101, h69, hd]
          rw [hr]
          go_enter Try.func74, Try.ntmps74
          go_wp2_with (fail)
          all_goals (refine (dg_any w.heap.size c _ (by simp)).mono ?_; rintro en w1 ⟨rfl, rfl⟩; rw [hd]; go_wp2)
          go_ret
          exact ⟨rfl, (Below.refl _ _).alloc (Nat.le_refl _) _⟩
        · have hn : dgB c = true := hd
          have hr : nst 3 c = 3 := by unfold nst; simp (config := { decide := true }) [h46, h101, h69, hd]
          rw [hr]
          go_enter Try.func74, Try.ntmps74
          go_wp2_with (fail)
          all_goals (refine (dg_any w.heap.size c _ (by simp)).mono ?_; rintro en w1 ⟨rfl, rfl⟩; rw [hd]; go_wp2)
          go_ret
          exact ⟨rfl, (Below.refl _ _).alloc (Nat.le_refl _) _⟩
set_option maxHeartbeats 4000000 in
theorem step_4 (c : Int) (w : World) (h0 : 0 ≤ c) (h1 : c ≤ 255) : Calls Try.prog 74 #[.int .i64 4, .int .u8 c] w (StepPost (nst 4 c) w) := by
  have hcf := cf82
  cases hd : dgB c
  · have hn : dgB c = false := hd
    have hr : nst 4 c = 9 := by unfold nst; simp (config := { decide := true }) [hd]
    rw [hr]
    go_enter Try.func74, Try.ntmps74
    go_wp2_with (fail)
    all_goals (refine (dg_any w.heap.size c _ (by simp)).mono ?_; rintro en w1 ⟨rfl, rfl⟩; rw [hd]; go_wp2)
    go_ret
    exact ⟨rfl, (Below.refl _ _).alloc (Nat.le_refl _) _⟩
  · have hn : dgB c = true := hd
    have hr : nst 4 c = 5 := by unfold nst; simp (config := { decide := true }) [hd]
    rw [hr]
    go_enter Try.func74, Try.ntmps74
    go_wp2_with (fail)
    all_goals (refine (dg_any w.heap.size c _ (by simp)).mono ?_; rintro en w1 ⟨rfl, rfl⟩; rw [hd]; go_wp2)
    go_ret
    exact ⟨rfl, (Below.refl _ _).alloc (Nat.le_refl _) _⟩
set_option maxHeartbeats 1000000 in
theorem step5_46 (w : World) : Calls Try.prog 74 #[.int .i64 5, .int .u8 46] w (StepPost (nst 5 46) w) := by
  have hr : nst 5 46 = 9 := by decide
  rw [hr]
  have hcf := cf82
  have hd : dgB 46 = false := by decide
  go_enter Try.func74, Try.ntmps74
  go_wp2_with (fail)
  all_goals (refine (dg_any w.heap.size 46 _ (by simp)).mono ?_; rintro en w1 ⟨rfl, rfl⟩; rw [hd]; go_wp2)
  go_ret
  exact ⟨rfl, (Below.refl _ _).alloc (Nat.le_refl _) _⟩
set_option maxHeartbeats 1000000 in
theorem step5_101 (w : World) : Calls Try.prog 74 #[.int .i64 5, .int .u8 101] w (StepPost (nst 5 101) w) := by
  have hr : nst 5 101 = 6 := by decide
  rw [hr]
  have hcf := cf82
  have hd : dgB 101 = false := by decide
  go_enter Try.func74, Try.ntmps74
  go_wp2_with (fail)
  go_ret
  exact ⟨rfl, (Below.refl _ _).alloc (Nat.le_refl _) _⟩
set_option maxHeartbeats 1000000 in
theorem step5_69 (w : World) : Calls Try.prog 74 #[.int .i64 5, .int .u8 69] w (StepPost (nst 5 69) w) := by
  have hr : nst 5 69 = 6 := by decide
  rw [hr]
  have hcf := cf82
  have hd : dgB 69 = false := by decide
  go_enter Try.func74, Try.ntmps74
  go_wp2_with (fail)
  go_ret
  exact ⟨rfl, (Below.refl _ _).alloc (Nat.le_refl _) _⟩
set_option maxHeartbeats 4000000 in
theorem step_5 (c : Int) (w : World) (h0 : 0 ≤ c) (h1 : c ≤ 255) : Calls Try.prog 74 #[.int .i64 5, .int .u8 c] w (StepPost (nst 5 c) w) := by
  have hcf := cf82
  by_cases h46 : c = 46
  · subst h46
    exact step5_46 w
  · have b46 : (c == 46) = false := by simpa using h46
    by_cases h101 : c = 101
    · subst h101
      exact step5_101 w
    · have b101 : (c == 101) = false := by simpa using h101
      by_cases h69 : c = 69
      · subst h69
        exact step5_69 w
      · have b69 : (c == 69) = false := by simpa using h69
        cases hd : dgB c
        · have hn : dgB c = false := hd
          have hr : nst 5 c = 9 := by unfold nst; simp (config := { decide := true }) [h46, h101, h69, hd]
          rw [hr]
          go_enter Try.func74, Try.ntmps74
          go_wp2_with (fail)
          all_goals (refine (dg_any w.heap.size c _ (by simp)).mono ?_; rintro en w1 ⟨rfl, rfl⟩; rw [hd]; go_wp2)
          go_ret
          exact ⟨rfl, (Below.refl _ _).alloc (Nat.le_refl _) _⟩
        · have hn : dgB c = true := hd
          have hr : nst 5 c = 5 := by unfold nst; simp (config := { decide := true }) [h46, h101, h69, hd]
          rw [hr]
          go_enter Try.func74, Try.ntmps74
          go_wp2_with (fail)
          all_goals (refine (dg_any w.heap.size c _ (by simp)).mono ?_; rintro en w1 ⟨rfl, rfl⟩; rw [hd]; go_wp2)
          go_ret
          exact ⟨rfl, (Below.refl _ _).alloc (Nat.le_refl _) _⟩
set_option maxHeartbeats 1000000 in
theorem step6_43 (w : World) : Calls Try.prog 74 #[.int .i64 6, .int .u8 43] w (StepPost (nst 6 43) w) := by
  have hr : nst 6 43 = 7 := by decide
  rw [hr]
  have hcf := cf82
  have hd : dgB 43 = false := by decide
  go_enter Try.func74, Try.ntmps74
  go_wp2_with (fail)
  go_ret
  exact ⟨rfl, (Below.refl _ _).alloc (Nat.le_refl _) _⟩
set_option maxHeartbeats 1000000 in
theorem step6_45 (w : World) : Calls Try.prog 74 #[.int .i64 6, .int .u8 45] w (StepPost (nst 6 45) w) := by
  have hr : nst 6 45 = 7 := by decide
  rw [hr]
  have hcf := cf82
  have hd : dgB 45 = false := by decide
  go_enter Try.func74, Try.ntmps74
  go_wp2_with (fail)
  go_ret
  exact ⟨rfl, (Below.refl _ _).alloc (Nat.le_refl _) _⟩
set_option maxHeartbeats 4000000 in
theorem step_6 (c : Int) (w : World) (h0 : 0 ≤ c) (h1 : c ≤ 255) : Calls Try.prog 74 #[.int .i64 6, .int .u8 c] w (StepPost (nst 6 c) w) := by
  have hcf := cf82
  by_cases h43 : c = 43
  · subst h43
    exact step6_43 w
  · have b43 : (c == 43) = false := by simpa using h43
    by_cases h45 : c = 45
    · subst h45
      exact step6_45 w
    · have b45 : (c == 45) = false := by simpa using h45
      cases hd : dgB c
      · have hn : dgB c = false := hd
        have hr : nst 6 c = 9 := by unfold nst; simp (config := { decide := true }) [h43, h45, hd]
        rw [hr]
        go_enter Try.func74, Try.ntmps74
        go_wp2_with (fail)
        all_goals (refine (dg_any w.heap.size c _ (by simp)).mono ?_; rintro en w1 ⟨rfl, rfl⟩; rw [hd]; go_wp2)
        go_ret
        exact ⟨rfl, (Below.refl _ _).alloc (Nat.le_refl _) _⟩
      · have hn : dgB c = true := hd
        have hr : nst 6 c = 8 := by unfold nst; simp (config := { decide := true }) [h43, h45, hd]
        rw [hr]
        go_enter Try.func74, Try.ntmps74
        go_wp2_with (fail)
        all_goals (refine (dg_any w.heap.size c _ (by simp)).mono ?_; rintro en w1 ⟨rfl, rfl⟩; rw [hd]; go_wp2)
        go_ret
        exact ⟨rfl, (Below.refl _ _).alloc (Nat.le_refl _) _⟩
set_option maxHeartbeats 1000000 in
theorem step7_43 (w : World) : Calls Try.prog 74 #[.int .i64 7, .int .u8 43] w (StepPost (nst 7 43) w) := by
  have hr : nst 7 43 = 9 := by decide
  rw [hr]
  have hcf := cf82
  have hd : dgB 43 = false := by decide
  go_enter Try.func74, Try.ntmps74
  go_wp2_with (fail)
  all_goals (refine (dg_any w.heap.size 43 _ (by simp)).mono ?_; rintro en w1 ⟨rfl, rfl⟩; rw [hd]; go_wp2)
  go_ret
  exact ⟨rfl, (Below.refl _ _).alloc (Nat.le_refl _) _⟩
set_option maxHeartbeats 1000000 in
theorem step7_45 (w : World) : Calls Try.prog 74 #[.int .i64 7, .int .u8 45] w (StepPost (nst 7 45) w) := by
  have hr : nst 7 45 = 9 := by decide
  rw [hr]
  have hcf := cf82
  have hd : dgB 45 = false := by decide
  go_enter Try.func74, Try.ntmps74
  go_wp2_with (fail)
  all_goals (refine (dg_any w.heap.size 45 _ (by simp)).mono ?_; rintro en w1 ⟨rfl, rfl⟩; rw [hd]; go_wp2)
  go_ret
  exact ⟨rfl, (Below.refl _ _).alloc (Nat.le_refl _) _⟩
set_option maxHeartbeats 4000000 in
theorem step_7 (c : Int) (w : World) (h0 : 0 ≤ c) (h1 : c ≤ 255) : Calls Try.prog 74 #[.int .i64 7, .int .u8 c] w (StepPost (nst 7 c) w) := by
  have hcf := cf82
  by_cases h43 : c = 43
  · subst h43
    exact step7_43 w
  · have b43 : (c == 43) = false := by simpa using h43
    by_cases h45 : c = 45
    · subst h45
      exact step7_45 w
    · have b45 : (c == 45) = false := by simpa using h45
      cases hd : dgB c
      · have hn : dgB c = false := hd
        have hr : nst 7 c = 9 := by unfold nst; simp (config := { decide := true }) [h43, h45, hd]
        rw [hr]
        go_enter Try.func74, Try.ntmps74
        go_wp2_with (fail)
        all_goals (refine (dg_any w.heap.size c _ (by simp)).mono ?_; rintro en w1 ⟨rfl, rfl⟩; rw [hd]; go_wp2)
        go_ret
        exact ⟨rfl, (Below.refl _ _).alloc (Nat.le_refl _) _⟩
      · have hn : dgB c = true := hd
        have hr : nst 7 c = 8 := by unfold nst; simp (config := { decide := true }) [h43, h45, hd]
        rw [hr]
        go_enter Try.func74, Try.ntmps74
        go_wp2_with (fail)
        all_goals (refine (dg_any w.heap.size c _ (by simp)).mono ?_; rintro en w1 ⟨rfl, rfl⟩; rw [hd]; go_wp2)
        go_ret
        exact ⟨rfl, (Below.refl _ _).alloc (Nat.le_refl _) _⟩
set_option maxHeartbeats 1000000 in
theorem step8_43 (w : World) : Calls Try.prog 74 #[.int .i64 8, .int .u8 43] w (StepPost (nst 8 43) w) := by
  have hr : nst 8 43 = 9 := by decide
  rw [hr]
  have hcf := cf82
  have hd : dgB 43 = false := by decide
  go_enter Try.func74, Try.ntmps74
  go_wp2_with (fail)
  all_goals (refine (dg_any w.heap.size 43 _ (by simp)).mono ?_; rintro en w1 ⟨rfl, rfl⟩; rw [hd]; go_wp2)
  go_ret
  exact ⟨rfl, (Below.refl _ _).alloc (Nat.le_refl _) _⟩
set_option maxHeartbeats 1000000 in
theorem step8_45 (w : World) : Calls Try.prog 74 #[.int .i64 8, .int .u8 45] w (StepPost (nst 8 45) w) := by
  have hr : nst 8 45 = 9 := by decide
  rw [hr]
  have hcf := cf82
  have hd : dgB 45 = false := by decide
  go_enter Try.func74, Try.ntmps74
  go_wp2_with (fail)
  all_goals (refine (dg_any w.heap.size 45 _ (by simp)).mono ?_; rintro en w1 ⟨rfl, rfl⟩; rw [hd]; go_wp2)
  go_ret
  exact ⟨rfl, (Below.refl _ _).alloc (Nat.le_refl _) _⟩
set_option maxHeartbeats 4000000 in
theorem step_8 (c : Int) (w : World) (h0 : 0 ≤ c) (h1 : c ≤ 255) : Calls Try.prog 74 #[.int .i64 8, .int .u8 c] w (StepPost (nst 8 c) w) := by
  have hcf := cf82
  by_cases h43 : c = 43
  · subst h43
    exact step8_43 w
  · have b43 : (c == 43) = false := by simpa using h43
    by_cases h45 : c = 45
    · subst h45
      exact step8_45 w
    · have b45 : (c == 45) = false := by simpa using h45
      cases hd : dgB c
      · have hn : dgB c = false := hd
        have hr : nst 8 c = 9 := by unfold nst; simp (config := { decide := true }) [h43, h45, hd]
        rw [hr]
        go_enter Try.func74, Try.ntmps74
        go_wp2_with (fail)
        all_goals (refine (dg_any w.heap.size c _ (by simp)).mono ?_; rintro en w1 ⟨rfl, rfl⟩; rw [hd]; go_wp2)
        go_ret
        exact ⟨rfl, (Below.refl _ _).alloc (Nat.le_refl _) _⟩
      · have hn : dgB c = true := hd
        have hr : nst 8 c = 8 := by unfold nst; simp (config := { decide := true }) [h43, h45, hd]
        rw [hr]
        go_enter Try.func74, Try.ntmps74
        go_wp2_with (fail)
        all_goals (refine (dg_any w.heap.size c _ (by simp)).mono ?_; rintro en w1 ⟨rfl, rfl⟩; rw [hd]; go_wp2)
        go_ret
        exact ⟨rfl, (Below.refl _ _).alloc (Nat.le_refl _) _⟩
set_option maxHeartbeats 4000000 in
theorem step_9 (c : Int) (w : World) (h0 : 0 ≤ c) (h1 : c ≤ 255) : Calls Try.prog 74 #[.int .i64 9, .int .u8 c] w (StepPost (nst 9 c) w) := by
  have hcf := cf82
  have hr : nst 9 c = 9 := by unfold nst; simp (config := { decide := true }) []
  rw [hr]
  go_enter Try.func74, Try.ntmps74
  go_wp2_with (fail)
  go_ret
  exact ⟨rfl, (Below.refl _ _).alloc (Nat.le_refl _) _⟩
theorem num_step_any (s c : Int) (w : World) (hs0 : 0 ≤ s) (hs1 : s ≤ 9) (h0 : 0 ≤ c) (h1 : c ≤ 255) : Calls Try.prog 74 #[.int .i64 s, .int .u8 c] w (StepPost (nst s c) w) := by
  have : s = 0 ∨ s = 1 ∨ s = 2 ∨ s = 3 ∨ s = 4 ∨ s = 5 ∨ s = 6 ∨ s = 7 ∨ s = 8 ∨ s = 9 := by omega
  rcases this with rfl | rfl | rfl | rfl | rfl | rfl | rfl | rfl | rfl | rfl
  · exact step_0 c w h0 h1
  · exact step_1 c w h0 h1
  · exact step_2 c w h0 h1
  · exact step_3 c w h0 h1
  · exact step_4 c w h0 h1
  · exact step_5 c w h0 h1
  · exact step_6 c w h0 h1
  · exact step_7 c w h0 h1
  · exact step_8 c w h0 h1
  · exact step_9 c w h0 h1
end Go.Proofs.Ytlbokaekhjjabaa

/-
  token's word: its walk.
-/
namespace Go.Proofs.Ytlbokaekhjjabaa
open Go.RowKit
set_option linter.unusedVariables false

/-- What a kind's bytes are. -/
def wordF (c : Int) : ByteArray := if c = 110 then ⟨#[110, 117, 108, 108]⟩ else if c = 116 then ⟨#[116, 114, 117, 101]⟩ else if c = 102 then ⟨#[102, 97, 108, 115, 101]⟩ else ⟨#[byteOf c]⟩
def WordPost (r : ByteArray) (w : World) (en : Ending) (w' : World) : Prop := en = .returned (.string r) ∧ Below w.heap.size w w'
theorem words_0 (W : World) : (Instr.index 105 (.agg #[.string ⟨#[110, 117, 108, 108]⟩, .string ⟨#[116, 114, 117, 101]⟩, .string ⟨#[102, 97, 108, 115, 101]⟩]) (.int .i64 0)).run Try.prog W = .ok (.string ⟨#[110, 117, 108, 108]⟩) W := by kernel_rfl
theorem words_1 (W : World) : (Instr.index 105 (.agg #[.string ⟨#[110, 117, 108, 108]⟩, .string ⟨#[116, 114, 117, 101]⟩, .string ⟨#[102, 97, 108, 115, 101]⟩]) (.int .i64 1)).run Try.prog W = .ok (.string ⟨#[116, 114, 117, 101]⟩) W := by kernel_rfl
theorem words_2 (W : World) : (Instr.index 105 (.agg #[.string ⟨#[110, 117, 108, 108]⟩, .string ⟨#[116, 114, 117, 101]⟩, .string ⟨#[102, 97, 108, 115, 101]⟩]) (.int .i64 2)).run Try.prog W = .ok (.string ⟨#[102, 97, 108, 115, 101]⟩) W := by kernel_rfl
theorem first_n (W : World) : (Instr.index 9 (.string ⟨#[110, 117, 108, 108]⟩) (.int .i64 0)).run Try.prog W = .ok (.int .u8 110) W := by kernel_rfl
theorem first_t (W : World) : (Instr.index 9 (.string ⟨#[116, 114, 117, 101]⟩) (.int .i64 0)).run Try.prog W = .ok (.int .u8 116) W := by kernel_rfl
theorem first_f (W : World) : (Instr.index 9 (.string ⟨#[102, 97, 108, 115, 101]⟩) (.int .i64 0)).run Try.prog W = .ok (.int .u8 102) W := by kernel_rfl

theorem conv_one (W : World) (c : Int) : (convert 28 9 (.slice (some ⟨W.heap.size, 0, none⟩) 1 1)).run Try.prog (W.alloc (.cells #[.int .u8 c] 5)) = .ok (.string (strOfNums [c])) (W.alloc (.cells #[.int .u8 c] 5)) := by
  refine run_convert_bytes_arg _ 28 5 Try.underlying28 Try.underlying5 W.heap.size 0 1 1 [c] rfl (fun i hi => ?_) 9 Try.underlying9
  obtain rfl : i = 0 := by omega
  simp
set_option maxHeartbeats 2000000 in
set_option maxRecDepth 100000 in
theorem word_any (c : Int) (w : World) (h0 : 0 ≤ c) (h1 : c ≤ 255) : Calls Try.prog 62 #[.int .u8 c] w (WordPost (wordF c) w) := by
  have i0 := words_0
  have i1 := words_1
  have i2 := words_2
  have j0 := first_n
  have j1 := first_t
  have j2 := first_f
  go_enter Try.func62, Try.ntmps62
  go_wp2_with (fail)
  go_loopw [6] (fun i wr => ∃ (k : Nat), k ≤ 3 ∧ i = .int .i64 k ∧ (1 ≤ k → c ≠ 110) ∧ (2 ≤ k → c ≠ 116) ∧ (3 ≤ k → c ≠ 102) ∧ wr = w) (fun i _ => 3 - (intOf i).toNat)
  case atStart => exact ⟨0, by omega, rfl, by omega, by omega, by omega, rfl⟩
  case round =>
    obtain ⟨k, hk, rfl, a1, a2, a3, rfl⟩ := hrel
    have hcase : k = 0 ∨ k = 1 ∨ k = 2 ∨ k = 3 := by omega
    rcases hcase with rfl | rfl | rfl | rfl
    · by_cases hc : c = 110
      · subst hc
        go_wp2_with (fail)
        go_ret
        exact ⟨rfl, Below.refl _ _⟩
      · have hb : ((110 : Int) == c) = false := by simp; omega
        go_wp2_with (fail)
        go_roundw
        case rel => exact ⟨1, by omega, rfl, fun _ => hc, fun h => absurd h (by decide), fun h => absurd h (by decide), by first | rfl | trivial⟩
        case measure => decide
    · by_cases hc : c = 116
      · subst hc
        go_wp2_with (fail)
        go_ret
        exact ⟨rfl, Below.refl _ _⟩
      · have hb : ((116 : Int) == c) = false := by simp; omega
        go_wp2_with (fail)
        go_roundw
        case rel => exact ⟨2, by omega, rfl, fun _ => a1 (by decide), fun _ => hc, fun h => absurd h (by decide), by first | rfl | trivial⟩
        case measure => decide
    · by_cases hc : c = 102
      · subst hc
        go_wp2_with (fail)
        go_ret
        exact ⟨rfl, Below.refl _ _⟩
      · have hb : ((102 : Int) == c) = false := by simp; omega
        go_wp2_with (fail)
        go_roundw
        case rel => exact ⟨3, by omega, rfl, fun _ => a1 (by decide), fun _ => a2 (by decide), fun _ => hc, by first | rfl | trivial⟩
        case measure => decide
    · have hcv := conv_one wr c
      have hw : wordF c = strOfNums [c] := by unfold wordF; rw [if_neg (a1 (by decide)), if_neg (a2 (by decide)), if_neg (a3 (by decide))]; rfl
      go_wp2_with (fail)
      go_ret
      exact ⟨by rw [hw]; rfl, (Below.refl _ _).alloc (Nat.le_refl _) _⟩
end Go.Proofs.Ytlbokaekhjjabaa

-- Written by a program of this session (joint.sh) out of the translation. Not trusted: Lean checks it.
namespace Go.Proofs.Ytlbokaekhjjabaa.T
open Go.RowKit Go.Proofs.YtlbokaekhjjabaaW.PrintWords Go.Proofs.YtlbokaekhjjabaaW.PrintLast Go.Proofs.YtlbokaekhjjabaaW.PrintMore
attribute [local go_sem] max2_int min2_int max_two min_two max_three min_three max_four min_four   -- for this text's walks alone
set_option linter.unusedVariables false
set_option linter.unusedSimpArgs false



def errW : Option Int → Value
  | none => .nilIface
  | some c => .iface 0 (.int .i64 c)
theorem errW_none : errW none = .nilIface := rfl
theorem errW_some (c : Int) : errW (some c) = .iface 0 (.int .i64 c) := rfl

theorem info5 : (Try.prog.info? 5).map (fun i => (i.zero, i.size, i.bytes)) = some (some (.int .u8 0), 1, 1) := by kernel_rfl
-- the values' own types

end Go.Proofs.Ytlbokaekhjjabaa.T

-- Written by a program of this session (joint.sh) out of the translation. Not trusted: Lean checks it.
namespace Go.Proofs.Ytlbokaekhjjabaa.T
open Go.RowKit Go.Proofs.YtlbokaekhjjabaaW.PrintWords Go.Proofs.YtlbokaekhjjabaaW.PrintLast Go.Proofs.YtlbokaekhjjabaaW.PrintMore
attribute [local go_sem] max2_int min2_int max_two min_two max_three min_three max_four min_four   -- for this text's walks alone
set_option linter.unusedVariables false
set_option linter.unusedSimpArgs false

/-! ### esc_Scan: function 37 -/
def esc_Scan.f (a0 : ByteArray) : Option (ByteArray × Int × Int) := if a0.size ≤ 4611686018427387904 ∧ (scanF a0).2.1 ≤ 140737488351232 then some (strOfNums (scanF a0).1, (((scanF a0).2.1 : Nat) : Int), (scanF a0).2.2) else none
theorem esc_Scan.calls (a0 : ByteArray) (r1 : ByteArray) (r2 r3 : Int) (w : World) (h : esc_Scan.f a0 = some (r1, r2, r3)) :
    Calls Try.prog 37 #[.string a0] w fun e w' => e = .returned (.tuple #[.string r1, .int .i64 r2, .int .i64 r3]) ∧ Below w.heap.size w w' := by
  unfold esc_Scan.f at h
  split at h
  · rename_i hs
    cases h
    exact scan_any a0 w hs.1 hs.2
  · cases h

end Go.Proofs.Ytlbokaekhjjabaa.T

-- Written by a program of this session (joint.sh) out of the translation. Not trusted: Lean checks it.
namespace Go.Proofs.Ytlbokaekhjjabaa.T
open Go.RowKit Go.Proofs.YtlbokaekhjjabaaW.PrintWords Go.Proofs.YtlbokaekhjjabaaW.PrintLast Go.Proofs.YtlbokaekhjjabaaW.PrintMore
attribute [local go_sem] max2_int min2_int max_two min_two max_three min_three max_four min_four   -- for this text's walks alone
set_option linter.unusedVariables false
set_option linter.unusedSimpArgs false

/-! ### token_Skip: function 59 -/
def token_Skip.l0 : Nat → ByteArray → Int → Option (Int)
  | 0, _, _ => none
  | k + 1, x0, x1 => if x1 < (x0.size : Int) then (if 0 ≤ x1 then (if (bt x0 x1) = 9 then (token_Skip.l0 k x0 (wrap64 (x1 + 1))) else (if (bt x0 x1) = 10 then (token_Skip.l0 k x0 (wrap64 (x1 + 1))) else (if (bt x0 x1) = 13 then (token_Skip.l0 k x0 (wrap64 (x1 + 1))) else (if (bt x0 x1) = 32 then (token_Skip.l0 k x0 (wrap64 (x1 + 1))) else (some x1))))) else (none)) else (some x1)
def token_Skip.f (k : Nat) (a0 : ByteArray) (a1 : Int) : Option (Int) := token_Skip.l0 k a0 a1
theorem token_Skip.mono_l : ∀ k, (∀ y0 y1, LeO (token_Skip.l0 k y0 y1) (token_Skip.l0 (k + 1) y0 y1))
  | 0 => fun _ _ r h => by simp [token_Skip.l0] at h
  | k + 1 => by
    have ih0 := token_Skip.mono_l k
    · intro y0 y1
      unfold token_Skip.l0
      repeat' first
      | (with_reducible exact ih0 _ _)
      | (with_reducible exact LeO.refl _)
      | (with_reducible exact LeO.none _)
      | (with_reducible refine LeO.ite ?_ ?_)
      | (with_reducible refine LeO.bind ?_ (fun _ => ?_))
      | exact ih0 _ _
      | exact LeO.none _
      | refine LeO.ite ?_ ?_
      | refine LeO.bind ?_ (fun _ => ?_)
theorem token_Skip.mono : ∀ a0 a1 k, LeO (token_Skip.f k a0 a1) (token_Skip.f (k + 1) a0 a1) := by
  intro a0 a1 k
  have ih0 := token_Skip.mono_l k
  unfold token_Skip.f
  repeat' first
      | (with_reducible exact ih0 _ _)
      | (with_reducible exact LeO.refl _)
      | (with_reducible exact LeO.none _)
      | (with_reducible refine LeO.ite ?_ ?_)
      | (with_reducible refine LeO.bind ?_ (fun _ => ?_))
      | exact ih0 _ _
      | exact LeO.none _
      | refine LeO.ite ?_ ?_
      | refine LeO.bind ?_ (fun _ => ?_)
set_option maxHeartbeats 8000000 in
set_option maxRecDepth 100000 in
theorem token_Skip.calls (k : Nat) (a0 : ByteArray) (a1 : Int) (r : Int) (w : World) (h : token_Skip.f k a0 a1 = some r) :
    Calls Try.prog 59 #[.string a0, .int .i64 a1] w fun e w' => e = .returned (.int .i64 r) ∧ Drawn0 w w' := by
  have H : (token_Skip.l0 k a0 a1) = some r := h
  clear h
  have H' := Aside0.mk H
  clear H
  go_enter Try.func59, Try.ntmps59
  go_wp2
  go_loopg [1] k (fun kq v1 w' => ∃ (x1_1 : Int), v1 = .int .i64 x1_1 ∧ Aside0 (token_Skip.l0 kq a0 x1_1 = some r) ∧ Aside0 (kq ≤ k) ∧ Drawn0 w w')
  case atStart => exact ⟨(a1), (by first | rfl | (simp; done) | (simp [*]; done)), H', ⟨Nat.le_refl _⟩, by repeat (first | exact Drawn0.refl _ | apply Drawn0.step)⟩
  case round =>
    clear H'
    try clear p2
    obtain ⟨x1_1, rfl, HA, HK1, ⟨m1, rfl⟩⟩ := hrel
    cases gk with
    | zero => exact absurd HA.out (by simp [token_Skip.l0])
    | succ k1 =>
      have H := HA.out
      clear HA
      simp only [token_Skip.l0] at H
      by_cases c3 : x1_1 < (a0.size : Int)
      · rw [if_pos c3] at H
        have c3b0 : decide (x1_1 < (a0.size : Int)) = true := decide_eq_true c3
        clear c3
        by_cases c4 : 0 ≤ x1_1
        · rw [if_pos c4] at H
          have c4b0 : decide (0 ≤ x1_1) = true := decide_eq_true c4
          clear c4
          by_cases c6 : (bt a0 x1_1) = 9
          · rw [if_pos c6] at H
            have c6b0 : ((bt a0 x1_1) == 9) = true := beq_iff_eq.mpr c6
            have c6b1 : ((bt a0 x1_1) != 9) = false := bne_eq_false_iff_eq.mpr c6
            clear c6
            have H' := Aside0.mk H
            clear H
            have p5 : 0 ≤ (x1_1 : Int) := of_decide_eq_true (by first | (with_reducible assumption) | assumption)
            have q5 : x1_1 < (a0.size : Int) := of_decide_eq_true (by first | (with_reducible assumption) | assumption)
            have hx5 := bt_at a0 x1_1
            replace p5 := eq_true p5
            replace q5 := eq_true q5
            go_wp2
            go_roundg k1
            case measure => have := HK1.out; omega
            case rel => exact ⟨(wrap64 (x1_1 + 1)), (by first | rfl | (simp; done) | (simp [*]; done)), H', ⟨by have := HK1.out; omega⟩, by repeat (first | exact Drawn0.refl _ | apply Drawn0.step)⟩
          · rw [if_neg c6] at H
            have c6b0 : ((bt a0 x1_1) == 9) = false := beq_eq_false_iff_ne.mpr c6
            have c6b1 : ((bt a0 x1_1) != 9) = true := bne_iff_ne.mpr c6
            by_cases c7 : (bt a0 x1_1) = 10
            · rw [if_pos c7] at H
              have c7b0 : ((bt a0 x1_1) == 10) = true := beq_iff_eq.mpr c7
              have c7b1 : ((bt a0 x1_1) != 10) = false := bne_eq_false_iff_eq.mpr c7
              clear c7
              have H' := Aside0.mk H
              clear H
              have p5 : 0 ≤ (x1_1 : Int) := of_decide_eq_true (by first | (with_reducible assumption) | assumption)
              have q5 : x1_1 < (a0.size : Int) := of_decide_eq_true (by first | (with_reducible assumption) | assumption)
              have hx5 := bt_at a0 x1_1
              replace p5 := eq_true p5
              replace q5 := eq_true q5
              go_wp2
              go_roundg k1
              case measure => have := HK1.out; omega
              case rel => exact ⟨(wrap64 (x1_1 + 1)), (by first | rfl | (simp; done) | (simp [*]; done)), H', ⟨by have := HK1.out; omega⟩, by repeat (first | exact Drawn0.refl _ | apply Drawn0.step)⟩
            · rw [if_neg c7] at H
              have c7b0 : ((bt a0 x1_1) == 10) = false := beq_eq_false_iff_ne.mpr c7
              have c7b1 : ((bt a0 x1_1) != 10) = true := bne_iff_ne.mpr c7
              by_cases c8 : (bt a0 x1_1) = 13
              · rw [if_pos c8] at H
                have c8b0 : ((bt a0 x1_1) == 13) = true := beq_iff_eq.mpr c8
                have c8b1 : ((bt a0 x1_1) != 13) = false := bne_eq_false_iff_eq.mpr c8
                clear c8
                have H' := Aside0.mk H
                clear H
                have p5 : 0 ≤ (x1_1 : Int) := of_decide_eq_true (by first | (with_reducible assumption) | assumption)
                have q5 : x1_1 < (a0.size : Int) := of_decide_eq_true (by first | (with_reducible assumption) | assumption)
                have hx5 := bt_at a0 x1_1
                replace p5 := eq_true p5
                replace q5 := eq_true q5
                go_wp2
                go_roundg k1
                case measure => have := HK1.out; omega
                case rel => exact ⟨(wrap64 (x1_1 + 1)), (by first | rfl | (simp; done) | (simp [*]; done)), H', ⟨by have := HK1.out; omega⟩, by repeat (first | exact Drawn0.refl _ | apply Drawn0.step)⟩
              · rw [if_neg c8] at H
                have c8b0 : ((bt a0 x1_1) == 13) = false := beq_eq_false_iff_ne.mpr c8
                have c8b1 : ((bt a0 x1_1) != 13) = true := bne_iff_ne.mpr c8
                by_cases c9 : (bt a0 x1_1) = 32
                · rw [if_pos c9] at H
                  have c9b0 : ((bt a0 x1_1) == 32) = true := beq_iff_eq.mpr c9
                  have c9b1 : ((bt a0 x1_1) != 32) = false := bne_eq_false_iff_eq.mpr c9
                  clear c9
                  have H' := Aside0.mk H
                  clear H
                  have p5 : 0 ≤ (x1_1 : Int) := of_decide_eq_true (by first | (with_reducible assumption) | assumption)
                  have q5 : x1_1 < (a0.size : Int) := of_decide_eq_true (by first | (with_reducible assumption) | assumption)
                  have hx5 := bt_at a0 x1_1
                  replace p5 := eq_true p5
                  replace q5 := eq_true q5
                  go_wp2
                  go_roundg k1
                  case measure => have := HK1.out; omega
                  case rel => exact ⟨(wrap64 (x1_1 + 1)), (by first | rfl | (simp; done) | (simp [*]; done)), H', ⟨by have := HK1.out; omega⟩, by repeat (first | exact Drawn0.refl _ | apply Drawn0.step)⟩
                · rw [if_neg c9] at H
                  have c9b0 : ((bt a0 x1_1) == 32) = false := beq_eq_false_iff_ne.mpr c9
                  have c9b1 : ((bt a0 x1_1) != 32) = true := bne_iff_ne.mpr c9
                  obtain rfl := Option.some.inj H
                  have p5 : 0 ≤ (x1_1 : Int) := of_decide_eq_true (by first | (with_reducible assumption) | assumption)
                  have q5 : x1_1 < (a0.size : Int) := of_decide_eq_true (by first | (with_reducible assumption) | assumption)
                  have hx5 := bt_at a0 x1_1
                  replace p5 := eq_true p5
                  replace q5 := eq_true q5
                  go_wp2
                  go_ret
                  exact ⟨by first | rfl | (simp; done) | (simp [*]; done), by repeat (first | exact Drawn0.refl _ | apply Drawn0.step)⟩
        · rw [if_neg c4] at H
          exact absurd H (by simp)
      · rw [if_neg c3] at H
        have c3b0 : decide (x1_1 < (a0.size : Int)) = false := decide_eq_false c3
        clear c3
        obtain rfl := Option.some.inj H
        go_wp2
        go_ret
        exact ⟨by first | rfl | (simp; done) | (simp [*]; done), by repeat (first | exact Drawn0.refl _ | apply Drawn0.step)⟩

end Go.Proofs.Ytlbokaekhjjabaa.T

-- Written by a program of this session (joint.sh) out of the translation. Not trusted: Lean checks it.
namespace Go.Proofs.Ytlbokaekhjjabaa.T
open Go.RowKit Go.Proofs.YtlbokaekhjjabaaW.PrintWords Go.Proofs.YtlbokaekhjjabaaW.PrintLast Go.Proofs.YtlbokaekhjjabaaW.PrintMore
attribute [local go_sem] max2_int min2_int max_two min_two max_three min_three max_four min_four   -- for this text's walks alone
set_option linter.unusedVariables false
set_option linter.unusedSimpArgs false

/-! ### token_Kind: function 60 -/
mutual
def token_Kind.j0 : Nat → Int → Int → Bool → Option (Int)
  | 0, _, _, _ => none
  | k + 1, x0, x3, x8 => if x8 = true then (some x0) else (if x3 = 44 then (token_Kind.j1 k x0 (x3 == 44)) else (if x3 = 110 then (token_Kind.j1 k x0 (x3 == 110)) else (if x3 = 116 then (token_Kind.j1 k x0 (x3 == 116)) else (token_Kind.j1 k x0 (x3 == 102)))))
def token_Kind.j1 : Nat → Int → Bool → Option (Int)
  | 0, _, _ => none
  | k + 1, x0, x14 => if x14 = true then (some x0) else (if x0 ≥ 48 then (if x0 ≤ 57 then (some 78) else (some 0)) else (some 0))
end
def token_Kind.f (k : Nat) (a0 : Int) : Option (Int) := if a0 = 34 then (some 83) else (if a0 = 45 then (some 78) else (if a0 = 91 then (token_Kind.j0 k a0 a0 (a0 == 91)) else (if a0 = 93 then (token_Kind.j0 k a0 a0 (a0 == 93)) else (if a0 = 123 then (token_Kind.j0 k a0 a0 (a0 == 123)) else (if a0 = 125 then (token_Kind.j0 k a0 a0 (a0 == 125)) else (token_Kind.j0 k a0 a0 (a0 == 58)))))))
theorem token_Kind.mono_l : ∀ k, (∀ y0 y1 y2, LeO (token_Kind.j0 k y0 y1 y2) (token_Kind.j0 (k + 1) y0 y1 y2)) ∧ (∀ y0 y1, LeO (token_Kind.j1 k y0 y1) (token_Kind.j1 (k + 1) y0 y1))
  | 0 => ⟨fun _ _ _ r h => by simp [token_Kind.j0] at h, fun _ _ r h => by simp [token_Kind.j1] at h⟩
  | k + 1 => by
    obtain ⟨ih0, ih1⟩ := token_Kind.mono_l k
    refine ⟨?_, ?_⟩
    · intro y0 y1 y2
      unfold token_Kind.j0
      repeat' first
      | (with_reducible exact ih0 _ _ _)
      | (with_reducible exact ih1 _ _)
      | (with_reducible exact LeO.refl _)
      | (with_reducible exact LeO.none _)
      | (with_reducible refine LeO.ite ?_ ?_)
      | (with_reducible refine LeO.bind ?_ (fun _ => ?_))
      | exact ih0 _ _ _
      | exact ih1 _ _
      | exact LeO.none _
      | refine LeO.ite ?_ ?_
      | refine LeO.bind ?_ (fun _ => ?_)
    · intro y0 y1
      unfold token_Kind.j1
      repeat' first
      | (with_reducible exact ih0 _ _ _)
      | (with_reducible exact ih1 _ _)
      | (with_reducible exact LeO.refl _)
      | (with_reducible exact LeO.none _)
      | (with_reducible refine LeO.ite ?_ ?_)
      | (with_reducible refine LeO.bind ?_ (fun _ => ?_))
      | exact ih0 _ _ _
      | exact ih1 _ _
      | exact LeO.none _
      | refine LeO.ite ?_ ?_
      | refine LeO.bind ?_ (fun _ => ?_)
theorem token_Kind.mono : ∀ a0 k, LeO (token_Kind.f k a0) (token_Kind.f (k + 1) a0) := by
  intro a0 k
  obtain ⟨ih0, ih1⟩ := token_Kind.mono_l k
  unfold token_Kind.f
  repeat' first
      | (with_reducible exact ih0 _ _ _)
      | (with_reducible exact ih1 _ _)
      | (with_reducible exact LeO.refl _)
      | (with_reducible exact LeO.none _)
      | (with_reducible refine LeO.ite ?_ ?_)
      | (with_reducible refine LeO.bind ?_ (fun _ => ?_))
      | exact ih0 _ _ _
      | exact ih1 _ _
      | exact LeO.none _
      | refine LeO.ite ?_ ?_
      | refine LeO.bind ?_ (fun _ => ?_)
set_option maxHeartbeats 8000000 in
set_option maxRecDepth 100000 in
theorem token_Kind.calls (k : Nat) (a0 : Int) (r : Int) (w : World) (h : token_Kind.f k a0 = some r) :
    Calls Try.prog 60 #[.int .u8 a0] w fun e w' => e = .returned (.int .u8 r) ∧ Drawn0 w w' := by
  have H : (if a0 = 34 then (some 83) else (if a0 = 45 then (some 78) else (if a0 = 91 then (token_Kind.j0 k a0 a0 (a0 == 91)) else (if a0 = 93 then (token_Kind.j0 k a0 a0 (a0 == 93)) else (if a0 = 123 then (token_Kind.j0 k a0 a0 (a0 == 123)) else (if a0 = 125 then (token_Kind.j0 k a0 a0 (a0 == 125)) else (token_Kind.j0 k a0 a0 (a0 == 58)))))))) = some r := h
  clear h
  by_cases c2 : a0 = 34
  · rw [if_pos c2] at H
    have c2b0 : (a0 == 34) = true := beq_iff_eq.mpr c2
    have c2b1 : (a0 != 34) = false := bne_eq_false_iff_eq.mpr c2
    clear c2
    obtain rfl := Option.some.inj H
    go_enter Try.func60, Try.ntmps60
    go_wp2
    go_ret
    exact ⟨by first | rfl | (simp; done) | (simp [*]; done), by repeat (first | exact Drawn0.refl _ | apply Drawn0.step)⟩
  · rw [if_neg c2] at H
    have c2b0 : (a0 == 34) = false := beq_eq_false_iff_ne.mpr c2
    have c2b1 : (a0 != 34) = true := bne_iff_ne.mpr c2
    by_cases c3 : a0 = 45
    · rw [if_pos c3] at H
      have c3b0 : (a0 == 45) = true := beq_iff_eq.mpr c3
      have c3b1 : (a0 != 45) = false := bne_eq_false_iff_eq.mpr c3
      clear c3
      obtain rfl := Option.some.inj H
      go_enter Try.func60, Try.ntmps60
      go_wp2
      go_ret
      exact ⟨by first | rfl | (simp; done) | (simp [*]; done), by repeat (first | exact Drawn0.refl _ | apply Drawn0.step)⟩
    · rw [if_neg c3] at H
      have c3b0 : (a0 == 45) = false := beq_eq_false_iff_ne.mpr c3
      have c3b1 : (a0 != 45) = true := bne_iff_ne.mpr c3
      have HC4 := Aside0.mk H
      clear H
      go_enter Try.func60, Try.ntmps60
      go_upto_if 8 with (fail)
      go_cut [8] (fun v8 wc => ∃ (kq : Nat) (x8_3 : Bool), v8 = .bool x8_3 ∧ Aside0 (token_Kind.j0 kq a0 a0 x8_3 = some r) ∧ Aside0 (kq ≤ k) ∧ Drawn0 w wc)
      case first =>
        have H := HC4.out
        clear HC4
        by_cases c5 : a0 = 91
        · rw [if_pos c5] at H
          have c5b0 : (a0 == 91) = true := beq_iff_eq.mpr c5
          have c5b1 : (a0 != 91) = false := bne_eq_false_iff_eq.mpr c5
          clear c5
          (first | rw [c5b0] | (simp only [i64_w, i32_w]; rw [c5b0]) | skip)
          have H' := Aside0.mk H
          clear H
          go_wp2
          go_meet
          case rel => exact ⟨_, ((a0 == 91)), (by first | rfl | (simp; done) | (simp [*]; done)), H', ⟨by first | omega | exact Nat.le_refl _⟩, by repeat (first | exact Drawn0.refl _ | apply Drawn0.step)⟩
        · rw [if_neg c5] at H
          have c5b0 : (a0 == 91) = false := beq_eq_false_iff_ne.mpr c5
          have c5b1 : (a0 != 91) = true := bne_iff_ne.mpr c5
          (first | rw [c5b0] | (simp only [i64_w, i32_w]; rw [c5b0]) | skip)
          by_cases c6 : a0 = 93
          · rw [if_pos c6] at H
            have c6b0 : (a0 == 93) = true := beq_iff_eq.mpr c6
            have c6b1 : (a0 != 93) = false := bne_eq_false_iff_eq.mpr c6
            clear c6
            have H' := Aside0.mk H
            clear H
            go_wp2
            go_meet
            case rel => exact ⟨_, ((a0 == 93)), (by first | rfl | (simp; done) | (simp [*]; done)), H', ⟨by first | omega | exact Nat.le_refl _⟩, by repeat (first | exact Drawn0.refl _ | apply Drawn0.step)⟩
          · rw [if_neg c6] at H
            have c6b0 : (a0 == 93) = false := beq_eq_false_iff_ne.mpr c6
            have c6b1 : (a0 != 93) = true := bne_iff_ne.mpr c6
            by_cases c7 : a0 = 123
            · rw [if_pos c7] at H
              have c7b0 : (a0 == 123) = true := beq_iff_eq.mpr c7
              have c7b1 : (a0 != 123) = false := bne_eq_false_iff_eq.mpr c7
              clear c7
              have H' := Aside0.mk H
              clear H
              go_wp2
              go_meet
              case rel => exact ⟨_, ((a0 == 123)), (by first | rfl | (simp; done) | (simp [*]; done)), H', ⟨by first | omega | exact Nat.le_refl _⟩, by repeat (first | exact Drawn0.refl _ | apply Drawn0.step)⟩
            · rw [if_neg c7] at H
              have c7b0 : (a0 == 123) = false := beq_eq_false_iff_ne.mpr c7
              have c7b1 : (a0 != 123) = true := bne_iff_ne.mpr c7
              by_cases c8 : a0 = 125
              · rw [if_pos c8] at H
                have c8b0 : (a0 == 125) = true := beq_iff_eq.mpr c8
                have c8b1 : (a0 != 125) = false := bne_eq_false_iff_eq.mpr c8
                clear c8
                have H' := Aside0.mk H
                clear H
                go_wp2
                go_meet
                case rel => exact ⟨_, ((a0 == 125)), (by first | rfl | (simp; done) | (simp [*]; done)), H', ⟨by first | omega | exact Nat.le_refl _⟩, by repeat (first | exact Drawn0.refl _ | apply Drawn0.step)⟩
              · rw [if_neg c8] at H
                have c8b0 : (a0 == 125) = false := beq_eq_false_iff_ne.mpr c8
                have c8b1 : (a0 != 125) = true := bne_iff_ne.mpr c8
                have H' := Aside0.mk H
                clear H
                go_wp2
                go_meet
                case rel => exact ⟨_, ((a0 == 58)), (by first | rfl | (simp; done) | (simp [*]; done)), H', ⟨by first | omega | exact Nat.le_refl _⟩, by repeat (first | exact Drawn0.refl _ | apply Drawn0.step)⟩
      case rest =>
        clear HC4
        try clear c2
        try clear c2b0
        try clear c2b1
        try clear p2
        try clear c3
        try clear c3b0
        try clear c3b1
        try clear c5
        try clear c5b0
        try clear c5b1
        try clear c6
        try clear c6b0
        try clear c6b1
        try clear c7
        try clear c7b0
        try clear c7b1
        try clear c8
        try clear c8b0
        try clear c8b1
        obtain ⟨kq, x8_3, rfl, HA, HJ3, ⟨mc3, rfl⟩⟩ := hcut
        cases kq with
        | zero => exact absurd HA.out (by simp [token_Kind.j0])
        | succ kj3 =>
          have H := HA.out
          clear HA
          simp only [token_Kind.j0] at H
          by_cases c9 : x8_3 = true
          · subst c9
            have H1 : (some a0) = some r := by rw [if_pos rfl] at H; exact H
            clear H
            have H := H1
            clear H1
            obtain rfl := Option.some.inj H
            go_wp2
            go_ret
            exact ⟨by first | rfl | (simp; done) | (simp [*]; done), by repeat (first | exact Drawn0.refl _ | apply Drawn0.step)⟩
          · replace c9 := Bool.eq_false_iff.mpr c9
            subst c9
            have H1 : (if a0 = 44 then (token_Kind.j1 kj3 a0 (a0 == 44)) else (if a0 = 110 then (token_Kind.j1 kj3 a0 (a0 == 110)) else (if a0 = 116 then (token_Kind.j1 kj3 a0 (a0 == 116)) else (token_Kind.j1 kj3 a0 (a0 == 102))))) = some r := by rw [if_neg (show ¬ (false = true) by decide)] at H; exact H
            clear H
            have H := H1
            clear H1
            have HC10 := Aside0.mk H
            clear H
            go_upto_if 14 with (fail)
            go_cut [14] (fun v14 wc => ∃ (kq : Nat) (x14_9 : Bool), v14 = .bool x14_9 ∧ Aside0 (token_Kind.j1 kq a0 x14_9 = some r) ∧ Aside0 (kq ≤ kj3) ∧ Drawn0 w wc)
            case first =>
              have H := HC10.out
              clear HC10
              by_cases c11 : a0 = 44
              · rw [if_pos c11] at H
                have c11b0 : (a0 == 44) = true := beq_iff_eq.mpr c11
                have c11b1 : (a0 != 44) = false := bne_eq_false_iff_eq.mpr c11
                clear c11
                (first | rw [c11b0] | (simp only [i64_w, i32_w]; rw [c11b0]) | skip)
                have H' := Aside0.mk H
                clear H
                go_wp2
                go_meet
                case rel => exact ⟨_, ((a0 == 44)), (by first | rfl | (simp; done) | (simp [*]; done)), H', ⟨by have := HJ3.out; first | omega | exact Nat.le_refl _⟩, by repeat (first | exact Drawn0.refl _ | apply Drawn0.step)⟩
              · rw [if_neg c11] at H
                have c11b0 : (a0 == 44) = false := beq_eq_false_iff_ne.mpr c11
                have c11b1 : (a0 != 44) = true := bne_iff_ne.mpr c11
                (first | rw [c11b0] | (simp only [i64_w, i32_w]; rw [c11b0]) | skip)
                by_cases c12 : a0 = 110
                · rw [if_pos c12] at H
                  have c12b0 : (a0 == 110) = true := beq_iff_eq.mpr c12
                  have c12b1 : (a0 != 110) = false := bne_eq_false_iff_eq.mpr c12
                  clear c12
                  have H' := Aside0.mk H
                  clear H
                  go_wp2
                  go_meet
                  case rel => exact ⟨_, ((a0 == 110)), (by first | rfl | (simp; done) | (simp [*]; done)), H', ⟨by have := HJ3.out; first | omega | exact Nat.le_refl _⟩, by repeat (first | exact Drawn0.refl _ | apply Drawn0.step)⟩
                · rw [if_neg c12] at H
                  have c12b0 : (a0 == 110) = false := beq_eq_false_iff_ne.mpr c12
                  have c12b1 : (a0 != 110) = true := bne_iff_ne.mpr c12
                  by_cases c13 : a0 = 116
                  · rw [if_pos c13] at H
                    have c13b0 : (a0 == 116) = true := beq_iff_eq.mpr c13
                    have c13b1 : (a0 != 116) = false := bne_eq_false_iff_eq.mpr c13
                    clear c13
                    have H' := Aside0.mk H
                    clear H
                    go_wp2
                    go_meet
                    case rel => exact ⟨_, ((a0 == 116)), (by first | rfl | (simp; done) | (simp [*]; done)), H', ⟨by have := HJ3.out; first | omega | exact Nat.le_refl _⟩, by repeat (first | exact Drawn0.refl _ | apply Drawn0.step)⟩
                  · rw [if_neg c13] at H
                    have c13b0 : (a0 == 116) = false := beq_eq_false_iff_ne.mpr c13
                    have c13b1 : (a0 != 116) = true := bne_iff_ne.mpr c13
                    have H' := Aside0.mk H
                    clear H
                    go_wp2
                    go_meet
                    case rel => exact ⟨_, ((a0 == 102)), (by first | rfl | (simp; done) | (simp [*]; done)), H', ⟨by have := HJ3.out; first | omega | exact Nat.le_refl _⟩, by repeat (first | exact Drawn0.refl _ | apply Drawn0.step)⟩
            case rest =>
              clear HC10
              try clear c1
              try clear c2
              try clear c2b0
              try clear c2b1
              try clear p2
              try clear c3
              try clear c3b0
              try clear c3b1
              try clear c5
              try clear c5b0
              try clear c5b1
              try clear c6
              try clear c6b0
              try clear c6b1
              try clear c7
              try clear c7b0
              try clear c7b1
              try clear c8
              try clear c8b0
              try clear c8b1
              try clear c9
              try clear c11
              try clear c11b0
              try clear c11b1
              try clear c12
              try clear c12b0
              try clear c12b1
              try clear c13
              try clear c13b0
              try clear c13b1
              try clear p2
              obtain ⟨kq, x14_9, rfl, HA, HJ9, ⟨mc9, rfl⟩⟩ := hcut
              cases kq with
              | zero => exact absurd HA.out (by simp [token_Kind.j1])
              | succ kj9 =>
                have H := HA.out
                clear HA
                simp only [token_Kind.j1] at H
                by_cases c14 : x14_9 = true
                · subst c14
                  have H1 : (some a0) = some r := by rw [if_pos rfl] at H; exact H
                  clear H
                  have H := H1
                  clear H1
                  obtain rfl := Option.some.inj H
                  go_wp2
                  go_ret
                  exact ⟨by first | rfl | (simp; done) | (simp [*]; done), by repeat (first | exact Drawn0.refl _ | apply Drawn0.step)⟩
                · replace c14 := Bool.eq_false_iff.mpr c14
                  subst c14
                  have H1 : (if a0 ≥ 48 then (if a0 ≤ 57 then (some 78) else (some 0)) else (some 0)) = some r := by rw [if_neg (show ¬ (false = true) by decide)] at H; exact H
                  clear H
                  have H := H1
                  clear H1
                  by_cases c15 : a0 ≥ 48
                  · rw [if_pos c15] at H
                    have c15b0 : decide (48 ≤ a0) = true := decide_eq_true c15
                    clear c15
                    by_cases c16 : a0 ≤ 57
                    · rw [if_pos c16] at H
                      have c16b0 : decide (a0 ≤ 57) = true := decide_eq_true c16
                      clear c16
                      obtain rfl := Option.some.inj H
                      go_wp2
                      go_ret
                      exact ⟨by first | rfl | (simp; done) | (simp [*]; done), by repeat (first | exact Drawn0.refl _ | apply Drawn0.step)⟩
                    · rw [if_neg c16] at H
                      have c16b0 : decide (a0 ≤ 57) = false := decide_eq_false c16
                      clear c16
                      obtain rfl := Option.some.inj H
                      go_wp2
                      go_ret
                      exact ⟨by first | rfl | (simp; done) | (simp [*]; done), by repeat (first | exact Drawn0.refl _ | apply Drawn0.step)⟩
                  · rw [if_neg c15] at H
                    have c15b0 : decide (48 ≤ a0) = false := decide_eq_false c15
                    clear c15
                    obtain rfl := Option.some.inj H
                    go_wp2
                    go_ret
                    exact ⟨by first | rfl | (simp; done) | (simp [*]; done), by repeat (first | exact Drawn0.refl _ | apply Drawn0.step)⟩

end Go.Proofs.Ytlbokaekhjjabaa.T

-- Written by a program of this session (joint.sh) out of the translation. Not trusted: Lean checks it.
namespace Go.Proofs.Ytlbokaekhjjabaa.T
open Go.RowKit Go.Proofs.YtlbokaekhjjabaaW.PrintWords Go.Proofs.YtlbokaekhjjabaaW.PrintLast Go.Proofs.YtlbokaekhjjabaaW.PrintMore
attribute [local go_sem] max2_int min2_int max_two min_two max_three min_three max_four min_four   -- for this text's walks alone
set_option linter.unusedVariables false
set_option linter.unusedSimpArgs false

/-! ### num_step: function 74 -/
def num_step.f (a0 : Int) (a1 : Int) : Option (Int) := if (0 ≤ a0 ∧ a0 ≤ 9) ∧ 0 ≤ a1 ∧ a1 ≤ 255 then some (nst a0 a1) else none
theorem num_step.calls (a0 : Int) (a1 : Int) (r : Int) (w : World) (h : num_step.f a0 a1 = some r) :
    Calls Try.prog 74 #[.int .i64 a0, .int .u8 a1] w fun e w' => e = .returned (.int .i64 r) ∧ Below w.heap.size w w' := by
  unfold num_step.f at h
  split at h
  · rename_i hs
    cases h
    exact num_step_any a0 a1 w hs.1.1 hs.1.2 hs.2.1 hs.2.2
  · cases h

end Go.Proofs.Ytlbokaekhjjabaa.T

-- Written by a program of this session (joint.sh) out of the translation. Not trusted: Lean checks it.
namespace Go.Proofs.Ytlbokaekhjjabaa.T
open Go.RowKit Go.Proofs.YtlbokaekhjjabaaW.PrintWords Go.Proofs.YtlbokaekhjjabaaW.PrintLast Go.Proofs.YtlbokaekhjjabaaW.PrintMore
attribute [local go_sem] max2_int min2_int max_two min_two max_three min_three max_four min_four   -- for this text's walks alone
set_option linter.unusedVariables false
set_option linter.unusedSimpArgs false

/-! ### num_ends: function 75 -/
def num_ends.f (a0 : Int) : Option (Bool) := if a0 = 2 then (some true) else (if a0 = 3 then (some true) else (if a0 = 5 then (some true) else (some (a0 == 8))))
set_option maxHeartbeats 8000000 in
set_option maxRecDepth 100000 in
theorem num_ends.calls (a0 : Int) (r : Bool) (w : World) (h : num_ends.f a0 = some r) :
    Calls Try.prog 75 #[.int .i64 a0] w fun e w' => e = .returned (.bool r) ∧ Drawn0 w w' := by
  have H : (if a0 = 2 then (some true) else (if a0 = 3 then (some true) else (if a0 = 5 then (some true) else (some (a0 == 8))))) = some r := h
  clear h
  by_cases c2 : a0 = 2
  · rw [if_pos c2] at H
    have c2b0 : (a0 == 2) = true := beq_iff_eq.mpr c2
    have c2b1 : (a0 != 2) = false := bne_eq_false_iff_eq.mpr c2
    clear c2
    obtain rfl := Option.some.inj H
    go_enter Try.func75, Try.ntmps75
    go_wp2
    go_ret
    exact ⟨by first | rfl | (simp; done) | (simp [*]; done), by repeat (first | exact Drawn0.refl _ | apply Drawn0.step)⟩
  · rw [if_neg c2] at H
    have c2b0 : (a0 == 2) = false := beq_eq_false_iff_ne.mpr c2
    have c2b1 : (a0 != 2) = true := bne_iff_ne.mpr c2
    by_cases c3 : a0 = 3
    · rw [if_pos c3] at H
      have c3b0 : (a0 == 3) = true := beq_iff_eq.mpr c3
      have c3b1 : (a0 != 3) = false := bne_eq_false_iff_eq.mpr c3
      clear c3
      obtain rfl := Option.some.inj H
      go_enter Try.func75, Try.ntmps75
      go_wp2
      go_ret
      exact ⟨by first | rfl | (simp; done) | (simp [*]; done), by repeat (first | exact Drawn0.refl _ | apply Drawn0.step)⟩
    · rw [if_neg c3] at H
      have c3b0 : (a0 == 3) = false := beq_eq_false_iff_ne.mpr c3
      have c3b1 : (a0 != 3) = true := bne_iff_ne.mpr c3
      by_cases c4 : a0 = 5
      · rw [if_pos c4] at H
        have c4b0 : (a0 == 5) = true := beq_iff_eq.mpr c4
        have c4b1 : (a0 != 5) = false := bne_eq_false_iff_eq.mpr c4
        clear c4
        obtain rfl := Option.some.inj H
        go_enter Try.func75, Try.ntmps75
        go_wp2
        go_ret
        exact ⟨by first | rfl | (simp; done) | (simp [*]; done), by repeat (first | exact Drawn0.refl _ | apply Drawn0.step)⟩
      · rw [if_neg c4] at H
        have c4b0 : (a0 == 5) = false := beq_eq_false_iff_ne.mpr c4
        have c4b1 : (a0 != 5) = true := bne_iff_ne.mpr c4
        obtain rfl := Option.some.inj H
        go_enter Try.func75, Try.ntmps75
        go_wp2
        go_ret
        exact ⟨by first | rfl | (simp; done) | (simp [*]; done), by repeat (first | exact Drawn0.refl _ | apply Drawn0.step)⟩

end Go.Proofs.Ytlbokaekhjjabaa.T

-- Written by a program of this session (joint.sh) out of the translation. Not trusted: Lean checks it.
namespace Go.Proofs.Ytlbokaekhjjabaa.T
open Go.RowKit Go.Proofs.YtlbokaekhjjabaaW.PrintWords Go.Proofs.YtlbokaekhjjabaaW.PrintLast Go.Proofs.YtlbokaekhjjabaaW.PrintMore
attribute [local go_sem] max2_int min2_int max_two min_two max_three min_three max_four min_four   -- for this text's walks alone
set_option linter.unusedVariables false
set_option linter.unusedSimpArgs false

/-! ### num_Scan: function 61 -/
def num_Scan.l0 : Nat → ByteArray → Int → Int → Int → Option (Int × Int)
  | 0, _, _, _, _ => none
  | k + 1, x0, x4, x8, x9 => if x9 < x8 then (if 0 ≤ x9 then (if x9 < (x0.size : Int) then ((num_step.f x4 (bt x0 x9)).bind fun t103 => (if t103 = 9 then ((num_ends.f x4).bind fun t104 => (if t104 = true then (some (x9, 0)) else (some (x9, 4)))) else (num_Scan.l0 k x0 t103 x8 (wrap64 (x9 + 1))))) else (none)) else (none)) else ((num_ends.f x4).bind fun t102 => (if t102 = true then (some ((x0.size : Int), 0)) else (some ((x0.size : Int), 3))))
def num_Scan.f (k : Nat) (a0 : ByteArray) : Option (Int × Int) := num_Scan.l0 k a0 0 (a0.size : Int) 0
theorem num_Scan.mono_l : ∀ k, (∀ y0 y1 y2 y3, LeO (num_Scan.l0 k y0 y1 y2 y3) (num_Scan.l0 (k + 1) y0 y1 y2 y3))
  | 0 => fun _ _ _ _ r h => by simp [num_Scan.l0] at h
  | k + 1 => by
    have ih0 := num_Scan.mono_l k
    · intro y0 y1 y2 y3
      unfold num_Scan.l0
      repeat' first
      | (with_reducible exact ih0 _ _ _ _)
      | (with_reducible exact LeO.refl _)
      | (with_reducible exact LeO.none _)
      | (with_reducible refine LeO.ite ?_ ?_)
      | (with_reducible refine LeO.bind ?_ (fun _ => ?_))
      | exact ih0 _ _ _ _
      | exact LeO.none _
      | refine LeO.ite ?_ ?_
      | refine LeO.bind ?_ (fun _ => ?_)
theorem num_Scan.mono : ∀ a0 k, LeO (num_Scan.f k a0) (num_Scan.f (k + 1) a0) := by
  intro a0 k
  have ih0 := num_Scan.mono_l k
  unfold num_Scan.f
  repeat' first
      | (with_reducible exact ih0 _ _ _ _)
      | (with_reducible exact LeO.refl _)
      | (with_reducible exact LeO.none _)
      | (with_reducible refine LeO.ite ?_ ?_)
      | (with_reducible refine LeO.bind ?_ (fun _ => ?_))
      | exact ih0 _ _ _ _
      | exact LeO.none _
      | refine LeO.ite ?_ ?_
      | refine LeO.bind ?_ (fun _ => ?_)
set_option maxHeartbeats 8000000 in
set_option maxRecDepth 100000 in
theorem num_Scan.calls (k : Nat) (a0 : ByteArray) (r1 : Int) (r2 : Int) (w : World) (h : num_Scan.f k a0 = some (r1, r2)) :
    Calls Try.prog 61 #[.string a0] w fun e w' => e = .returned (.tuple #[.int .i64 r1, .int .i64 r2]) ∧ Below w.heap.size w w' := by
  have HB := Aside0.mk (Below.refl w.heap.size w)
  have H : (num_Scan.l0 k a0 0 (a0.size : Int) 0) = some (r1, r2) := h
  clear h
  have H' := Aside0.mk H
  clear H
  go_enter Try.func61, Try.ntmps61
  go_wp2
  go_loopg [4, 9] k (fun kq v4 v9 w' => ∃ (x4_1 : Int) (x9_1 : Int), v4 = .int .i64 x4_1 ∧ v9 = .int .i64 x9_1 ∧ Aside0 (num_Scan.l0 kq a0 x4_1 (a0.size : Int) x9_1 = some (r1, r2)) ∧ Aside0 (kq ≤ k) ∧ Aside0 (Below w.heap.size w w'))
  case atStart => exact ⟨(0), (0), (by first | rfl | (simp; done) | (simp [*]; done)), (by first | rfl | (simp; done) | (simp [*]; done)), H', ⟨Nat.le_refl _⟩, ⟨by repeat (first | (with_reducible first | exact HB.out | apply below_alloc | apply pw_below_drewN | apply below_drew1) | exact HB.out)⟩⟩
  case round =>
    clear H'
    obtain ⟨x4_1, x9_1, rfl, rfl, HA, HK1, HB⟩ := hrel
    cases gk with
    | zero => exact absurd HA.out (by simp [num_Scan.l0])
    | succ k1 =>
      have H := HA.out
      clear HA
      simp only [num_Scan.l0] at H
      by_cases c2 : x9_1 < (a0.size : Int)
      · rw [if_pos c2] at H
        have c2b0 : decide (x9_1 < (a0.size : Int)) = true := decide_eq_true c2
        clear c2
        by_cases c3 : 0 ≤ x9_1
        · rw [if_pos c3] at H
          have c3b0 : decide (0 ≤ x9_1) = true := decide_eq_true c3
          clear c3
          by_cases c4 : x9_1 < (a0.size : Int)
          · rw [if_pos c4] at H
            have c4b0 : decide (x9_1 < (a0.size : Int)) = true := decide_eq_true c4
            clear c4
            replace H := Option.bind_eq_some_iff.mp H
            obtain ⟨t103, A60, H⟩ := H
            replace H : (if t103 = 9 then ((num_ends.f x4_1).bind fun t104 => (if t104 = true then (some (x9_1, 0)) else (some (x9_1, 4)))) else (num_Scan.l0 k1 a0 t103 (a0.size : Int) (wrap64 (x9_1 + 1)))) = some (r1, r2) := H
            have A6 := Aside0.mk A60
            clear A60
            by_cases c7 : t103 = 9
            · rw [if_pos c7] at H
              have c7b0 : (t103 == 9) = true := beq_iff_eq.mpr c7
              have c7b1 : (t103 != 9) = false := bne_eq_false_iff_eq.mpr c7
              clear c7
              replace H := Option.bind_eq_some_iff.mp H
              obtain ⟨t104, A80, H⟩ := H
              replace H : (if t104 = true then (some (x9_1, 0)) else (some (x9_1, 4))) = some (r1, r2) := H
              have A8 := Aside0.mk A80
              clear A80
              by_cases c9 : t104 = true
              · subst c9
                have H1 : (some (x9_1, 0)) = some (r1, r2) := by rw [if_pos rfl] at H; exact H
                clear H
                have H := H1
                clear H1
                simp only [Option.some.injEq, Prod.mk.injEq] at H
                obtain ⟨rfl, rfl⟩ := H
                have p5 : 0 ≤ (x9_1 : Int) := of_decide_eq_true (by first | (with_reducible assumption) | assumption)
                have q5 : x9_1 < (a0.size : Int) := of_decide_eq_true (by first | (with_reducible assumption) | assumption)
                have hx5 := bt_at a0 x9_1
                replace p5 := eq_true p5
                replace q5 := eq_true q5
                go_wp2_with (first | ((with_reducible refine gate_callee (f := 74) rfl ?_); refine goesL_ (some 16) rfl rfl Try.func74 (by kernel_rfl) rfl #[.int .i64 x4_1, .int .u8 (bt a0 x9_1)] rfl (by (try simp only [List.map_toArray, List.map_cons, List.map_nil]); first | done | rfl | (simp only [List.length_drop, List.length_take]; rfl)) ?_; (with_reducible refine (num_step.calls x4_1 (bt a0 x9_1) t103 _ A6.out).mono ?_); rintro e w10 ⟨rfl, hb⟩; refine ⟨_, rfl, ?_⟩; have n0_ := Aside0.mk (below_step (by repeat (first | (with_reducible first | exact HB.out | apply below_alloc | apply pw_below_drewN | apply below_drew1) | exact HB.out)) hb); clear HB; have HB := n0_; clear n0_; (try clear hb); (try clear hb2); (try clear hk); (try clear hi)) | ((with_reducible refine gate_callee (f := 75) rfl ?_); refine goesL_ (some 24) rfl rfl Try.func75 (by kernel_rfl) rfl #[.int .i64 x4_1] rfl (by (try simp only [List.map_toArray, List.map_cons, List.map_nil]); first | done | rfl | (simp only [List.length_drop, List.length_take]; rfl)) ?_; (with_reducible refine (num_ends.calls x4_1 true _ A8.out).mono ?_); rintro e w' ⟨rfl, ⟨nd, rfl⟩⟩; refine ⟨_, rfl, ?_⟩))
                go_ret2
                exact ⟨by first | rfl | (simp [errW_none, errW_some] <;> rfl) | (simp [*, errW_none, errW_some] <;> rfl), by repeat (first | (with_reducible first | exact HB.out | apply below_alloc | apply pw_below_drewN | apply below_drew1) | exact HB.out)⟩
              · replace c9 := Bool.eq_false_iff.mpr c9
                subst c9
                have H1 : (some (x9_1, 4)) = some (r1, r2) := by rw [if_neg (show ¬ (false = true) by decide)] at H; exact H
                clear H
                have H := H1
                clear H1
                simp only [Option.some.injEq, Prod.mk.injEq] at H
                obtain ⟨rfl, rfl⟩ := H
                have p5 : 0 ≤ (x9_1 : Int) := of_decide_eq_true (by first | (with_reducible assumption) | assumption)
                have q5 : x9_1 < (a0.size : Int) := of_decide_eq_true (by first | (with_reducible assumption) | assumption)
                have hx5 := bt_at a0 x9_1
                replace p5 := eq_true p5
                replace q5 := eq_true q5
                go_wp2_with (first | ((with_reducible refine gate_callee (f := 74) rfl ?_); refine goesL_ (some 16) rfl rfl Try.func74 (by kernel_rfl) rfl #[.int .i64 x4_1, .int .u8 (bt a0 x9_1)] rfl (by (try simp only [List.map_toArray, List.map_cons, List.map_nil]); first | done | rfl | (simp only [List.length_drop, List.length_take]; rfl)) ?_; (with_reducible refine (num_step.calls x4_1 (bt a0 x9_1) t103 _ A6.out).mono ?_); rintro e w11 ⟨rfl, hb⟩; refine ⟨_, rfl, ?_⟩; have n0_ := Aside0.mk (below_step (by repeat (first | (with_reducible first | exact HB.out | apply below_alloc | apply pw_below_drewN | apply below_drew1) | exact HB.out)) hb); clear HB; have HB := n0_; clear n0_; (try clear hb); (try clear hb2); (try clear hk); (try clear hi)) | ((with_reducible refine gate_callee (f := 75) rfl ?_); refine goesL_ (some 24) rfl rfl Try.func75 (by kernel_rfl) rfl #[.int .i64 x4_1] rfl (by (try simp only [List.map_toArray, List.map_cons, List.map_nil]); first | done | rfl | (simp only [List.length_drop, List.length_take]; rfl)) ?_; (with_reducible refine (num_ends.calls x4_1 false _ A8.out).mono ?_); rintro e w' ⟨rfl, ⟨nd, rfl⟩⟩; refine ⟨_, rfl, ?_⟩))
                go_ret2
                exact ⟨by first | rfl | (simp [errW_none, errW_some] <;> rfl) | (simp [*, errW_none, errW_some] <;> rfl), by repeat (first | (with_reducible first | exact HB.out | apply below_alloc | apply pw_below_drewN | apply below_drew1) | exact HB.out)⟩
            · rw [if_neg c7] at H
              have c7b0 : (t103 == 9) = false := beq_eq_false_iff_ne.mpr c7
              have c7b1 : (t103 != 9) = true := bne_iff_ne.mpr c7
              have H' := Aside0.mk H
              clear H
              have p5 : 0 ≤ (x9_1 : Int) := of_decide_eq_true (by first | (with_reducible assumption) | assumption)
              have q5 : x9_1 < (a0.size : Int) := of_decide_eq_true (by first | (with_reducible assumption) | assumption)
              have hx5 := bt_at a0 x9_1
              replace p5 := eq_true p5
              replace q5 := eq_true q5
              go_wp2_with (first | ((with_reducible refine gate_callee (f := 74) rfl ?_); refine goesL_ (some 16) rfl rfl Try.func74 (by kernel_rfl) rfl #[.int .i64 x4_1, .int .u8 (bt a0 x9_1)] rfl (by (try simp only [List.map_toArray, List.map_cons, List.map_nil]); first | done | rfl | (simp only [List.length_drop, List.length_take]; rfl)) ?_; (with_reducible refine (num_step.calls x4_1 (bt a0 x9_1) t103 _ A6.out).mono ?_); rintro e w12 ⟨rfl, hb⟩; refine ⟨_, rfl, ?_⟩; have n0_ := Aside0.mk (below_step (by repeat (first | (with_reducible first | exact HB.out | apply below_alloc | apply pw_below_drewN | apply below_drew1) | exact HB.out)) hb); clear HB; have HB := n0_; clear n0_; (try clear hb); (try clear hb2); (try clear hk); (try clear hi)))
              go_roundg k1
              case measure => have := HK1.out; omega
              case rel => exact ⟨(t103), (wrap64 (x9_1 + 1)), (by first | rfl | (simp; done) | (simp [*]; done)), (by first | rfl | (simp; done) | (simp [*]; done)), H', ⟨by have := HK1.out; omega⟩, ⟨by repeat (first | (with_reducible first | exact HB.out | apply below_alloc | apply pw_below_drewN | apply below_drew1) | exact HB.out)⟩⟩
          · rw [if_neg c4] at H
            exact absurd H (by simp)
        · rw [if_neg c3] at H
          exact absurd H (by simp)
      · rw [if_neg c2] at H
        have c2b0 : decide (x9_1 < (a0.size : Int)) = false := decide_eq_false c2
        clear c2
        replace H := Option.bind_eq_some_iff.mp H
        obtain ⟨t102, A130, H⟩ := H
        replace H : (if t102 = true then (some ((a0.size : Int), 0)) else (some ((a0.size : Int), 3))) = some (r1, r2) := H
        have A13 := Aside0.mk A130
        clear A130
        by_cases c14 : t102 = true
        · subst c14
          have H1 : (some ((a0.size : Int), 0)) = some (r1, r2) := by rw [if_pos rfl] at H; exact H
          clear H
          have H := H1
          clear H1
          simp only [Option.some.injEq, Prod.mk.injEq] at H
          obtain ⟨rfl, rfl⟩ := H
          go_wp2_with (first | ((with_reducible refine gate_callee (f := 75) rfl ?_); refine goesL_ (some 28) rfl rfl Try.func75 (by kernel_rfl) rfl #[.int .i64 x4_1] rfl (by (try simp only [List.map_toArray, List.map_cons, List.map_nil]); first | done | rfl | (simp only [List.length_drop, List.length_take]; rfl)) ?_; (with_reducible refine (num_ends.calls x4_1 true _ A13.out).mono ?_); rintro e w' ⟨rfl, ⟨nd, rfl⟩⟩; refine ⟨_, rfl, ?_⟩))
          go_ret2
          exact ⟨by first | rfl | (simp [errW_none, errW_some] <;> rfl) | (simp [*, errW_none, errW_some] <;> rfl), by repeat (first | (with_reducible first | exact HB.out | apply below_alloc | apply pw_below_drewN | apply below_drew1) | exact HB.out)⟩
        · replace c14 := Bool.eq_false_iff.mpr c14
          subst c14
          have H1 : (some ((a0.size : Int), 3)) = some (r1, r2) := by rw [if_neg (show ¬ (false = true) by decide)] at H; exact H
          clear H
          have H := H1
          clear H1
          simp only [Option.some.injEq, Prod.mk.injEq] at H
          obtain ⟨rfl, rfl⟩ := H
          go_wp2_with (first | ((with_reducible refine gate_callee (f := 75) rfl ?_); refine goesL_ (some 28) rfl rfl Try.func75 (by kernel_rfl) rfl #[.int .i64 x4_1] rfl (by (try simp only [List.map_toArray, List.map_cons, List.map_nil]); first | done | rfl | (simp only [List.length_drop, List.length_take]; rfl)) ?_; (with_reducible refine (num_ends.calls x4_1 false _ A13.out).mono ?_); rintro e w' ⟨rfl, ⟨nd, rfl⟩⟩; refine ⟨_, rfl, ?_⟩))
          go_ret2
          exact ⟨by first | rfl | (simp [errW_none, errW_some] <;> rfl) | (simp [*, errW_none, errW_some] <;> rfl), by repeat (first | (with_reducible first | exact HB.out | apply below_alloc | apply pw_below_drewN | apply below_drew1) | exact HB.out)⟩

end Go.Proofs.Ytlbokaekhjjabaa.T

-- Written by a program of this session (joint.sh) out of the translation. Not trusted: Lean checks it.
namespace Go.Proofs.Ytlbokaekhjjabaa.T
open Go.RowKit Go.Proofs.YtlbokaekhjjabaaW.PrintWords Go.Proofs.YtlbokaekhjjabaaW.PrintLast Go.Proofs.YtlbokaekhjjabaaW.PrintMore
attribute [local go_sem] max2_int min2_int max_two min_two max_three min_three max_four min_four   -- for this text's walks alone
set_option linter.unusedVariables false
set_option linter.unusedSimpArgs false

/-! ### token_word: function 62 -/
def token_word.f (a0 : Int) : Option (ByteArray) := if 0 ≤ a0 ∧ a0 ≤ 255 then some (wordF a0) else none
theorem token_word.calls (a0 : Int) (r : ByteArray) (w : World) (h : token_word.f a0 = some r) :
    Calls Try.prog 62 #[.int .u8 a0] w fun e w' => e = .returned (.string r) ∧ Below w.heap.size w w' := by
  unfold token_word.f at h
  split at h
  · rename_i hs
    cases h
    exact word_any a0 w hs.1 hs.2
  · cases h

end Go.Proofs.Ytlbokaekhjjabaa.T

/-
  esc's scan looks at the bytes up to its place alone; a text that is cut is short. Without Go.
-/
namespace Go.Proofs.Ytlbokaekhjjabaa
open Go.RowKit
set_option linter.unusedVariables false

/-- Two texts that are the same in the first n bytes. -/
def Agr (s t : ByteArray) (n : Nat) : Prop := n ≤ s.size ∧ n ≤ t.size ∧ s.data.toList.take n = t.data.toList.take n
theorem Agr.mono {s t : ByteArray} {n m : Nat} (h : Agr s t n) (hm : m ≤ n) : Agr s t m := by
  obtain ⟨h1, h2, h3⟩ := h
  refine ⟨by omega, by omega, ?_⟩
  have := congrArg (List.take m) h3
  rwa [List.take_take, List.take_take, Nat.min_eq_left hm] at this
theorem Agr.byte {s t : ByteArray} {n i : Nat} (h : Agr s t n) (hi : i < n) : byteAt s i = byteAt t i := by
  obtain ⟨h1, h2, h3⟩ := h
  have : (s.data.toList.take n)[i]? = (t.data.toList.take n)[i]? := by rw [h3]
  rw [List.getElem?_take_of_lt hi, List.getElem?_take_of_lt hi] at this
  unfold byteAt
  rw [List.getD_eq_getElem?_getD, List.getD_eq_getElem?_getD, this]
/-- How many bytes a reader has looked at. -/
def reach (r : Nat × Int) : Nat := if r.2 = 4 then r.1 + 1 else r.1
theorem reach_0 (p : Nat) : reach (p, 0) = p := by simp [reach]
theorem reach_3 (p : Nat) : reach (p, 3) = p := by simp [reach]
theorem reach_4 (p : Nat) : reach (p, 4) = p + 1 := by simp [reach]

structure Loc {α : Type} (s : ByteArray) (p : Nat) (R : ByteArray → α × Nat × Int) : Prop where
  at0 : (R s).2.2 = 0 → p ≤ (R s).2.1 ∧ (R s).2.1 ≤ s.size
  at3 : (R s).2.2 = 3 → (R s).2.1 = s.size
  at4 : (R s).2.2 = 4 → p ≤ (R s).2.1 + 1 ∧ (R s).2.1 < s.size
  err : (R s).2.2 = 0 ∨ (R s).2.2 = 3 ∨ (R s).2.2 = 4
  same : ∀ t, Agr s t (reach (R s).2) → (R s).2.2 ≠ 3 → (R t).2 = (R s).2 ∧ ((R s).2.2 = 0 → R t = R s)
  cut : ∀ t, Agr s t t.size → p ≤ t.size → t.size < reach (R s).2 → (R t).2 = (t.size, 3)

/-- One reader behind another. -/
def bnd {α β : Type} (R : ByteArray → α × Nat × Int) (Q : α → ByteArray → Nat → Int → β × Nat × Int) (t : ByteArray) : β × Nat × Int := Q (R t).1 t (R t).2.1 (R t).2.2
theorem Loc.bind {α β : Type} {s : ByteArray} {p : Nat} (hp : p ≤ s.size) {R : ByteArray → α × Nat × Int} {Q : α → ByteArray → Nat → Int → β × Nat × Int}
    (h : Loc s p R) (hq : ∀ v q, R s = (v, q, 0) → p ≤ q → q ≤ s.size → Loc s q (fun t => Q v t q 0)) (he : ∀ v t q e, e ≠ 0 → (Q v t q e).2 = (q, e)) :
    Loc s p (bnd R Q) := by
  obtain ⟨v, q, e, hr⟩ : ∃ v q e, R s = (v, q, e) := ⟨_, _, _, rfl⟩
  obtain ⟨a0, a3, a4, ae, aS, ac⟩ := h
  rw [hr] at a0 a3 a4 ae aS ac
  dsimp only at a0 a3 a4 ae aS ac
  by_cases h0 : e = 0
  · subst h0
    obtain ⟨a1, a2⟩ := a0 rfl
    obtain ⟨b0, b3, b4, be, bs, bc⟩ := hq v q hr a1 a2
    have hreach : q ≤ reach (Q v s q 0).2 := by
      unfold reach
      rcases be with h | h | h
      · rw [h, if_neg (by decide)]; exact (b0 h).1
      · rw [h, if_neg (by decide), b3 h]; exact a2
      · rw [h, if_pos rfl]; exact (b4 h).1
    have e1 : bnd R Q s = Q v s q 0 := by show Q (R s).1 s (R s).2.1 (R s).2.2 = _; rw [hr]
    have hs : ∀ t, Agr s t q → bnd R Q t = Q v t q 0 := by
      intro t ht
      have := (aS t (by rw [reach_0]; exact ht) (by decide)).2 rfl
      show Q (R t).1 t (R t).2.1 (R t).2.2 = _
      rw [this]
    constructor
    · rw [e1]; intro h; have := b0 h; exact ⟨by omega, this.2⟩
    · rw [e1]; exact b3
    · rw [e1]; intro h; have := b4 h; exact ⟨by omega, this.2⟩
    · rw [e1]; exact be
    · rw [e1]
      intro t ht h3
      rw [hs t (ht.mono hreach)]
      exact bs t ht h3
    · rw [e1]
      intro t ht hpt hl
      by_cases hqt : q ≤ t.size
      · rw [hs t (ht.mono hqt)]
        exact bc t ht hqt hl
      · have := ac t ht hpt (by rw [reach_0]; omega)
        show (Q (R t).1 t (R t).2.1 (R t).2.2).2 = _
        rw [he _ _ _ _ (by rw [this]; show (3 : Int) ≠ 0; decide)]
        exact this
  · have e1 : (bnd R Q s).2 = (q, e) := by show (Q (R s).1 s (R s).2.1 (R s).2.2).2 = _; rw [hr]; exact he _ _ _ _ h0
    constructor
    · rw [e1]; intro h; exact absurd h h0
    · rw [e1]; exact a3
    · rw [e1]; exact a4
    · rw [e1]; exact ae
    · rw [e1]
      intro t ht h3
      have := (aS t ht h3).1
      refine ⟨?_, fun h => absurd h h0⟩
      show (Q (R t).1 t (R t).2.1 (R t).2.2).2 = _
      rw [he _ _ _ _ (by rw [this]; exact h0)]
      exact this
    · rw [e1]
      intro t ht hpt hl
      have := ac t ht hpt hl
      show (Q (R t).1 t (R t).2.1 (R t).2.2).2 = _
      rw [he _ _ _ _ (by rw [this]; show (3 : Int) ≠ 0; decide)]
      exact this

theorem Loc.ret {α : Type} {s : ByteArray} {p : Nat} (hp : p ≤ s.size) (x : α) : Loc s p (fun _ => (x, p, 0)) := by
  constructor
  · intro _; exact ⟨Nat.le_refl _, hp⟩
  · intro h; cases h
  · intro h; cases h
  · exact .inl rfl
  · intro t _ _; exact ⟨rfl, fun _ => rfl⟩
  · intro t _ h1 h2; rw [reach_0] at h2; omega

theorem nx_loc (s : ByteArray) (is : Int → Bool) (p : Nat) (hp : p ≤ s.size) : Loc s p (fun t => nx t is p 0) := by
  have e0 : ∀ t : ByteArray, nx t is p 0 = if p < t.size then (if is (byteAt t p) then (byteAt t p, p + 1, 0) else (0, p, 4)) else (0, p, 3) := fun t => by unfold nx; rw [if_neg (by decide)]
  by_cases h : p < s.size
  · by_cases h1 : is (byteAt s p) = true
    · have e : nx s is p 0 = (byteAt s p, p + 1, 0) := by rw [e0, if_pos h, if_pos h1]
      constructor
      · rw [e]; intro _; exact ⟨Nat.le_succ _, h⟩
      · rw [e]; intro h; cases h
      · rw [e]; intro h; cases h
      · rw [e]; exact .inl rfl
      · rw [e]
        intro t ht _
        have hr := reach_0 (p + 1)
        rw [hr] at ht
        have hb := ht.byte (i := p) (by omega)
        have e2 : nx t is p 0 = (byteAt s p, p + 1, 0) := by rw [e0, if_pos (by have := ht.2.1; omega), ← hb, if_pos h1]
        rw [e2]; exact ⟨rfl, fun _ => rfl⟩
      · rw [e]
        intro t ht h2 h3
        have hr := reach_0 (p + 1)
        rw [hr] at h3
        have : t.size = p := by omega
        rw [e0, if_neg (by omega), this]
    · have e : nx s is p 0 = (0, p, 4) := by rw [e0, if_pos h, if_neg h1]
      have hr := reach_4 p
      constructor
      · rw [e]; intro h; cases h
      · rw [e]; intro h; cases h
      · rw [e]; intro _; exact ⟨Nat.le_succ _, h⟩
      · rw [e]; exact .inr (.inr rfl)
      · rw [e]
        intro t ht _
        rw [hr] at ht
        have hb := ht.byte (i := p) (by omega)
        have e2 : nx t is p 0 = (0, p, 4) := by rw [e0, if_pos (by have := ht.2.1; omega), ← hb, if_neg h1]
        rw [e2]; exact ⟨rfl, fun _ => rfl⟩
      · rw [e]
        intro t ht h2 h3
        rw [hr] at h3
        have : t.size = p := by omega
        rw [e0, if_neg (by omega), this]
  · have e : nx s is p 0 = (0, p, 3) := by rw [e0, if_neg h]
    have hr := reach_3 p
    constructor
    · rw [e]; intro h; cases h
    · rw [e]; intro _; show p = s.size; omega
    · rw [e]; intro h; cases h
    · rw [e]; exact .inr (.inl rfl)
    · rw [e]; intro t _ h; exact absurd rfl h
    · rw [e]
      intro t ht h2 h3
      rw [hr] at h3
      omega
theorem nx_pass (s : ByteArray) (is : Int → Bool) (p : Nat) {e : Int} (he : e ≠ 0) : nx s is p e = (0, p, e) := by unfold nx; rw [if_pos he]
theorem unitL_pass (s : ByteArray) (low : Bool) (k : Nat) : ∀ (i u : Int) (p : Nat) {e : Int}, e ≠ 0 → (unitL s low k i u p e).2 = (p, e) := by
  induction k with
  | zero => intro i u p e h; rfl
  | succ k ih =>
    intro i u p e h
    simp only [unitL]
    rw [nx_pass s _ p h]
    exact ih _ _ _ h
theorem unitL_loc (s : ByteArray) (low : Bool) (k : Nat) : ∀ (i u : Int) (p : Nat), p ≤ s.size → Loc s p (fun t => unitL t low k i u p 0) := by
  induction k with
  | zero => intro i u p hp; exact Loc.ret hp u
  | succ k ih =>
    intro i u p hp
    exact Loc.bind (Q := fun v t q e => unitL t low k (i + 1) (u * 16 + max (dig v) 0) q e) hp (nx_loc s (unitIs low i u) p hp) (fun v q _ _ hq => ih _ _ q hq) (fun v t q e he => unitL_pass t low k _ _ q he)
theorem escF_loc (s : ByteArray) (p : Nat) (hp : p ≤ s.size) : Loc s p (fun t => escF t p 0) := by
  refine Loc.bind (Q := fun v t q e => if v ≠ 117 then ([unl letterPairs v], q, e) else
    let a := unitF t false q e
    if a.1 / 1024 = 54 then
      let b := nx t (fun c => c == 92) a.2.1 a.2.2
      let c := nx t (fun c => c == 117) b.2.1 b.2.2
      let d := unitF t true c.2.1 c.2.2
      (encL (65536 + a.1 % 1024 * 1024 + d.1 % 1024), d.2.1, d.2.2)
    else (encL a.1, a.2.1, a.2.2)) hp (nx_loc s escIs p hp) (fun v q _ _ hq => ?_) (fun v t q e he => ?_)
  · by_cases hv : v ≠ 117
    · simp only [if_pos hv]; exact Loc.ret hq _
    · simp only [if_neg hv]
      refine Loc.bind (Q := fun u t q e => if u / 1024 = 54 then
          let b := nx t (fun c => c == 92) q e
          let c := nx t (fun c => c == 117) b.2.1 b.2.2
          let d := unitF t true c.2.1 c.2.2
          (encL (65536 + u % 1024 * 1024 + d.1 % 1024), d.2.1, d.2.2)
        else (encL u, q, e)) hq (unitL_loc s false 4 0 0 q hq) (fun u q _ _ hq => ?_) (fun u t q e he => ?_)
      · by_cases hu : u / 1024 = 54
        · simp only [if_pos hu]
          refine Loc.bind (Q := fun _ t q e =>
            let c := nx t (fun c => c == 117) q e
            let d := unitF t true c.2.1 c.2.2
            (encL (65536 + u % 1024 * 1024 + d.1 % 1024), d.2.1, d.2.2)) hq (nx_loc s (fun c => c == 92) q hq) (fun _ q _ _ hq => ?_) (fun _ t q e he => ?_)
          · refine Loc.bind (Q := fun _ t q e =>
              let d := unitF t true q e
              (encL (65536 + u % 1024 * 1024 + d.1 % 1024), d.2.1, d.2.2)) hq (nx_loc s (fun c => c == 117) q hq) (fun _ q _ _ hq => ?_) (fun _ t q e he => ?_)
            · refine Loc.bind (Q := fun d t q e => (encL (65536 + u % 1024 * 1024 + d % 1024), q, e)) hq (unitL_loc s true 4 0 0 q hq) (fun d q _ _ hq => ?_) (fun d t q e he => rfl)
              exact Loc.ret hq _
            · exact unitL_pass t true 4 0 0 q he
          · dsimp only
            rw [nx_pass t _ q he]
            exact unitL_pass t true 4 0 0 q he
        · simp only [if_neg hu]; exact Loc.ret hq _
      · by_cases hu : u / 1024 = 54
        · simp only [if_pos hu]
          rw [nx_pass t _ q he, nx_pass t _ q he]
          exact unitL_pass t true 4 0 0 q he
        · simp only [if_neg hu]
  · by_cases hv : v ≠ 117
    · simp only [if_pos hv]
    · simp only [if_neg hv]
      have h1 := unitL_pass t false 4 0 0 q he
      have h2 : (unitF t false q e).2 = (q, e) := h1
      rw [h2]
      by_cases hu : (unitF t false q e).1 / 1024 = 54
      · simp only [if_pos hu]
        rw [nx_pass t _ q he, nx_pass t _ q he]
        exact unitL_pass t true 4 0 0 q he
      · simp only [if_neg hu]
end Go.Proofs.Ytlbokaekhjjabaa

/-
  Scan as a reader: it looks at the bytes up to its place alone; a text that is cut is short. Without Go.
-/
namespace Go.Proofs.Ytlbokaekhjjabaa
open Go.RowKit
set_option linter.unusedVariables false

/-- Any two numbers of rounds that suffice tell the same. -/
theorem scn_fuel (s : ByteArray) (k : Nat) : ∀ (k' p : Nat) (e : Int) (out : List Int), left s p e < k → left s p e < k' → p ≤ s.size → scn s k p e out = scn s k' p e out := by
  induction k with
  | zero => intro k' p e out h; omega
  | succ k ih =>
    intro k' p e out hk hk' hp
    cases k' with
    | zero => omega
    | succ k' =>
      simp only [scn]
      by_cases h0 : e ≠ 0
      · rw [if_pos h0, if_pos h0]
      rw [if_neg h0, if_neg h0]
      have h0' : e = 0 := by omega
      subst h0'
      have a1 := nx_at s ge32 p 0 hp
      by_cases h1 : (nx s ge32 p 0).2.2 ≠ 0
      · rw [if_pos h1, if_pos h1]
      rw [if_neg h1, if_neg h1]
      have hn := nx_ok (show (nx s ge32 p 0).2.2 = 0 by omega)
      rw [hn.2.2.2] at a1 ⊢
      dsimp only at a1 ⊢
      unfold left at hk hk'
      rw [if_pos rfl] at hk hk'
      by_cases h2 : byteAt s p = 34
      · rw [if_pos h2, if_pos h2]
      rw [if_neg h2, if_neg h2]
      by_cases h3 : byteAt s p = 92
      · rw [if_pos h3, if_pos h3]
        have b1 := escF_ok s (p + 1) 0 a1
        have hl : left s (escF s (p + 1) 0).2.1 (escF s (p + 1) 0).2.2 < k ∧ left s (escF s (p + 1) 0).2.1 (escF s (p + 1) 0).2.2 < k' := by
          unfold left; split
          · rename_i h; have := b1.2.2.2 h; omega
          · omega
        exact ih _ _ _ _ hl.1 hl.2 b1.2.1
      rw [if_neg h3, if_neg h3]
      have c1 := plainN_ok s p hn.2.1
      have hl : left s (p + (plainN s p).1) (plainN s p).2 < k ∧ left s (p + (plainN s p).1) (plainN s p).2 < k' := by
        unfold left; split
        · rename_i h; have := c1.2.1 h; omega
        · omega
      exact ih _ _ _ _ hl.1 hl.2 c1.1

/-- The rest of Scan from a place on. -/
def scnF (s : ByteArray) (p : Nat) (e : Int) (out : List Int) : List Int × Nat × Int := scn s (2 * s.size + 2) p e out
theorem left_lt (s : ByteArray) (p : Nat) (e : Int) : left s p e < 2 * s.size + 2 := by unfold left; split <;> omega
theorem scnF_pass (s : ByteArray) (p : Nat) {e : Int} (out : List Int) (he : e ≠ 0) : scnF s p e out = ([], p, e) := by
  unfold scnF
  simp only [scn]
  rw [if_pos he]
/-- What stands behind a byte that next told. -/
def behind (p : Nat) (out : List Int) (c : Int) (s : ByteArray) (q : Nat) (e : Int) : List Int × Nat × Int :=
  if e ≠ 0 then ([], q, e) else if c = 34 then (out, q, 0)
  else if c = 92 then scnF s (escF s q 0).2.1 (escF s q 0).2.2 (out ++ (escF s q 0).1)
  else scnF s (p + (plainN s p).1) (plainN s p).2 (out ++ bytesOf s p (plainN s p).1)
theorem scnF_step (s : ByteArray) (p : Nat) (out : List Int) : scnF s p 0 out = behind p out (nx s ge32 p 0).1 s (nx s ge32 p 0).2.1 (nx s ge32 p 0).2.2 := by
  by_cases hp : p ≤ s.size
  · have e1 : scnF s p 0 out = scn s (2 * s.size + 3) p 0 out := scn_fuel s _ _ p 0 out (left_lt s p 0) (Nat.lt_succ_of_lt (left_lt s p 0)) hp
    rw [e1]
    unfold behind
    simp only [scn]
    rw [if_neg (by decide)]
    rfl
  · have e : nx s ge32 p 0 = (0, p, 3) := by unfold nx; rw [if_neg (by decide), if_neg (by omega)]
    unfold scnF behind
    simp only [scn]
    rw [e, if_neg (by decide), if_pos (by show (3 : Int) ≠ 0; decide), if_pos (by show (3 : Int) ≠ 0; decide)]

theorem enc_ptL {l : List UInt8} (h : (ptL l).2 ≠ 0) : ∃ x t, l = x ++ t ∧ (ptL l).2 = x.length ∧ 0 < x.length ∧ (encL (ptL l).1).map byteOf = x := by
  rcases enc_pt l with h1 | h1
  · rw [h1] at h; exact absurd rfl h
  · exact h1
theorem ptL_app {x : List UInt8} {c : Int} (hx : (encL c).map byteOf = x) (h0 : 0 < x.length) (t : List UInt8) : ptL (x ++ t) = (c, (x.length : Int)) := by
  have hn : encL c ≠ [] := by intro h; rw [h] at hx; subst hx; simp at h0
  rw [← hx, pt_enc c t hn, List.length_map]

/-- One byte more, behind a first one. -/
theorem run_more {n k m : Int} {t : List UInt8} {st : St} (h1 : runL t (n, k, m) = some st) (h2 : st.1 ≤ 0) (hn : 0 < n) :
    ∃ d t', t = d :: t' ∧ ¬ ((d.toNat : Int) < k ∨ (d.toNat : Int) > m) ∧ runL t' (n - 1, 128, 191) = some st := by
  cases t with
  | nil => cases h1; exact absurd h2 (by dsimp only; omega)
  | cons d t' =>
    simp only [runL] at h1
    rw [stp_in hn] at h1
    by_cases hd : (d.toNat : Int) < k ∨ (d.toNat : Int) > m
    · rw [if_pos hd] at h1; cases h1
    · rw [if_neg hd] at h1; exact ⟨d, t', rfl, hd, h1⟩
/-- A text that is right and not empty begins with a code point. -/
theorem whole_pt {l : List UInt8} (h : Whole l) (hl : l ≠ []) : (ptL l).2 ≠ 0 := by
  obtain ⟨st, h1, h2⟩ := h
  cases l with
  | nil => exact absurd rfl hl
  | cons c t =>
    rcases row_cases c with h | ⟨_, h⟩ | ⟨_, h⟩ | ⟨q1, q2, l, m, _, h⟩ | ⟨q1, q2, l, m, _, h⟩
    · simp only [runL] at h1
      have : stp st0 c.toNat (-1) = none := by unfold stp; rw [if_neg (by decide), h, if_pos (.inl rfl)]
      rw [this] at h1; cases h1
    · rw [ptL_1 _ _ _ _ _ _ h]; dsimp only; omega
    · rw [run_first h (by decide)] at h1
      obtain ⟨d, t', rfl, hd, h1⟩ := run_more h1 h2 (by decide)
      rw [ptL_2 _ _ _ _ _ _ _ h, if_neg hd]; dsimp only; omega
    · rw [run_first h (by decide)] at h1
      obtain ⟨d, t', rfl, hd, h1⟩ := run_more h1 h2 (by decide)
      obtain ⟨d', t', rfl, hd', h1⟩ := run_more h1 h2 (by decide)
      rw [ptL_3 _ _ _ _ _ _ _ _ h, if_neg hd, if_neg hd']; dsimp only; omega
    · rw [run_first h (by decide)] at h1
      obtain ⟨d, t', rfl, hd, h1⟩ := run_more h1 h2 (by decide)
      obtain ⟨d', t', rfl, hd', h1⟩ := run_more h1 h2 (by decide)
      obtain ⟨d'', t', rfl, hd'', h1⟩ := run_more h1 h2 (by decide)
      rw [ptL_4 _ _ _ _ _ _ _ _ _ h, if_neg hd, if_neg hd', if_neg hd'']; dsimp only; omega
theorem pt_more {a : List UInt8} (h : (ptL a).2 ≠ 0) (r : List UInt8) : (ptL (a ++ r)).2 ≠ 0 := by
  obtain ⟨x, t, h1, h2, h3, h4⟩ := enc_ptL h
  rw [h1, List.append_assoc, ptL_app h4 h3]
  dsimp only; omega

/-- A plain piece, over a list. -/
def plL (l : List UInt8) : Nat × Int := if (ptL l).2 = 0 then ((chkL l st0 0).1.toNat, (chkL l st0 0).2) else ((ptL l).2.toNat, 0)
theorem plL_A {x : List UInt8} {c : Int} (hx : (encL c).map byteOf = x) (h0 : 0 < x.length) (r : List UInt8) : plL (x ++ r) = (x.length, 0) := by
  unfold plL
  rw [ptL_app hx h0, if_neg (by dsimp only; omega)]
  rfl
theorem plL_B {a r : List UInt8} {c : UInt8} {st : St} (h : (ptL a).2 = 0) (h1 : runL a st0 = some st) (h2 : stp st c.toNat (-1) = none) : plL (a ++ c :: r) = (a.length, 4) := by
  have hz : (ptL (a ++ c :: r)).2 = 0 := by
    refine Classical.byContradiction fun hn => ?_
    obtain ⟨x, t, e1, e2, e3, e4⟩ := enc_ptL hn
    have hw : Whole x := by rw [← e4]; exact whole_enc _
    rcases List.append_eq_append_iff.mp e1 with ⟨a', rfl, ha⟩ | ⟨c', rfl, hc⟩
    · cases a' with
      | nil =>
        rw [List.append_nil] at e3 e4
        have := ptL_app e4 e3 []
        rw [List.append_nil] at this
        rw [this] at h
        dsimp only at h; omega
      | cons d z =>
        rw [List.cons_append] at ha
        obtain ⟨rfl, _⟩ := List.cons.inj ha
        obtain ⟨st', r1, r2⟩ := hw
        rw [runL_append, h1] at r1
        simp only [Option.bind_some, runL] at r1
        rw [h2] at r1
        cases r1
    · have := ptL_app e4 e3 c'
      rw [this] at h
      dsimp only at h; omega
  unfold plL
  rw [if_pos hz, chkL_err 0 h1 h2]
  simp
theorem plL_C {l : List UInt8} {st : St} (h : (ptL l).2 = 0) (h1 : runL l st0 = some st) (h2 : 0 < st.1) : plL l = (l.length, 3) := by
  unfold plL
  rw [if_pos h, chkL_run 0 h1, if_pos (by omega)]
  simp
theorem plL_cases {l : List UInt8} (hl : l ≠ []) : (∃ x r c, l = x ++ r ∧ (encL c).map byteOf = x ∧ 0 < x.length) ∨
    (∃ a c r st, l = a ++ c :: r ∧ (ptL a).2 = 0 ∧ runL a st0 = some st ∧ stp st c.toNat (-1) = none) ∨ (∃ st, (ptL l).2 = 0 ∧ runL l st0 = some st ∧ 0 < st.1) := by
  by_cases h : (ptL l).2 = 0
  · right
    rcases run_or l st0 with ⟨st, h1⟩ | ⟨a, c, b, st, rfl, h1, h2⟩
    · right
      refine ⟨st, h, h1, Classical.byContradiction fun hn => ?_⟩
      exact whole_pt ⟨st, h1, by omega⟩ hl h
    · left
      exact ⟨a, c, b, st, rfl, Classical.byContradiction fun hn => pt_more hn _ h, h1, h2⟩
  · left
    obtain ⟨x, t, h1, h2, h3, h4⟩ := enc_ptL h
    exact ⟨x, t, _, h1, h4, h3⟩
theorem run_pre {a b : List UInt8} {st : St} (h : runL (a ++ b) st0 = some st) : ∃ st', runL a st0 = some st' := by
  rw [runL_append] at h
  cases h1 : runL a st0 with
  | none => rw [h1] at h; cases h
  | some st' => exact ⟨st', rfl⟩
theorem plL_short {l r : List UInt8} {st : St} (hl : l ≠ []) (h : (ptL l).2 = 0) (h1 : runL l st0 = some st) : plL l = (l.length, 3) :=
  plL_C h h1 (Classical.byContradiction fun hn => whole_pt ⟨st, h1, by omega⟩ hl h)
/-- A piece that is cut is short. -/
theorem plL_cut {l l' r : List UInt8} (e : l = l' ++ r) (hl : l' ≠ []) (h : l'.length < reach (plL l)) : plL l' = (l'.length, 3) := by
  have hl0 : l ≠ [] := by rw [e]; simp [hl]
  have pre : ∀ a r', a = l' ++ r' → (ptL a).2 = 0 → (∃ st, runL a st0 = some st) → plL l' = (l'.length, 3) := by
    intro a r' ha h0 ⟨st, hst⟩
    rw [ha] at h0 hst
    obtain ⟨st', h1⟩ := run_pre hst
    exact plL_short (r := []) hl (Classical.byContradiction fun hn => pt_more hn _ h0) h1
  rcases plL_cases hl0 with ⟨x, r', c, h1, h2, h3⟩ | ⟨a, c, r', st, h1, h2, h3, h4⟩ | ⟨st, h1, h2, h3⟩
  · rw [h1, plL_A h2 h3] at h
    have hlx : l'.length < x.length := h
    have hx : ∃ x', x = l' ++ x' := by
      rcases List.append_eq_append_iff.mp (h1.symm.trans e) with ⟨a', ha, _⟩ | ⟨c', hc, _⟩
      · have := congrArg List.length ha; rw [List.length_append] at this; omega
      · exact ⟨c', hc⟩
    obtain ⟨x', hx⟩ := hx
    have hw : Whole x := by rw [← h2]; exact whole_enc _
    obtain ⟨st, r1, r2⟩ := hw
    rw [hx] at r1
    obtain ⟨st', r3⟩ := run_pre r1
    refine plL_short (r := []) hl (Classical.byContradiction fun hn => ?_) r3
    obtain ⟨y, t, e1, e2, e3, e4⟩ := enc_ptL hn
    have p1 := ptL_app h2 h3 r'
    have p2 := ptL_app e4 e3 (t ++ r)
    rw [← List.append_assoc, ← e1, ← e, h1, p1] at p2
    have := congrArg Prod.snd p2
    have := congrArg List.length e1
    rw [List.length_append] at this
    dsimp only at *; omega
  · rw [h1, plL_B h2 h3 h4] at h
    have hla : l'.length < a.length + 1 := h
    rcases List.append_eq_append_iff.mp (h1.symm.trans e) with ⟨a', ha, _⟩ | ⟨c', hc, _⟩
    · have := congrArg List.length ha
      rw [List.length_append] at this
      have : a' = [] := List.eq_nil_of_length_eq_zero (by omega)
      rw [this, List.append_nil] at ha
      exact pre a [] (by rw [ha, List.append_nil]) h2 ⟨st, h3⟩
    · exact pre a c' hc h2 ⟨st, h3⟩
  · exact pre l r e h1 ⟨st, h2⟩
/-- What a piece looks at. -/
theorem plL_same {l m : List UInt8} (hl : l ≠ []) (h3 : (plL l).2 ≠ 3) (h : l.take (reach (plL l)) = m.take (reach (plL l))) : plL m = plL l := by
  rcases plL_cases hl with ⟨x, r', c, h1, h2, h4⟩ | ⟨a, c, r', st, h1, h2, h5, h4⟩ | ⟨st, h1, h2, h5⟩
  · have e := plL_A h2 h4 r'
    rw [← h1] at e
    rw [e] at h ⊢
    have hr := reach_0 x.length
    rw [hr, h1, List.take_left] at h
    have : m = x ++ m.drop x.length := by
      have := List.take_append_drop x.length m
      rw [← h] at this
      exact this.symm
    rw [this, plL_A h2 h4]
  · have e := plL_B (r := r') h2 h5 h4
    rw [← h1] at e
    rw [e] at h ⊢
    have hr := reach_4 a.length
    have ha : l.take (a.length + 1) = a ++ [c] := by
      rw [h1, show a ++ c :: r' = (a ++ [c]) ++ r' by simp, show a.length + 1 = (a ++ [c]).length by simp, List.take_left]
    rw [hr, ha] at h
    have : m = a ++ c :: m.drop (a.length + 1) := by
      have := List.take_append_drop (a.length + 1) m
      rw [← h] at this
      rw [← this]; simp
    rw [this, plL_B h2 h5 h4]
  · exact absurd (congrArg Prod.snd (plL_C h1 h2 h5)) h3

theorem plainN_plL (s : ByteArray) (p : Nat) : plainN s p = plL (s.data.toList.drop p) := by
  rw [← sub_data]; rfl
theorem bytesOf_eq (s : ByteArray) (p n : Nat) : bytesOf s p n = ((s.data.toList.drop p).take n).map fun b => (b.toNat : Int) := by
  unfold bytesOf
  congr 1
  simp only [ByteArray.data_extract, Array.toList_extract]
  simp [List.extract]
theorem data_len (s : ByteArray) : s.data.toList.length = s.size := by rw [Array.length_toList]; rfl
theorem reach_add (p n : Nat) (e : Int) : reach (p + n, e) = p + reach (n, e) := by
  unfold reach; dsimp only; split <;> omega
theorem plain_loc (s : ByteArray) (p : Nat) (hp : p < s.size) : Loc s (p + 1) (fun t => (bytesOf t p (plainN t p).1, p + (plainN t p).1, (plainN t p).2)) := by
  have hl := data_len s
  have hd : (s.data.toList.drop p).length = s.size - p := by rw [List.length_drop, hl]
  have hne : s.data.toList.drop p ≠ [] := by intro h; rw [h] at hd; simp at hd; omega
  have ok := plainN_ok s p hp
  have h3 : (plainN s p).2 = 3 → p + (plainN s p).1 = s.size := by
    rw [plainN_plL]
    rcases plL_cases hne with ⟨x, r', c, h1, h2, h4⟩ | ⟨a, c, r', st, h1, h2, h5, h4⟩ | ⟨st, h1, h2, h5⟩
    · rw [h1, plL_A h2 h4]; intro h; cases h
    · rw [h1, plL_B h2 h5 h4]; intro h; cases h
    · rw [plL_C h1 h2 h5, hd]; intro _; show p + (s.size - p) = s.size; omega
  have h4 : (plainN s p).2 = 4 → p + (plainN s p).1 < s.size := by
    rw [plainN_plL]
    rcases plL_cases hne with ⟨x, r', c, h1, h2, h4⟩ | ⟨a, c, r', st, h1, h2, h5, h4⟩ | ⟨st, h1, h2, h5⟩
    · rw [h1, plL_A h2 h4]; intro h; cases h
    · rw [h1, plL_B h2 h5 h4]; intro _
      rw [h1, List.length_append, List.length_cons] at hd
      show p + a.length < s.size
      omega
    · rw [plL_C h1 h2 h5]; intro h; cases h
  constructor
  · intro h; have := ok.2.1 h; dsimp only; omega
  · exact h3
  · intro h; have := h4 h; dsimp only; omega
  · exact ok.2.2
  · intro t ht he
    dsimp only at ht he ⊢
    rw [reach_add] at ht
    have e1 : plainN t p = plainN s p := by
      rw [plainN_plL, plainN_plL]
      rw [plainN_plL] at he ht
      refine plL_same hne he ?_
      have := congrArg (List.drop p) ht.2.2
      rwa [List.drop_take, List.drop_take, Nat.add_sub_cancel_left] at this
    rw [e1]
    refine ⟨rfl, fun h0 => ?_⟩
    have hn : reach ((plainN s p).1, (plainN s p).2) = (plainN s p).1 := by rw [h0, reach_0]
    rw [hn] at ht
    have e2 : bytesOf t p (plainN s p).1 = bytesOf s p (plainN s p).1 := by
      rw [bytesOf_eq, bytesOf_eq]
      have := congrArg (List.drop p) ht.2.2
      rw [List.drop_take, List.drop_take, Nat.add_sub_cancel_left] at this
      rw [this]
    rw [e2]
  · intro t ht h1 h2
    dsimp only at h2 ⊢
    rw [reach_add, plainN_plL] at h2
    rw [plainN_plL]
    have hlt := data_len t
    have e1 : s.data.toList.drop p = t.data.toList.drop p ++ s.data.toList.drop t.size := by
      have h5 := ht.2.2
      rw [List.take_of_length_le (by omega : t.data.toList.length ≤ t.size)] at h5
      have h6 := congrArg (List.drop p) (List.take_append_drop t.size s.data.toList)
      rw [h5, List.drop_append_of_le_length (by omega)] at h6
      exact h6.symm
    have hdt : (t.data.toList.drop p).length = t.size - p := by rw [List.length_drop, hlt]
    have e2 := plL_cut e1 (by intro h; rw [h] at hdt; simp at hdt; omega) (by rw [hdt]; show t.size - p < reach ((plL (List.drop p s.data.toList)).1, (plL (List.drop p s.data.toList)).2); omega)
    rw [e2, hdt]
    dsimp only
    congr 1
    omega
theorem scnF_loc (s : ByteArray) (m : Nat) : ∀ (p : Nat) (out : List Int), p ≤ s.size → s.size - p < m → Loc s p (fun t => scnF t p 0 out) := by
  induction m with
  | zero => intro p out _ h; omega
  | succ m ih =>
    intro p out hp hm
    have e : (fun t => scnF t p 0 out) = bnd (fun t => nx t ge32 p 0) (behind p out) := by
      funext t; exact scnF_step t p out
    rw [e]
    refine Loc.bind hp (nx_loc s ge32 p hp) (fun v q hv hpq hq => ?_) (fun v t q e he => ?_)
    · have hn := nx_ok (s := s) (is := ge32) (p := p) (e := 0) (by rw [hv])
      rw [hn.2.2.2] at hv
      obtain ⟨e1, e2⟩ := Prod.mk.inj hv
      obtain ⟨e3, _⟩ := Prod.mk.inj e2
      clear hv e2
      subst e1 e3
      have hb : ∀ t, behind p out (byteAt s p) t (p + 1) 0 = if byteAt s p = 34 then (out, p + 1, 0) else if byteAt s p = 92 then scnF t (escF t (p + 1) 0).2.1 (escF t (p + 1) 0).2.2 (out ++ (escF t (p + 1) 0).1)
        else scnF t (p + (plainN t p).1) (plainN t p).2 (out ++ bytesOf t p (plainN t p).1) := fun t => by unfold behind; rw [if_neg (by decide)]
      by_cases h1 : byteAt s p = 34
      · have : (fun t => behind p out (byteAt s p) t (p + 1) 0) = fun t => (out, p + 1, 0) := by funext t; rw [hb, if_pos h1]
        rw [this]
        exact Loc.ret hq _
      by_cases h2 : byteAt s p = 92
      · have : (fun t => behind p out (byteAt s p) t (p + 1) 0) = bnd (fun t => escF t (p + 1) 0) (fun xs t q e => scnF t q e (out ++ xs)) := by funext t; rw [hb, if_neg h1, if_pos h2]; rfl
        rw [this]
        refine Loc.bind hq (escF_loc s (p + 1) hq) (fun xs q2 _ h3 h4 => ih q2 _ h4 (by omega)) (fun xs t q2 e he => ?_)
        rw [scnF_pass t q2 _ he]
      · have : (fun t => behind p out (byteAt s p) t (p + 1) 0) = bnd (fun t => (bytesOf t p (plainN t p).1, p + (plainN t p).1, (plainN t p).2)) (fun xs t q e => scnF t q e (out ++ xs)) := by funext t; rw [hb, if_neg h1, if_neg h2]; rfl
        rw [this]
        refine Loc.bind hq (plain_loc s p hn.2.1) (fun xs q2 _ h3 h4 => ih q2 _ h4 (by omega)) (fun xs t q2 e he => ?_)
        rw [scnF_pass t q2 _ he]
    · unfold behind; rw [if_pos he]
theorem scanF_loc (s : ByteArray) : Loc s 0 scanF := by
  have e : scanF = bnd (fun t => nx t (fun c => c == 34) 0 0) (fun _ t q e => scnF t q e []) := by funext t; rfl
  rw [e]
  refine Loc.bind (Nat.zero_le _) (nx_loc s _ 0 (Nat.zero_le _)) (fun v q _ _ hq => scnF_loc s _ q [] hq (Nat.lt_succ_self _)) (fun v t q e he => ?_)
  rw [scnF_pass t q _ he]
end Go.Proofs.Ytlbokaekhjjabaa

/-
  Scan reads what Quote wrote, whatever stands behind. Without Go.
-/
namespace Go.Proofs.Ytlbokaekhjjabaa
open Go.RowKit
set_option linter.unusedVariables false

theorem drop_byte {s : ByteArray} {p : Nat} {b : UInt8} {r : List UInt8} (h : s.data.toList.drop p = b :: r) : p < s.size ∧ byteAt s p = b.toNat ∧ s.data.toList.drop (p + 1) = r := by
  have hl := congrArg List.length h
  rw [List.length_drop, data_len, List.length_cons] at hl
  have hp : p < s.size := by omega
  refine ⟨hp, ?_, ?_⟩
  · unfold byteAt
    have := congrArg (fun l => l[0]?) h
    simp only [List.getElem?_drop, Nat.add_zero, List.getElem?_cons_zero] at this
    rw [List.getD_eq_getElem?_getD, this]
    rfl
  · have := congrArg (List.drop 1) h
    rw [List.drop_drop] at this
    exact this
theorem drop_num {s : ByteArray} {p : Nat} {c : Int} {r : List UInt8} (h : s.data.toList.drop p = byteOf c :: r) (h0 : 0 ≤ c) (h1 : c ≤ 255) : p < s.size ∧ byteAt s p = c ∧ s.data.toList.drop (p + 1) = r := by
  have := drop_byte h
  rwa [byteOf_toNat h0 h1] at this
theorem nx_hit {s : ByteArray} {is : Int → Bool} {p : Nat} {c : Int} (hp : p < s.size) (hc : byteAt s p = c) (hi : is c = true) : nx s is p 0 = (c, p + 1, 0) := by
  unfold nx
  rw [if_neg (by decide), if_pos hp, hc, if_pos hi]

def isEsc (b : Int) : Bool := match escB b with
  | [x, l] => x == 92 && (escIs l && (l != 117 && (unl letterPairs l == b && (decide (0 ≤ l) && decide (l ≤ 255)))))
  | _ => false
def isU (b : Int) : Bool := match escB b with
  | [x, u, z, z2, h1, h2] => x == 92 && (u == 117 && (z == 48 && (z2 == 48 && (dig h1 == b / 16 && (dig h2 == b % 16 && (decide (0 ≤ h1) && (decide (h1 ≤ 255) && (decide (0 ≤ h2) && decide (h2 ≤ 255)))))))))
  | _ => false
def isPl (b : Int) : Bool := escB b == [b] && (decide (32 ≤ b) && (b != 34 && b != 92))
theorem classes : ∀ n : Nat, n < 128 → (isEsc n || (isU n || isPl n)) = true := by decide +kernel
theorem highs : ∀ n : Nat, n < 256 → 128 ≤ n → escB n = [(n : Int)] := by decide +kernel
theorem escB_class {b : Int} (h0 : 0 ≤ b) (h1 : b < 128) : (∃ l, escB b = [92, l] ∧ escIs l = true ∧ l ≠ 117 ∧ unl letterPairs l = b ∧ 0 ≤ l ∧ l ≤ 255) ∨
    (∃ x y, escB b = [92, 117, 48, 48, x, y] ∧ dig x = b / 16 ∧ dig y = b % 16 ∧ 0 ≤ x ∧ x ≤ 255 ∧ 0 ≤ y ∧ y ≤ 255) ∨ (escB b = [b] ∧ 32 ≤ b ∧ b ≠ 34 ∧ b ≠ 92) := by
  have h := classes b.toNat (by omega)
  rw [show ((b.toNat : Nat) : Int) = b by omega] at h
  simp only [Bool.or_eq_true] at h
  rcases h with h | h | h
  · left
    unfold isEsc at h
    split at h
    · rename_i x l he
      simp at h
      exact ⟨l, by rw [he, h.1], h.2.1, h.2.2.1, h.2.2.2.1, h.2.2.2.2.1, h.2.2.2.2.2⟩
    · cases h
  · right; left
    unfold isU at h
    split at h
    · rename_i x u z z2 a c he
      simp at h
      exact ⟨a, c, by rw [he, h.1, h.2.1, h.2.2.1, h.2.2.2.1], h.2.2.2.2.1, h.2.2.2.2.2.1, h.2.2.2.2.2.2.1, h.2.2.2.2.2.2.2.1, h.2.2.2.2.2.2.2.2.1, h.2.2.2.2.2.2.2.2.2⟩
    · cases h
  · right; right
    unfold isPl at h
    simp at h
    exact h

theorem encL_small {c : Int} (h0 : 0 ≤ c) (h1 : c < 128) : encL c = [c] := by unfold encL; rw [if_neg (by omega), if_pos h1]
theorem unitIs_plain {i u c : Int} (h : 0 ≤ dig c) (hu : u ≠ 13) : unitIs false i u c = true := by
  unfold unitIs
  rw [if_neg (by omega), if_neg (by simp), if_neg (by omega)]
/-- One byte, as Quote writes it. -/
theorem step_byte {s : ByteArray} {p : Nat} {b : Int} {r : List UInt8} (out : List Int) (h0 : 0 ≤ b) (h1 : b < 128) (h : s.data.toList.drop p = (escB b).map byteOf ++ r) :
    scnF s p 0 out = scnF s (p + (escB b).length) 0 (out ++ [b]) ∧ s.data.toList.drop (p + (escB b).length) = r := by
  rcases escB_class h0 h1 with ⟨l, he, hi, hn, hu, hl0, hl1⟩ | ⟨x, y, he, hx, hy, hx0, hx1, hy0, hy1⟩ | ⟨he, h2, h3, h4⟩
  · rw [he] at h ⊢
    simp only [List.map_cons, List.map_nil, List.cons_append, List.nil_append] at h
    obtain ⟨p1, b1, d1⟩ := drop_num h (by decide) (by decide)
    obtain ⟨p2, b2, d2⟩ := drop_num d1 hl0 hl1
    refine ⟨?_, d2⟩
    have e : escF s (p + 1) 0 = ([b], p + 2, 0) := by
      unfold escF
      rw [nx_hit p2 b2 hi, if_pos hn, hu]
    rw [scnF_step, nx_hit (is := ge32) p1 b1 (by decide)]
    unfold behind
    dsimp only
    rw [if_neg (by decide), if_neg (by decide), if_pos rfl, e]
    rfl
  · rw [he] at h ⊢
    simp only [List.map_cons, List.map_nil, List.cons_append, List.nil_append] at h
    obtain ⟨p1, b1, d1⟩ := drop_num h (by decide) (by decide)
    obtain ⟨p2, b2, d2⟩ := drop_num d1 (by decide) (by decide)
    obtain ⟨p3, b3, d3⟩ := drop_num d2 (by decide) (by decide)
    obtain ⟨p4, b4, d4⟩ := drop_num d3 (by decide) (by decide)
    obtain ⟨p5, b5, d5⟩ := drop_num d4 hx0 hx1
    obtain ⟨p6, b6, d6⟩ := drop_num d5 hy0 hy1
    refine ⟨?_, d6⟩
    have eu : unitF s false (p + 2) 0 = (b, p + 6, 0) := by
      unfold unitF
      simp only [unitL]
      rw [nx_hit p3 b3 (unitIs_plain (by decide) (by decide))]
      dsimp only
      rw [nx_hit p4 b4 (unitIs_plain (by decide) (by decide))]
      dsimp only
      rw [nx_hit p5 b5 (unitIs_plain (by omega) (by decide))]
      dsimp only
      rw [nx_hit p6 b6 (unitIs_plain (by omega) (by rw [hx, show dig 48 = 0 from rfl]; omega))]
      dsimp only
      rw [hx, hy, show dig 48 = 0 from rfl]
      congr 1
      omega
    have e : escF s (p + 1) 0 = ([b], p + 6, 0) := by
      unfold escF
      rw [nx_hit (is := escIs) p2 b2 (by decide)]
      dsimp only
      rw [if_neg (by decide)]
      rw [eu]
      dsimp only
      rw [if_neg (by omega), encL_small h0 h1]
    rw [scnF_step, nx_hit (is := ge32) p1 b1 (by decide)]
    unfold behind
    dsimp only
    rw [if_neg (by decide), if_neg (by decide), if_pos rfl, e]
    rfl
  · rw [he] at h ⊢
    simp only [List.map_cons, List.map_nil, List.cons_append, List.nil_append] at h
    obtain ⟨p1, b1, d1⟩ := drop_num h h0 (by omega)
    refine ⟨?_, d1⟩
    have e : plainN s p = (1, 0) := by
      rw [plainN_plL, h]
      exact plL_A (x := [byteOf b]) (c := b) (by rw [encL_small h0 h1]; rfl) (by simp) r
    rw [scnF_step, nx_hit (is := ge32) p1 b1 (by unfold ge32; exact decide_eq_true h2)]
    unfold behind
    dsimp only
    rw [if_neg (by decide), if_neg h3, if_neg h4, e]
    dsimp only
    rw [bytesOf_eq, h]
    simp only [List.take_succ_cons, List.take_zero, List.map_cons, List.map_nil]
    rw [byteOf_toNat h0 (by omega)]
    rfl
/-- A code point of more than one byte stands as it is. -/
theorem stepHigh {s : ByteArray} {p : Nat} {x r : List UInt8} {c : Int} (out : List Int) (hx : (encL c).map byteOf = x) (h0 : 0 < x.length) (hh : ∀ b ∈ x, 128 ≤ b.toNat) (h : s.data.toList.drop p = x ++ r) :
    scnF s p 0 out = scnF s (p + x.length) 0 (out ++ x.map fun b => (b.toNat : Int)) ∧ s.data.toList.drop (p + x.length) = r := by
  have hd : s.data.toList.drop (p + x.length) = r := by
    rw [← List.drop_drop, h, List.drop_left]
  refine ⟨?_, hd⟩
  have e : plainN s p = (x.length, 0) := by rw [plainN_plL, h]; exact plL_A hx h0 r
  have eb : bytesOf s p x.length = x.map fun b => (b.toNat : Int) := by rw [bytesOf_eq, h, List.take_left]
  cases x with
  | nil => simp at h0
  | cons d t =>
    obtain ⟨p1, b1, d1⟩ := drop_byte (show s.data.toList.drop p = d :: (t ++ r) from h)
    have hd := hh d (List.mem_cons_self ..)
    rw [scnF_step, nx_hit (is := ge32) p1 b1 (by unfold ge32; exact decide_eq_true (by omega))]
    unfold behind
    dsimp only
    rw [if_neg (by decide), if_neg (by omega), if_neg (by omega), e]
    dsimp only
    rw [eb]
theorem enc_class {c : Int} {x : List UInt8} (hx : (encL c).map byteOf = x) (h0 : 0 < x.length) : (x = [byteOf c] ∧ 0 ≤ c ∧ c < 128) ∨ (∀ b ∈ x, 128 ≤ b.toNat) := by
  have key : ∀ n : Int, 128 ≤ n → n ≤ 255 → 128 ≤ (byteOf n).toNat := fun n a b => by have := byteOf_toNat (n := n) (by omega) b; omega
  subst hx
  unfold encL at h0 ⊢
  split at h0
  · simp at h0
  rename_i h1
  rw [if_neg h1]
  split
  · left; exact ⟨rfl, by omega, by omega⟩
  right
  intro b hb
  repeat' split at hb
  all_goals
    simp only [List.map_cons, List.map_nil, List.mem_cons, List.not_mem_nil, or_false] at hb
    rcases hb with rfl | rfl | rfl | rfl
    all_goals exact key _ (by omega) (by omega)
theorem quoteL_high (x : List UInt8) (h : ∀ b ∈ x, 128 ≤ b.toNat) : (quoteL x).map byteOf = x ∧ quoteL x = x.map fun b => (b.toNat : Int) := by
  induction x with
  | nil => exact ⟨rfl, rfl⟩
  | cons c t ih =>
    have h1 := ih (fun b hb => h b (List.mem_cons_of_mem _ hb))
    have h2 := highs c.toNat c.toNat_lt (h c (List.mem_cons_self ..))
    simp only [quoteL]
    rw [h2, h1.2]
    refine ⟨?_, rfl⟩
    rw [List.map_append, ← h1.2, h1.1]
    simp only [List.map_cons, List.map_nil, byteOf_of]
    rfl
theorem whole_tail {x t : List UInt8} (hx : Whole x) (h : Whole (x ++ t)) : Whole t := by
  obtain ⟨st, h1, h2⟩ := hx
  obtain ⟨st', h3, h4⟩ := h
  rw [runL_append, h1] at h3
  cases t with
  | nil => exact whole_nil
  | cons c t =>
    refine ⟨st', ?_, h4⟩
    rw [← h3]
    simp only [Option.bind_some, runL]
    rw [stp_0 h2]
/-- The rounds over what Quote wrote. -/
theorem scn_quo (s : ByteArray) (m : Nat) : ∀ (l r : List UInt8) (p : Nat) (out : List Int), l.length < m → Whole l → s.data.toList.drop p = (quoteL l).map byteOf ++ byteOf 34 :: r →
    scnF s p 0 out = (out ++ l.map fun b => (b.toNat : Int), p + (quoteL l).length + 1, 0) := by
  induction m with
  | zero => intro l r p out h; omega
  | succ m ih =>
    intro l r p out hm hw h
    by_cases hl : l = []
    · subst hl
      obtain ⟨p1, b1, d1⟩ := drop_num (show s.data.toList.drop p = byteOf 34 :: r from h) (by decide) (by decide)
      rw [scnF_step, nx_hit (is := ge32) p1 b1 (by decide)]
      unfold behind
      dsimp only
      rw [if_neg (by decide), if_pos rfl]
      simp [quoteL]
    · obtain ⟨x, t, e1, e2, e3, e4⟩ := enc_ptL (whole_pt hw hl)
      rw [e1] at hw h hm ⊢
      have hwx : Whole x := by rw [← e4]; exact whole_enc _
      have hwt := whole_tail hwx hw
      rw [List.length_append] at hm
      rw [quoteL_append, List.map_append, List.append_assoc] at h
      rw [quoteL_append, List.map_append, List.length_append]
      rcases enc_class e4 e3 with ⟨h1, h2, h3⟩ | h1
      · have hq : quoteL x = escB (ptL l).1 := by
          rw [h1]
          simp only [quoteL, List.append_nil]
          rw [byteOf_toNat h2 (by omega)]
        rw [hq] at h ⊢
        obtain ⟨a1, a2⟩ := step_byte out h2 h3 h
        rw [a1, ih t r _ _ (by omega) hwt a2, h1]
        simp only [List.map_cons, List.map_nil, List.append_assoc]
        rw [byteOf_toNat h2 (by omega), Nat.add_assoc p]
      · obtain ⟨q1, q2⟩ := quoteL_high x h1
        rw [q1] at h
        obtain ⟨a1, a2⟩ := stepHigh out e4 e3 h1 h
        rw [a1, ih t r _ _ (by omega) hwt a2]
        have hz : (quoteL x).length = x.length := by rw [q2, List.length_map]
        rw [hz, List.append_assoc, Nat.add_assoc p]
theorem scan_quo {s t : ByteArray} {r : List UInt8} (hw : Whole s.data.toList) (h : t.data.toList = byteOf 34 :: ((quoteL s.data.toList).map byteOf ++ byteOf 34 :: r)) :
    scanF t = (s.data.toList.map (fun b => (b.toNat : Int)), (quoteL s.data.toList).length + 2, 0) := by
  obtain ⟨p1, b1, d1⟩ := drop_num (s := t) (p := 0) (by rw [List.drop_zero]; exact h) (by decide) (by decide)
  have e : scanF t = scnF t 1 0 [] := by
    show scnF t (nx t (fun c => c == 34) 0 0).2.1 (nx t (fun c => c == 34) 0 0).2.2 [] = _
    rw [nx_hit (is := fun c => c == 34) p1 b1 (by decide)]
  rw [e, scn_quo t _ s.data.toList r 1 [] (Nat.lt_succ_self _) hw d1]
  simp only [List.nil_append]
  congr 2
  omega
end Go.Proofs.Ytlbokaekhjjabaa

/-
  token's Next in plain Lean: blanks, kinds, numbers, words; no program in sight.
-/
namespace Go.Proofs.Ytlbokaekhjjabaa
open Go.RowKit
set_option linter.unusedVariables false

def blankB (c : Int) : Bool := c == 9 || (c == 10 || (c == 13 || c == 32))
def skipF (s : ByteArray) (p : Nat) : Nat := if h : p < s.size then (if blankB (byteAt s p) = true then skipF s (p + 1) else p) else p
  termination_by s.size - p
def endsB (st : Int) : Bool := st == 2 || (st == 3 || (st == 5 || st == 8))
/-- The longest number, from a state and a place on. -/
def numGo (s : ByteArray) (i : Nat) (st : Int) : Nat × Int :=
  if h : i < s.size then (if nst st (byteAt s i) = 9 then (if endsB st = true then (i, 0) else (i, 4)) else numGo s (i + 1) (nst st (byteAt s i)))
  else if endsB st = true then (s.size, 0) else (s.size, 3)
  termination_by s.size - i
def numF (s : ByteArray) : Nat × Int := numGo s 0 0
def kindF (c : Int) : Int :=
  if c = 34 then 83 else if c = 45 ∨ 48 ≤ c ∧ c ≤ 57 then 78
  else if c = 91 ∨ c = 93 ∨ c = 123 ∨ c = 125 ∨ c = 58 ∨ c = 44 ∨ c = 110 ∨ c = 116 ∨ c = 102 then c else 0
/-- How many bytes of a word stand there. -/
def comN (w r : ByteArray) (n : Nat) : Nat := if h : n < w.size ∧ n < r.size ∧ byteAt w n = byteAt r n then comN w r (n + 1) else n
  termination_by w.size - n

abbrev Tok := Int × Nat × Nat × ByteArray
def noTok : Tok := (0, 0, 0, ⟨#[]⟩)
/-- What a word's reading tells. -/
def wordV (k : Int) (a : Nat) (w r : ByteArray) (n : Nat) : Tok × Nat × Int :=
  if n = w.size then ((k, a, a + n, ⟨#[]⟩), a + n, 0) else if n = r.size then (noTok, a + n, 3) else (noTok, a + n, 4)
/-- What a token tells, of its kind, where no blank stands ahead. -/
def tokV (s : ByteArray) (a : Nat) (k : Int) : Tok × Nat × Int :=
  if k = 0 then (noTok, a, 4)
  else if k = 83 then (if (scanF (sub s a)).2.2 = 0 then ((k, a, a + (scanF (sub s a)).2.1, strOfNums (scanF (sub s a)).1), a + (scanF (sub s a)).2.1, 0) else (noTok, a + (scanF (sub s a)).2.1, (scanF (sub s a)).2.2))
  else if k = 78 then (if (numF (sub s a)).2 = 0 then ((k, a, a + (numF (sub s a)).1, (sub s a).extract 0 (numF (sub s a)).1), a + (numF (sub s a)).1, 0) else (noTok, a + (numF (sub s a)).1, (numF (sub s a)).2))
  else wordV k a (wordF k) (sub s a) (comN (wordF k) (sub s a) 0)
/-- The next token. -/
def nextF (s : ByteArray) (p : Nat) : Tok × Nat × Int :=
  if skipF s p = s.size then ((0, s.size, s.size, ⟨#[]⟩), s.size, 0) else tokV s (skipF s p) (kindF (byteAt s (skipF s p)))

theorem nst_range (st c : Int) (h0 : 0 ≤ st) (h1 : st ≤ 9) : 0 ≤ nst st c ∧ nst st c ≤ 9 := by
  unfold nst
  repeat' split
  all_goals omega
theorem skipF_at (s : ByteArray) (m : Nat) : ∀ p, s.size - p < m → p ≤ s.size → p ≤ skipF s p ∧ skipF s p ≤ s.size := by
  induction m with
  | zero => intro p h; omega
  | succ m ih =>
    intro p hm hp
    rw [skipF]
    by_cases h : p < s.size
    · rw [dif_pos h]
      by_cases hb : blankB (byteAt s p) = true
      · rw [if_pos hb]
        have := ih (p + 1) (by omega) (by omega)
        omega
      · rw [if_neg hb]; omega
    · rw [dif_neg h]; omega
theorem skipF_le (s : ByteArray) (p : Nat) (hp : p ≤ s.size) : p ≤ skipF s p ∧ skipF s p ≤ s.size := skipF_at s _ p (Nat.lt_succ_self _) hp
theorem numGo_at (s : ByteArray) (m : Nat) : ∀ i st, s.size - i < m → i ≤ s.size → i ≤ (numGo s i st).1 ∧ (numGo s i st).1 ≤ s.size ∧ ((numGo s i st).2 = 0 ∨ (numGo s i st).2 = 3 ∨ (numGo s i st).2 = 4) ∧ ((numGo s i st).2 = 0 → (numGo s i st).1 = i → endsB st = true) := by
  induction m with
  | zero => intro i st h; omega
  | succ m ih =>
    intro i st hm hi
    rw [numGo]
    by_cases h : i < s.size
    · rw [dif_pos h]
      by_cases h9 : nst st (byteAt s i) = 9
      · rw [if_pos h9]
        by_cases he : endsB st = true
        · rw [if_pos he]; exact ⟨Nat.le_refl _, hi, .inl rfl, fun _ _ => he⟩
        · rw [if_neg he]; exact ⟨Nat.le_refl _, hi, .inr (.inr rfl), fun h => by cases h⟩
      · rw [if_neg h9]
        have := ih (i + 1) (nst st (byteAt s i)) (by omega) (by omega)
        exact ⟨by omega, this.2.1, this.2.2.1, fun _ h => by omega⟩
    · rw [dif_neg h]
      by_cases he : endsB st = true
      · rw [if_pos he]; exact ⟨hi, Nat.le_refl _, .inl rfl, fun _ _ => he⟩
      · rw [if_neg he]; exact ⟨hi, Nat.le_refl _, .inr (.inl rfl), fun h => by cases h⟩
theorem numF_at (s : ByteArray) : (numF s).1 ≤ s.size ∧ ((numF s).2 = 0 ∨ (numF s).2 = 3 ∨ (numF s).2 = 4) ∧ ((numF s).2 = 0 → 1 ≤ (numF s).1) := by
  have h := numGo_at s _ 0 0 (Nat.lt_succ_self _) (Nat.zero_le _)
  refine ⟨h.2.1, h.2.2.1, fun h0 => ?_⟩
  by_cases h1 : (numF s).1 = 0
  · have := h.2.2.2 h0 h1; cases this
  · omega
theorem comN_at (w r : ByteArray) (m : Nat) : ∀ n, w.size - n < m → n ≤ w.size → n ≤ r.size → n ≤ comN w r n ∧ comN w r n ≤ w.size ∧ comN w r n ≤ r.size := by
  induction m with
  | zero => intro n h; omega
  | succ m ih =>
    intro n hm h1 h2
    rw [comN]
    by_cases h : n < w.size ∧ n < r.size ∧ byteAt w n = byteAt r n
    · rw [dif_pos h]
      have := ih (n + 1) (by omega) (by omega) (by omega)
      omega
    · rw [dif_neg h]; omega
theorem comN_le (w r : ByteArray) : comN w r 0 ≤ w.size ∧ comN w r 0 ≤ r.size := (comN_at w r _ 0 (Nat.lt_succ_self _) (Nat.zero_le _) (Nat.zero_le _)).2
theorem wordF_size (c : Int) : 1 ≤ (wordF c).size ∧ (wordF c).size ≤ 5 := by
  unfold wordF
  repeat' split
  · decide
  · decide
  · decide
  · exact ⟨Nat.le_refl 1, by show 1 ≤ 5; omega⟩

/-- Where a token has come, its place is behind; never behind the text. -/
theorem tokV_at (s : ByteArray) (a : Nat) (k : Int) (ha : a < s.size) : (tokV s a k).2.1 ≤ s.size ∧ ((tokV s a k).2.2 = 0 ∨ (tokV s a k).2.2 = 3 ∨ (tokV s a k).2.2 = 4) ∧
    ((tokV s a k).2.2 = 0 → (tokV s a k).1.1 = k ∧ k ≠ 0 ∧ (tokV s a k).1.2.1 = a ∧ (tokV s a k).1.2.2.1 = (tokV s a k).2.1 ∧ a < (tokV s a k).2.1) ∧ ((tokV s a k).2.2 ≠ 0 → (tokV s a k).1 = noTok) := by
  have hz := sub_size s a
  have hs := (scan_right (sub s a)).1
  have hn := numF_at (sub s a)
  have hw := comN_le (wordF k) (sub s a)
  have hw2 := wordF_size k
  unfold tokV
  by_cases h0 : k = 0
  · rw [if_pos h0]; exact ⟨by dsimp only; omega, .inr (.inr rfl), fun h => absurd h (show (4 : Int) ≠ 0 by decide), fun _ => rfl⟩
  rw [if_neg h0]
  by_cases h1 : k = 83
  · rw [if_pos h1]
    have h2 := hs.at'
    by_cases he : (scanF (sub s a)).2.2 = 0
    · rw [if_pos he]
      have := (hs.whole he).2.1
      exact ⟨by dsimp only; omega, .inl rfl, fun _ => ⟨rfl, h0, rfl, rfl, by dsimp only; omega⟩, fun h => absurd rfl h⟩
    · rw [if_neg he]; exact ⟨by dsimp only; omega, hs.err, fun h => absurd h he, fun _ => rfl⟩
  rw [if_neg h1]
  by_cases h2 : k = 78
  · rw [if_pos h2]
    by_cases he : (numF (sub s a)).2 = 0
    · rw [if_pos he]
      have := hn.2.2 he
      exact ⟨by dsimp only; omega, .inl rfl, fun _ => ⟨rfl, h0, rfl, rfl, by dsimp only; omega⟩, fun h => absurd rfl h⟩
    · rw [if_neg he]; exact ⟨by dsimp only; omega, hn.2.1, fun h => absurd h he, fun _ => rfl⟩
  rw [if_neg h2]
  unfold wordV
  by_cases h3 : comN (wordF k) (sub s a) 0 = (wordF k).size
  · rw [if_pos h3]; exact ⟨by dsimp only; omega, .inl rfl, fun _ => ⟨rfl, h0, rfl, rfl, by dsimp only; omega⟩, fun h => absurd rfl h⟩
  rw [if_neg h3]
  by_cases h4 : comN (wordF k) (sub s a) 0 = (sub s a).size
  · rw [if_pos h4]; exact ⟨by dsimp only; omega, .inr (.inl rfl), fun h => absurd h (show (3 : Int) ≠ 0 by decide), fun _ => rfl⟩
  · rw [if_neg h4]; exact ⟨by dsimp only; omega, .inr (.inr rfl), fun h => absurd h (show (4 : Int) ≠ 0 by decide), fun _ => rfl⟩
theorem nextF_at (s : ByteArray) (p : Nat) (hp : p ≤ s.size) : (nextF s p).2.1 ≤ s.size ∧ ((nextF s p).2.2 = 0 ∨ (nextF s p).2.2 = 3 ∨ (nextF s p).2.2 = 4) ∧
    ((nextF s p).2.2 = 0 → (nextF s p).1.1 ≠ 0 → p ≤ (nextF s p).1.2.1 ∧ (nextF s p).1.2.1 < (nextF s p).1.2.2.1 ∧ (nextF s p).1.2.2.1 = (nextF s p).2.1 ∧ p < (nextF s p).2.1) ∧ ((nextF s p).2.2 ≠ 0 → (nextF s p).1 = noTok) := by
  have ha := skipF_le s p hp
  unfold nextF
  by_cases h : skipF s p = s.size
  · rw [if_pos h]; exact ⟨Nat.le_refl _, .inl rfl, fun _ h => absurd rfl h, fun h => absurd rfl h⟩
  · rw [if_neg h]
    have ht := tokV_at s (skipF s p) (kindF (byteAt s (skipF s p))) (by omega)
    refine ⟨ht.1, ht.2.1, fun h0 _ => ?_, ht.2.2.2⟩
    have := ht.2.2.1 h0
    omega
end Go.Proofs.Ytlbokaekhjjabaa

/-
  The contracts of what token's Next calls.
-/
namespace Go.Proofs.Ytlbokaekhjjabaa.PureT
open Go.RowKit Go.Proofs.Ytlbokaekhjjabaa Go.Proofs.Ytlbokaekhjjabaa.T Go.Proofs.YtlbokaekhjjabaaW.PrintWords Go.Proofs.YtlbokaekhjjabaaW.PrintLast Go.Proofs.YtlbokaekhjjabaaW.PrintMore
set_option linter.unusedVariables false

theorem bt_at (s : ByteArray) (p : Nat) (h : p < s.size) : bt s (p : Int) = byteAt s p := Pure.bt_byte s p h
theorem wrap_1 (a : Nat) (h : a + 1 ≤ 9223372036854775807) : wrap64 ((a : Int) + 1) = ((a + 1 : Nat) : Int) := by unfold wrap64; omega
theorem wrap_nat (a b : Nat) (h : a + b ≤ 9223372036854775807) : wrap64 ((a : Int) + (b : Int)) = ((a + b : Nat) : Int) := by unfold wrap64; omega
theorem blank_or (c : Int) : blankB c = true ↔ c = 9 ∨ c = 10 ∨ c = 13 ∨ c = 32 := by unfold blankB; simp
theorem skip_l (s : ByteArray) (hs : s.size ≤ 140737488351232) (m : Nat) : ∀ (p k : Nat), s.size - p < m → token_Skip.l0 (k + m) s p = some ((skipF s p : Nat) : Int) := by
  induction m with
  | zero => intro p k h; omega
  | succ m ih =>
    intro p k h
    rw [show k + (m + 1) = (k + m) + 1 from rfl, token_Skip.l0, skipF]
    by_cases hp : p < s.size
    · rw [if_pos (by omega), if_pos (by omega), dif_pos hp, bt_at s p hp, wrap_1 p (by omega), ih (p + 1) k (by omega)]
      by_cases hb : blankB (byteAt s p) = true
      · rw [if_pos hb]
        rcases (blank_or _).mp hb with h | h | h | h <;> rw [h] <;> rfl
      · rw [if_neg hb]
        have hn := fun h => hb ((blank_or (byteAt s p)).mpr h)
        rw [if_neg (fun h => hn (.inl h)), if_neg (fun h => hn (.inr (.inl h))), if_neg (fun h => hn (.inr (.inr (.inl h)))), if_neg (fun h => hn (.inr (.inr (.inr h))))]
    · rw [if_neg (by omega), dif_neg hp]
theorem skip_f (s : ByteArray) (hs : s.size ≤ 140737488351232) (p k : Nat) : token_Skip.f (k + (s.size + 1)) s p = some ((skipF s p : Nat) : Int) := skip_l s hs _ p k (by omega)
theorem kind_f (c : Int) (k : Nat) : token_Kind.f (k + 2) c = some (kindF c) := by
  unfold token_Kind.f kindF
  simp only [token_Kind.j0, token_Kind.j1]
  by_cases h1 : c = 34
  · rw [if_pos h1, if_pos h1]
  rw [if_neg h1, if_neg h1]
  by_cases h2 : c = 45
  · subst h2; rfl
  rw [if_neg h2]
  by_cases h3 : c = 91
  · subst h3; rfl
  by_cases h4 : c = 93
  · subst h4; rfl
  by_cases h5 : c = 123
  · subst h5; rfl
  by_cases h6 : c = 125
  · subst h6; rfl
  by_cases h7 : c = 58
  · subst h7; rfl
  by_cases h8 : c = 44
  · subst h8; rfl
  by_cases h9 : c = 110
  · subst h9; rfl
  by_cases h10 : c = 116
  · subst h10; rfl
  by_cases h11 : c = 102
  · subst h11; rfl
  have e : ∀ x : Int, c ≠ x → (c == x) = false := fun x h => by simpa using h
  rw [if_neg h3, if_neg h4, if_neg h5, if_neg h6, e 58 h7, if_neg (by decide), if_neg h8, if_neg h9, if_neg h10, e 102 h11, if_neg (by decide)]
  rw [if_neg (show ¬ (c = 91 ∨ c = 93 ∨ c = 123 ∨ c = 125 ∨ c = 58 ∨ c = 44 ∨ c = 110 ∨ c = 116 ∨ c = 102) by omega)]
  by_cases a1 : c ≥ 48
  · rw [if_pos a1]
    by_cases a2 : c ≤ 57
    · rw [if_pos a2, if_pos (.inr ⟨a1, a2⟩)]
    · rw [if_neg a2, if_neg (by omega)]
  · rw [if_neg a1, if_neg (by omega)]
theorem ends_f (st : Int) : num_ends.f st = some (endsB st) := by
  unfold num_ends.f endsB
  by_cases h1 : st = 2
  · subst h1; rfl
  by_cases h2 : st = 3
  · subst h2; rfl
  by_cases h3 : st = 5
  · subst h3; rfl
  have e : ∀ x : Int, st ≠ x → (st == x) = false := fun x h => by simpa using h
  rw [if_neg h1, if_neg h2, if_neg h3, e 2 h1, e 3 h2, e 5 h3]
  rfl
theorem num_l (s : ByteArray) (hs : s.size ≤ 140737488351232) (m : Nat) : ∀ (i k : Nat) (st : Int), s.size - i < m → i ≤ s.size → 0 ≤ st → st ≤ 9 →
    num_Scan.l0 (k + m) s st s.size i = some (((numGo s i st).1 : Int), (numGo s i st).2) := by
  induction m with
  | zero => intro i k st h; omega
  | succ m ih =>
    intro i k st h hi h0 h1
    rw [show k + (m + 1) = (k + m) + 1 from rfl, num_Scan.l0, numGo, ends_f]
    by_cases hp : i < s.size
    · have hb := byteAt_le s i
      have hr := nst_range st (byteAt s i) h0 h1
      rw [if_pos (by omega), if_pos (by omega), if_pos (by omega), dif_pos hp, bt_at s i hp, wrap_1 i (by omega)]
      have hst : num_step.f st (byteAt s i) = some (nst st (byteAt s i)) := by unfold num_step.f; rw [if_pos ⟨⟨h0, h1⟩, hb⟩]
      rw [hst, Option.bind_some, Option.bind_some, ih (i + 1) k _ (by omega) (by omega) hr.1 hr.2]
      by_cases h9 : nst st (byteAt s i) = 9
      · rw [if_pos h9, if_pos h9]
        by_cases he : endsB st = true
        · rw [if_pos he, if_pos he]
        · rw [if_neg he, if_neg he]
      · rw [if_neg h9, if_neg h9]
    · rw [if_neg (by omega), dif_neg hp, Option.bind_some]
      by_cases he : endsB st = true
      · rw [if_pos he, if_pos he]
      · rw [if_neg he, if_neg he]
theorem num_f (s : ByteArray) (hs : s.size ≤ 140737488351232) (k : Nat) : num_Scan.f (k + (s.size + 1)) s = some (((numF s).1 : Int), (numF s).2) := num_l s hs _ 0 k 0 (by omega) (Nat.zero_le _) (by decide) (by decide)

theorem scanT (s : ByteArray) (h : s.size ≤ 4611686018427387904) (h2 : (scanF s).2.1 ≤ 140737488351232) : esc_Scan.f s = some (strOfNums (scanF s).1, (((scanF s).2.1 : Nat) : Int), (scanF s).2.2) := by
  unfold esc_Scan.f; rw [if_pos ⟨h, h2⟩]

/-- Returned just this; what lay lies. -/
def Ret (v : Value) (w : World) (e : Ending) (w' : World) : Prop := e = .returned v ∧ Below w.heap.size w w'
theorem skip_any (s : ByteArray) (hs : s.size ≤ 140737488351232) (p : Nat) (w : World) : Calls Try.prog 59 #[.string s, .int .i64 p] w (Ret (.int .i64 (skipF s p : Nat)) w) :=
  (token_Skip.calls _ s p _ w (skip_f s hs p 0)).mono fun e w' ⟨h1, h2⟩ => ⟨h1, h2.below⟩
theorem kind_any (c : Int) (w : World) : Calls Try.prog 60 #[.int .u8 c] w (Ret (.int .u8 (kindF c)) w) :=
  (token_Kind.calls _ c _ w (kind_f c 0)).mono fun e w' ⟨h1, h2⟩ => ⟨h1, h2.below⟩
theorem scan37_any (s : ByteArray) (hs : s.size ≤ 140737488351232) (w : World) : Calls Try.prog 37 #[.string s] w (Ret (.tuple #[.string (strOfNums (scanF s).1), .int .i64 (scanF s).2.1, .int .i64 (scanF s).2.2]) w) :=
  esc_Scan.calls s _ _ _ w (scanT s (by omega) (by have := (scan_right s).1.at'; omega))
theorem num_any (s : ByteArray) (hs : s.size ≤ 140737488351232) (w : World) : Calls Try.prog 61 #[.string s] w (Ret (.tuple #[.int .i64 (numF s).1, .int .i64 (numF s).2]) w) :=
  num_Scan.calls _ s _ _ w (num_f s hs 0)
end Go.Proofs.Ytlbokaekhjjabaa.PureT

/-
  token's Next: its walk.
-/
namespace Go.Proofs.Ytlbokaekhjjabaa
open Go.RowKit PureT Go.Proofs.YtlbokaekhjjabaaW.PrintWords
set_option linter.unusedVariables false

/-- A token's block. -/
def Row4 (W : World) (g : Nat) (a b c d : Value) : Prop := W.heap[g]? = some (.cells #[a, b, c, d] 60 (0, 0))
section
variable {W : World} {g : Nat} {a b c d : Value} (h : Row4 W g a b c d)
include h
theorem Row4.c0 : W.cell? ⟨g, 0, none⟩ = some a := cell_of_row W g 0 _ _ _ h
theorem Row4.c1 : W.cell? ⟨g, 1, none⟩ = some b := cell_of_row W g 1 _ _ _ h
theorem Row4.c2 : W.cell? ⟨g, 2, none⟩ = some c := cell_of_row W g 2 _ _ _ h
theorem Row4.c3 : W.cell? ⟨g, 3, none⟩ = some d := cell_of_row W g 3 _ _ _ h
theorem Row4.fz (j : Nat) : W.frozen? ⟨g, j, none⟩ = false := frozen_of_row W g j _ _ h
theorem Row4.lt : g < W.heap.size := block_lt_of_cell h.c0
theorem Row4.s0 (v : Value) : Row4 (W.setCell ⟨g, 0, none⟩ v) g v b c d := by
  rw [setCell_eq_setRow W g 0 _ _ _ v h]; exact setRow_heap _ _ _ _ _ _ h
theorem Row4.s1 (v : Value) : Row4 (W.setCell ⟨g, 1, none⟩ v) g a v c d := by
  rw [setCell_eq_setRow W g 1 _ _ _ v h]; exact setRow_heap _ _ _ _ _ _ h
theorem Row4.s2 (v : Value) : Row4 (W.setCell ⟨g, 2, none⟩ v) g a b v d := by
  rw [setCell_eq_setRow W g 2 _ _ _ v h]; exact setRow_heap _ _ _ _ _ _ h
theorem Row4.s3 (v : Value) : Row4 (W.setCell ⟨g, 3, none⟩ v) g a b c v := by
  rw [setCell_eq_setRow W g 3 _ _ _ v h]; exact setRow_heap _ _ _ _ _ _ h
theorem Row4.below {W1 : World} (hb : Below W.heap.size W W1) : Row4 W1 g a b c d := (hb.block g h.lt).trans h
theorem Row4.drew : Row4 W.drew g a b c d := h
theorem Row4.alloc (o : Obj) : Row4 (W.alloc o) g a b c d := (Below.heap_alloc W o g h.lt).trans h
/-- What a store of a whole token meets, cell by cell. -/
theorem Row4.d1 (v : Value) : (W.setCell ⟨g, 0, none⟩ v).cell? ⟨g, 1, none⟩ = some b := (h.s0 v).c1
theorem Row4.d2 (v u : Value) : ((W.setCell ⟨g, 0, none⟩ v).setCell ⟨g, 1, none⟩ u).cell? ⟨g, 2, none⟩ = some c := ((h.s0 v).s1 u).c2
theorem Row4.d3 (v u x : Value) : (((W.setCell ⟨g, 0, none⟩ v).setCell ⟨g, 1, none⟩ u).setCell ⟨g, 2, none⟩ x).cell? ⟨g, 3, none⟩ = some d := (((h.s0 v).s1 u).s2 x).c3
theorem Row4.sets (v u x y : Value) : Row4 ((((W.setCell ⟨g, 0, none⟩ v).setCell ⟨g, 1, none⟩ u).setCell ⟨g, 2, none⟩ x).setCell ⟨g, 3, none⟩ y) g v u x y := (((h.s0 v).s1 u).s2 x).s3 y
end
theorem Row4.new (w : World) (a b c d : Value) : Row4 (w.alloc (.cells #[a, b, c, d] 60)) w.heap.size a b c d := heap_alloc_last w _
theorem below_sets {B g : Nat} {w W : World} (h : Below B w W) (hg : B ≤ g) (v u x y : Value) : Below B w ((((W.setCell ⟨g, 0, none⟩ v).setCell ⟨g, 1, none⟩ u).setCell ⟨g, 2, none⟩ x).setCell ⟨g, 3, none⟩ y) :=
  (((h.setCell (p := ⟨g, 0, none⟩) hg _).setCell (p := ⟨g, 1, none⟩) hg _).setCell (p := ⟨g, 2, none⟩) hg _).setCell (p := ⟨g, 3, none⟩) hg _
theorem Row4.other {W : World} {g : Nat} {a b c d : Value} (h : Row4 W g a b c d) {g' : Nat} (hne : g ≠ g') (j : Nat) (v : Value) : Row4 (W.setCell ⟨g', j, none⟩ v) g a b c d :=
  (Below.heap_setCell W _ v g (fun e => hne (by rw [e]))).trans h
theorem info60 : (Try.prog.info? 60).map (·.size) = some 4 := by kernel_rfl
/-- The return of a token, a place, an error. -/
theorem ret_tok {tmps : Array Value} {W : World} {g : Nat} {a b c d n e : Value} (hp : tmps.getD 4 undef = .pointer (some ⟨g, 0, none⟩)) (h : Row4 W g a b c d) (hn : tmps.getD 5 undef = n) (he : tmps.getD 6 undef = e) :
    (results Try.f39 tmps).run Try.prog W = .ok (.tuple #[.agg #[a, b, c, d], n, e]) W := by
  rw [← hn, ← he]
  exact results_ctt (p := 4) (u := 5) (v := 6) (ty := 60) rfl _ _ g 60 #[a, b, c, d] (0, 0) _ hp h Try.underlying60 rfl info60

set_option maxHeartbeats 4000000 in
set_option maxRecDepth 100000 in
theorem next_end' (s : ByteArray) (hs : s.size ≤ 140737488351232) (p : Nat) (hp : p ≤ s.size) (w : World) (hk : skipF s p = s.size) :
    Calls Try.prog 39 #[.string s, .int .i64 p] w (Ret (.tuple #[.agg #[.int .u8 0, .int .i64 s.size, .int .i64 s.size, .string ⟨#[]⟩], .int .i64 s.size, .int .i64 0]) w) := by
  go_enter Try.func39, Try.ntmps39
  go_wp2_with (fail)
  refine (skip_any s hs p _).mono ?_
  rintro e w1 ⟨rfl, hb1⟩
  rw [hk]
  have R := (Row4.new w (.int .u8 0) (.int .i64 0) (.int .i64 0) (.string ⟨#[]⟩)).below hb1
  have hlt := R.lt
  have c0 := fun o => (R.alloc o).c0
  have f0 := fun o => (R.alloc o).fz 0
  have c1 := fun v o => ((R.s0 v).alloc o).c1
  have f1 := fun v o => ((R.s0 v).alloc o).fz 1
  have c2 := fun v u o => (((R.s0 v).s1 u).alloc o).c2
  have f2 := fun v u o => (((R.s0 v).s1 u).alloc o).fz 2
  have c3 := fun v u x o => ((((R.s0 v).s1 u).s2 x).alloc o).c3
  have f3 := fun v u x o => ((((R.s0 v).s1 u).s2 x).alloc o).fz 3
  go_wp2_with (fail)
  refine bodyPost_ret (ret_tok rfl ((R.sets _ _ _ _).alloc _) rfl rfl) rfl ?_
  refine ⟨rfl, (below_sets ?_ (Nat.le_refl _) _ _ _ _).alloc ?_ _⟩
  · exact ((Below.refl _ w).alloc (Nat.le_refl _) _).trans (hb1.mono (by simp))
  · simp; omega
set_option maxHeartbeats 4000000 in
set_option maxRecDepth 100000 in
theorem next_none (s : ByteArray) (hs : s.size ≤ 140737488351232) (p a : Nat) (w : World) (hk : skipF s p = a) (hp : p ≤ s.size) (ha : a < s.size) (h0 : kindF (byteAt s a) = 0) :
    Calls Try.prog 39 #[.string s, .int .i64 p] w (Ret (.tuple #[.agg #[.int .u8 0, .int .i64 0, .int .i64 0, .string ⟨#[]⟩], .int .i64 a, .int .i64 4]) w) := by
  obtain ⟨rest, hrest⟩ : ∃ r, s.extract a s.size = r := ⟨_, rfl⟩
  have hz : rest.size = s.size - a := by rw [← hrest]; exact sub_size s a
  have hsub : sub s a = rest := hrest
  have hpos : 0 < rest.size := by omega
  have hby : byteAt s a = (rest[0].toNat : Int) := by
    have h1 := sub_data s a
    rw [hsub] at h1
    unfold byteAt
    have h2 : rest.data.toList[0]? = some rest[0] := by rw [List.getElem?_eq_getElem (by rw [data_len]; exact hpos)]; rfl
    rw [h1, List.getElem?_drop, Nat.add_zero] at h2
    rw [List.getD_eq_getElem?_getD, h2]
    rfl
  have hap : ((a : Int) == (s.size : Int)) = false := by simp; omega
  rw [hby] at h0
  go_enter Try.func39, Try.ntmps39
  go_wp2_with (fail)
  refine (skip_any s hs p _).mono ?_
  rintro e1 w1 ⟨rfl, hb1⟩
  rw [hk]
  have R := (Row4.new w (.int .u8 0) (.int .i64 0) (.int .i64 0) (.string ⟨#[]⟩)).below hb1
  have hlt := R.lt
  have hB1 : Below w.heap.size w w1 := ((Below.refl _ w).alloc (Nat.le_refl _) _).trans (hb1.mono (by simp))
  go_wp2_with (fail)
  refine (kind_any _ _).mono ?_
  rintro e2 w2 ⟨rfl, hb2⟩
  rw [h0]
  have R2 := (R.alloc (.cells #[.int .u8 0, .int .i64 a, .int .i64 a, .string ⟨#[]⟩] 60)).below hb2
  have T2 := (Row4.new w1 (.int .u8 0) (.int .i64 a) (.int .i64 a) (.string ⟨#[]⟩)).below hb2
  have hB2 : Below w.heap.size w w2 := (hB1.alloc hB1.size _).trans (hb2.mono (by simp; omega))
  have hl2 : w1.heap.size < w2.heap.size := T2.lt
  have tc0 := T2.c0
  have tf0 := T2.fz 0
  obtain ⟨g, hg⟩ : ∃ g, w1.heap.size = g := ⟨_, rfl⟩
  rw [hg] at T2 hl2 tc0 tf0 ⊢
  have hne : w.heap.size ≠ g := by omega
  have R3 := R2.other hne 0 (.int .u8 0)
  have r0 := R3.c0
  have rf0 := R3.fz 0
  have r1 := fun v => (R3.s0 v).c1
  have rf1 := fun v => (R3.s0 v).fz 1
  have r2 := fun v u => ((R3.s0 v).s1 u).c2
  have rf2 := fun v u => ((R3.s0 v).s1 u).fz 2
  have r3 := fun v u x => (((R3.s0 v).s1 u).s2 x).c3
  have rf3 := fun v u x => (((R3.s0 v).s1 u).s2 x).fz 3
  have hw : IntKind.i64.wrap (a : Int) = a := by rw [IntKind.wrap_i64]; omega
  go_wp2_with (fail)
  refine bodyPost_ret (ret_tok rfl (R3.sets _ _ _ _) rfl rfl) rfl ?_
  exact ⟨rfl, below_sets (hB2.setCell (p := ⟨g, 0, none⟩) (by show w.heap.size ≤ g; omega) _) (Nat.le_refl _) _ _ _ _⟩
set_option maxHeartbeats 4000000 in
set_option maxRecDepth 100000 in
theorem next_str_err (s : ByteArray) (hs : s.size ≤ 140737488351232) (p a : Nat) (w : World) (hk : skipF s p = a) (hp : p ≤ s.size) (ha : a < s.size) (h0 : kindF (byteAt s a) = 83) (xs : List Int) (m : Nat) (e : Int) (hr : scanF (sub s a) = (xs, m, e)) (he : e ≠ 0) :
    Calls Try.prog 39 #[.string s, .int .i64 p] w (Ret (.tuple #[.agg #[.int .u8 0, .int .i64 0, .int .i64 0, .string ⟨#[]⟩], .int .i64 ((a : Int) + (m : Int)), .int .i64 e]) w) := by
  obtain ⟨rest, hrest⟩ : ∃ r, s.extract a s.size = r := ⟨_, rfl⟩
  have hz : rest.size = s.size - a := by rw [← hrest]; exact sub_size s a
  have hsub : sub s a = rest := hrest
  have hpos : 0 < rest.size := by omega
  have hby : byteAt s a = (rest[0].toNat : Int) := by
    have h1 := sub_data s a
    rw [hsub] at h1
    unfold byteAt
    have h2 : rest.data.toList[0]? = some rest[0] := by rw [List.getElem?_eq_getElem (by rw [data_len]; exact hpos)]; rfl
    rw [h1, List.getElem?_drop, Nat.add_zero] at h2
    rw [List.getD_eq_getElem?_getD, h2]
    rfl
  have hap : ((a : Int) == (s.size : Int)) = false := by simp; omega
  rw [hby] at h0
  go_enter Try.func39, Try.ntmps39
  go_wp2_with (fail)
  refine (skip_any s hs p _).mono ?_
  rintro e1 w1 ⟨rfl, hb1⟩
  rw [hk]
  have R := (Row4.new w (.int .u8 0) (.int .i64 0) (.int .i64 0) (.string ⟨#[]⟩)).below hb1
  have hlt := R.lt
  have hB1 : Below w.heap.size w w1 := ((Below.refl _ w).alloc (Nat.le_refl _) _).trans (hb1.mono (by simp))
  go_wp2_with (fail)
  refine (kind_any _ _).mono ?_
  rintro e2 w2 ⟨rfl, hb2⟩
  rw [h0]
  have R2 := (R.alloc (.cells #[.int .u8 0, .int .i64 a, .int .i64 a, .string ⟨#[]⟩] 60)).below hb2
  have T2 := (Row4.new w1 (.int .u8 0) (.int .i64 a) (.int .i64 a) (.string ⟨#[]⟩)).below hb2
  have hB2 : Below w.heap.size w w2 := (hB1.alloc hB1.size _).trans (hb2.mono (by simp; omega))
  have hl2 : w1.heap.size < w2.heap.size := T2.lt
  have tc0 := T2.c0
  have tf0 := T2.fz 0
  obtain ⟨g, hg⟩ : ∃ g, w1.heap.size = g := ⟨_, rfl⟩
  rw [hg] at T2 hl2 tc0 tf0 ⊢
  have hne : w.heap.size ≠ g := by omega
  have hat := (scan_right rest).1.at'
  have hS := scan37_any rest (by omega)
  have hr' : scanF rest = (xs, m, e) := by first | exact hr | (rw [← hsub]; exact hr)
  rw [hr'] at hat hS
  dsimp only at hat hS
  have heb : (e != 0) = true := by simpa using he
  have hw : IntKind.i64.wrap ((a : Int) + (m : Int)) = (a : Int) + (m : Int) := by rw [IntKind.wrap_i64]; omega
  go_wp2_with (fail)
  refine (hS _).mono ?_
  rintro e4 w4 ⟨rfl, hb4⟩
  have R4 := (R2.other hne 0 (.int .u8 83)).below hb4
  have T4 := (T2.s0 (.int .u8 83)).below hb4
  have hB4 : Below w.heap.size w w4 := (hB2.setCell (p := ⟨g, 0, none⟩) (by show w.heap.size ≤ g; omega) _).trans (hb4.mono (by simp; omega))
  have tc3 := T4.c3
  have tf3 := T4.fz 3
  have R5 := R4.other hne 3 (.string (strOfNums xs))
  have r0 := R5.c0
  have rf0 := R5.fz 0
  have r1 := fun v => (R5.s0 v).c1
  have rf1 := fun v => (R5.s0 v).fz 1
  have r2 := fun v u => ((R5.s0 v).s1 u).c2
  have rf2 := fun v u => ((R5.s0 v).s1 u).fz 2
  have r3 := fun v u x => (((R5.s0 v).s1 u).s2 x).c3
  have rf3 := fun v u x => (((R5.s0 v).s1 u).s2 x).fz 3
  go_wp2_with (fail)
  refine bodyPost_ret (ret_tok rfl (R5.sets _ _ _ _) rfl rfl) rfl ?_
  exact ⟨rfl, below_sets (hB4.setCell (p := ⟨g, 3, none⟩) (by show w.heap.size ≤ g; omega) _) (Nat.le_refl _) _ _ _ _⟩
set_option maxHeartbeats 4000000 in
set_option maxRecDepth 100000 in
theorem next_str (s : ByteArray) (hs : s.size ≤ 140737488351232) (p a : Nat) (w : World) (hk : skipF s p = a) (hp : p ≤ s.size) (ha : a < s.size) (h0 : kindF (byteAt s a) = 83) (xs : List Int) (m : Nat) (hr : scanF (sub s a) = (xs, m, 0)) :
    Calls Try.prog 39 #[.string s, .int .i64 p] w (Ret (.tuple #[.agg #[.int .u8 83, .int .i64 a, .int .i64 ((a : Int) + (m : Int)), .string (strOfNums xs)], .int .i64 ((a : Int) + (m : Int)), .int .i64 0]) w) := by
  obtain ⟨rest, hrest⟩ : ∃ r, s.extract a s.size = r := ⟨_, rfl⟩
  have hz : rest.size = s.size - a := by rw [← hrest]; exact sub_size s a
  have hsub : sub s a = rest := hrest
  have hpos : 0 < rest.size := by omega
  have hby : byteAt s a = (rest[0].toNat : Int) := by
    have h1 := sub_data s a
    rw [hsub] at h1
    unfold byteAt
    have h2 : rest.data.toList[0]? = some rest[0] := by rw [List.getElem?_eq_getElem (by rw [data_len]; exact hpos)]; rfl
    rw [h1, List.getElem?_drop, Nat.add_zero] at h2
    rw [List.getD_eq_getElem?_getD, h2]
    rfl
  have hap : ((a : Int) == (s.size : Int)) = false := by simp; omega
  rw [hby] at h0
  go_enter Try.func39, Try.ntmps39
  go_wp2_with (fail)
  refine (skip_any s hs p _).mono ?_
  rintro e1 w1 ⟨rfl, hb1⟩
  rw [hk]
  have R := (Row4.new w (.int .u8 0) (.int .i64 0) (.int .i64 0) (.string ⟨#[]⟩)).below hb1
  have hlt := R.lt
  have hB1 : Below w.heap.size w w1 := ((Below.refl _ w).alloc (Nat.le_refl _) _).trans (hb1.mono (by simp))
  go_wp2_with (fail)
  refine (kind_any _ _).mono ?_
  rintro e2 w2 ⟨rfl, hb2⟩
  rw [h0]
  have R2 := (R.alloc (.cells #[.int .u8 0, .int .i64 a, .int .i64 a, .string ⟨#[]⟩] 60)).below hb2
  have T2 := (Row4.new w1 (.int .u8 0) (.int .i64 a) (.int .i64 a) (.string ⟨#[]⟩)).below hb2
  have hB2 : Below w.heap.size w w2 := (hB1.alloc hB1.size _).trans (hb2.mono (by simp; omega))
  have hl2 : w1.heap.size < w2.heap.size := T2.lt
  have tc0 := T2.c0
  have tf0 := T2.fz 0
  obtain ⟨g, hg⟩ : ∃ g, w1.heap.size = g := ⟨_, rfl⟩
  rw [hg] at T2 hl2 tc0 tf0 ⊢
  have hne : w.heap.size ≠ g := by omega
  have hat := (scan_right rest).1.at'
  have hS := scan37_any rest (by omega)
  have hr' : scanF rest = (xs, m, 0) := by first | exact hr | (rw [← hsub]; exact hr)
  rw [hr'] at hat hS
  dsimp only at hat hS
  have hw : IntKind.i64.wrap ((a : Int) + (m : Int)) = (a : Int) + (m : Int) := by rw [IntKind.wrap_i64]; omega
  go_wp2_with (fail)
  refine (hS _).mono ?_
  rintro e4 w4 ⟨rfl, hb4⟩
  have R4 := (R2.other hne 0 (.int .u8 83)).below hb4
  have T4 := (T2.s0 (.int .u8 83)).below hb4
  have hB4 : Below w.heap.size w w4 := (hB2.setCell (p := ⟨g, 0, none⟩) (by show w.heap.size ≤ g; omega) _).trans (hb4.mono (by simp; omega))
  have tc3 := T4.c3
  have tf3 := T4.fz 3
  have T5 := T4.s3 (.string (strOfNums xs))
  have tc2 := T5.c2
  have tf2 := T5.fz 2
  go_wp2_with (fail)
  have T6 := T5.s2 (.int .i64 ((a : Int) + (m : Int)))
  have R6 := (R4.other hne 3 (.string (strOfNums xs))).other hne 2 (.int .i64 ((a : Int) + (m : Int)))
  have hB6 : Below w.heap.size w ((w4.setCell ⟨g, 3, none⟩ (.string (strOfNums xs))).setCell ⟨g, 2, none⟩ (.int .i64 ((a : Int) + (m : Int)))) :=
    (hB4.setCell (p := ⟨g, 3, none⟩) (by show w.heap.size ≤ g; omega) _).setCell (p := ⟨g, 2, none⟩) (by show w.heap.size ≤ g; omega) _
  clear tc0 tf0 tc3 tf3 tc2 tf2 T5 R4 T4 hB4 hS hb4 R2 T2 hB2 hb2 R hB1 hb1
  generalize (w4.setCell ⟨g, 3, none⟩ (.string (strOfNums xs))).setCell ⟨g, 2, none⟩ (.int .i64 ((a : Int) + (m : Int))) = W6 at T6 R6 hB6 ⊢
  have tc0 := T6.c0
  have tc1 := T6.c1
  have tc2 := T6.c2
  have tc3 := T6.c3
  have r0 := R6.c0
  have rf0 := R6.fz 0
  have r1 := fun v => (R6.s0 v).c1
  have rf1 := fun v => (R6.s0 v).fz 1
  have r2 := fun v u => ((R6.s0 v).s1 u).c2
  have rf2 := fun v u => ((R6.s0 v).s1 u).fz 2
  have r3 := fun v u x => (((R6.s0 v).s1 u).s2 x).c3
  have rf3 := fun v u x => (((R6.s0 v).s1 u).s2 x).fz 3
  go_region
  go_wp2_with (fail)
  refine bodyPost_ret (ret_tok (g := w.heap.size) rfl (R6.sets _ _ _ _) rfl rfl) rfl ?_
  exact ⟨rfl, (below_sets hB6 (Nat.le_refl _) _ _ _ _).drew⟩
set_option maxHeartbeats 4000000 in
set_option maxRecDepth 100000 in
theorem next_num_err (s : ByteArray) (hs : s.size ≤ 140737488351232) (p a : Nat) (w : World) (hk : skipF s p = a) (hp : p ≤ s.size) (ha : a < s.size) (h0 : kindF (byteAt s a) = 78) (m : Nat) (e : Int) (hr : numF (sub s a) = (m, e)) (he : e ≠ 0) :
    Calls Try.prog 39 #[.string s, .int .i64 p] w (Ret (.tuple #[.agg #[.int .u8 0, .int .i64 0, .int .i64 0, .string ⟨#[]⟩], .int .i64 ((a : Int) + (m : Int)), .int .i64 e]) w) := by
  obtain ⟨rest, hrest⟩ : ∃ r, s.extract a s.size = r := ⟨_, rfl⟩
  have hz : rest.size = s.size - a := by rw [← hrest]; exact sub_size s a
  have hsub : sub s a = rest := hrest
  have hpos : 0 < rest.size := by omega
  have hby : byteAt s a = (rest[0].toNat : Int) := by
    have h1 := sub_data s a
    rw [hsub] at h1
    unfold byteAt
    have h2 : rest.data.toList[0]? = some rest[0] := by rw [List.getElem?_eq_getElem (by rw [data_len]; exact hpos)]; rfl
    rw [h1, List.getElem?_drop, Nat.add_zero] at h2
    rw [List.getD_eq_getElem?_getD, h2]
    rfl
  have hap : ((a : Int) == (s.size : Int)) = false := by simp; omega
  rw [hby] at h0
  go_enter Try.func39, Try.ntmps39
  go_wp2_with (fail)
  refine (skip_any s hs p _).mono ?_
  rintro e1 w1 ⟨rfl, hb1⟩
  rw [hk]
  have R := (Row4.new w (.int .u8 0) (.int .i64 0) (.int .i64 0) (.string ⟨#[]⟩)).below hb1
  have hlt := R.lt
  have hB1 : Below w.heap.size w w1 := ((Below.refl _ w).alloc (Nat.le_refl _) _).trans (hb1.mono (by simp))
  go_wp2_with (fail)
  refine (kind_any _ _).mono ?_
  rintro e2 w2 ⟨rfl, hb2⟩
  rw [h0]
  have R2 := (R.alloc (.cells #[.int .u8 0, .int .i64 a, .int .i64 a, .string ⟨#[]⟩] 60)).below hb2
  have T2 := (Row4.new w1 (.int .u8 0) (.int .i64 a) (.int .i64 a) (.string ⟨#[]⟩)).below hb2
  have hB2 : Below w.heap.size w w2 := (hB1.alloc hB1.size _).trans (hb2.mono (by simp; omega))
  have hl2 : w1.heap.size < w2.heap.size := T2.lt
  have tc0 := T2.c0
  have tf0 := T2.fz 0
  obtain ⟨g, hg⟩ : ∃ g, w1.heap.size = g := ⟨_, rfl⟩
  rw [hg] at T2 hl2 tc0 tf0 ⊢
  have hne : w.heap.size ≠ g := by omega
  have hat := (numF_at rest).1
  have hS := num_any rest (by omega)
  have hr' : numF rest = (m, e) := by first | exact hr | (rw [← hsub]; exact hr)
  rw [hr'] at hat hS
  dsimp only at hat hS
  have hw : IntKind.i64.wrap ((a : Int) + (m : Int)) = (a : Int) + (m : Int) := by rw [IntKind.wrap_i64]; omega
  go_wp2_with (fail)
  refine (hS _).mono ?_
  rintro e4 w4 ⟨rfl, hb4⟩
  have R4 := (R2.other hne 0 (.int .u8 78)).below hb4
  have T4 := (T2.s0 (.int .u8 78)).below hb4
  have hB4 : Below w.heap.size w w4 := (hB2.setCell (p := ⟨g, 0, none⟩) (by show w.heap.size ≤ g; omega) _).trans (hb4.mono (by simp; omega))
  have heb : (e != 0) = true := by simpa using he
  have heb2 : (e == 0) = false := by simpa using he
  have r0 := R4.c0
  have rf0 := R4.fz 0
  have r1 := fun v => (R4.s0 v).c1
  have rf1 := fun v => (R4.s0 v).fz 1
  have r2 := fun v u => ((R4.s0 v).s1 u).c2
  have rf2 := fun v u => ((R4.s0 v).s1 u).fz 2
  have r3 := fun v u x => (((R4.s0 v).s1 u).s2 x).c3
  have rf3 := fun v u x => (((R4.s0 v).s1 u).s2 x).fz 3
  go_wp2_with (fail)
  refine bodyPost_ret (ret_tok rfl (R4.sets _ _ _ _) rfl rfl) rfl ?_
  exact ⟨rfl, below_sets hB4 (Nat.le_refl _) _ _ _ _⟩
set_option maxHeartbeats 4000000 in
set_option maxRecDepth 100000 in
theorem next_num (s : ByteArray) (hs : s.size ≤ 140737488351232) (p a : Nat) (w : World) (hk : skipF s p = a) (hp : p ≤ s.size) (ha : a < s.size) (h0 : kindF (byteAt s a) = 78) (m : Nat) (hr : numF (sub s a) = (m, 0)) (tx : ByteArray) (hx : (sub s a).extract 0 m = tx) :
    Calls Try.prog 39 #[.string s, .int .i64 p] w (Ret (.tuple #[.agg #[.int .u8 78, .int .i64 a, .int .i64 ((a : Int) + (m : Int)), .string tx], .int .i64 ((a : Int) + (m : Int)), .int .i64 0]) w) := by
  obtain ⟨rest, hrest⟩ : ∃ r, s.extract a s.size = r := ⟨_, rfl⟩
  have hz : rest.size = s.size - a := by rw [← hrest]; exact sub_size s a
  have hsub : sub s a = rest := hrest
  have hpos : 0 < rest.size := by omega
  have hby : byteAt s a = (rest[0].toNat : Int) := by
    have h1 := sub_data s a
    rw [hsub] at h1
    unfold byteAt
    have h2 : rest.data.toList[0]? = some rest[0] := by rw [List.getElem?_eq_getElem (by rw [data_len]; exact hpos)]; rfl
    rw [h1, List.getElem?_drop, Nat.add_zero] at h2
    rw [List.getD_eq_getElem?_getD, h2]
    rfl
  have hap : ((a : Int) == (s.size : Int)) = false := by simp; omega
  rw [hby] at h0
  go_enter Try.func39, Try.ntmps39
  go_wp2_with (fail)
  refine (skip_any s hs p _).mono ?_
  rintro e1 w1 ⟨rfl, hb1⟩
  rw [hk]
  have R := (Row4.new w (.int .u8 0) (.int .i64 0) (.int .i64 0) (.string ⟨#[]⟩)).below hb1
  have hlt := R.lt
  have hB1 : Below w.heap.size w w1 := ((Below.refl _ w).alloc (Nat.le_refl _) _).trans (hb1.mono (by simp))
  go_wp2_with (fail)
  refine (kind_any _ _).mono ?_
  rintro e2 w2 ⟨rfl, hb2⟩
  rw [h0]
  have R2 := (R.alloc (.cells #[.int .u8 0, .int .i64 a, .int .i64 a, .string ⟨#[]⟩] 60)).below hb2
  have T2 := (Row4.new w1 (.int .u8 0) (.int .i64 a) (.int .i64 a) (.string ⟨#[]⟩)).below hb2
  have hB2 : Below w.heap.size w w2 := (hB1.alloc hB1.size _).trans (hb2.mono (by simp; omega))
  have hl2 : w1.heap.size < w2.heap.size := T2.lt
  have tc0 := T2.c0
  have tf0 := T2.fz 0
  obtain ⟨g, hg⟩ : ∃ g, w1.heap.size = g := ⟨_, rfl⟩
  rw [hg] at T2 hl2 tc0 tf0 ⊢
  have hne : w.heap.size ≠ g := by omega
  have hat := (numF_at rest).1
  have hS := num_any rest (by omega)
  have hr' : numF rest = (m, 0) := by first | exact hr | (rw [← hsub]; exact hr)
  rw [hr'] at hat hS
  dsimp only at hat hS
  have hw : IntKind.i64.wrap ((a : Int) + (m : Int)) = (a : Int) + (m : Int) := by rw [IntKind.wrap_i64]; omega
  go_wp2_with (fail)
  refine (hS _).mono ?_
  rintro e4 w4 ⟨rfl, hb4⟩
  have R4 := (R2.other hne 0 (.int .u8 78)).below hb4
  have T4 := (T2.s0 (.int .u8 78)).below hb4
  have hB4 : Below w.heap.size w w4 := (hB2.setCell (p := ⟨g, 0, none⟩) (by show w.heap.size ≤ g; omega) _).trans (hb4.mono (by simp; omega))
  have htx : rest.extract 0 m = tx := by first | exact hx | (rw [← hsub]; exact hx)
  have tc3 := T4.c3
  have tf3 := T4.fz 3
  have T5 := T4.s3 (.string tx)
  have tc2 := T5.c2
  have tf2 := T5.fz 2
  go_wp2_with (fail)
  have T6 := T5.s2 (.int .i64 ((a : Int) + (m : Int)))
  have R6 := (R4.other hne 3 (.string tx)).other hne 2 (.int .i64 ((a : Int) + (m : Int)))
  have hB6 : Below w.heap.size w ((w4.setCell ⟨g, 3, none⟩ (.string tx)).setCell ⟨g, 2, none⟩ (.int .i64 ((a : Int) + (m : Int)))) :=
    (hB4.setCell (p := ⟨g, 3, none⟩) (by show w.heap.size ≤ g; omega) _).setCell (p := ⟨g, 2, none⟩) (by show w.heap.size ≤ g; omega) _
  clear tc0 tf0 tc3 tf3 tc2 tf2 T5 R4 T4 hB4 hS hb4 R2 T2 hB2 hb2 R hB1 hb1
  generalize (w4.setCell ⟨g, 3, none⟩ (.string tx)).setCell ⟨g, 2, none⟩ (.int .i64 ((a : Int) + (m : Int))) = W6 at T6 R6 hB6 ⊢
  have tc0 := T6.c0
  have tc1 := T6.c1
  have tc2 := T6.c2
  have tc3 := T6.c3
  have r0 := R6.c0
  have rf0 := R6.fz 0
  have r1 := fun v => (R6.s0 v).c1
  have rf1 := fun v => (R6.s0 v).fz 1
  have r2 := fun v u => ((R6.s0 v).s1 u).c2
  have rf2 := fun v u => ((R6.s0 v).s1 u).fz 2
  have r3 := fun v u x => (((R6.s0 v).s1 u).s2 x).c3
  have rf3 := fun v u x => (((R6.s0 v).s1 u).s2 x).fz 3
  go_region
  go_wp2_with (fail)
  refine bodyPost_ret (ret_tok (g := w.heap.size) rfl (R6.sets _ _ _ _) rfl rfl) rfl ?_
  exact ⟨rfl, (below_sets hB6 (Nat.le_refl _) _ _ _ _).drew⟩
end Go.Proofs.Ytlbokaekhjjabaa

/-
  token's Next: its walk where a word stands.
-/
namespace Go.Proofs.Ytlbokaekhjjabaa
open Go.RowKit PureT Go.Proofs.YtlbokaekhjjabaaW.PrintWords
set_option linter.unusedVariables false
theorem min2_i (k k' : IntKind) (x y : Int) : Builtin.min2 (.int k x) (.int k' y) = pure (.int k (if y < x then y else x)) := by simp only [Builtin.min2]
theorem min_2 (ats : Array TypeId) (ty : TypeId) (a b : Value) : Builtin.min_ ats ty #[a, b] = (Builtin.min2 a b >>= fun s => pure s) := by simp only [Builtin.min_, List.foldlM_cons, List.foldlM_nil]
attribute [local go_sem] min2_i min_2

theorem Row4.dn {W : World} {g : Nat} {a b c d : Value} (h : Row4 W g a b c d) (m : Nat) : Row4 (W.drewN m) g a b c d := h
theorem byteAt_get (s : ByteArray) (n : Nat) (h : n < s.size) : byteAt s n = (s[n].toNat : Int) := by
  unfold byteAt
  have h2 : s.data.toList[n]? = some s[n] := by rw [List.getElem?_eq_getElem (by rw [data_len]; exact h)]; rfl
  rw [List.getD_eq_getElem?_getD, h2]
  rfl
theorem heq_of (wd rest : ByteArray) (q : Nat) (h1 : q < wd.size) (h2 : q < rest.size) (hb : byteAt wd q = byteAt rest q) : ((wd[q].toNat : Int) == (rest[q].toNat : Int)) = true := by
  rw [← byteAt_get wd q h1, ← byteAt_get rest q h2]; simpa using hb
theorem hne_of (wd rest : ByteArray) (q : Nat) (h1 : q < wd.size) (h2 : q < rest.size) (hb : ¬ byteAt wd q = byteAt rest q) : ((wd[q].toNat : Int) == (rest[q].toNat : Int)) = false := by
  rw [← byteAt_get wd q h1, ← byteAt_get rest q h2]; simpa using hb
set_option maxHeartbeats 4000000 in
set_option maxRecDepth 100000 in
theorem next_word (s : ByteArray) (hs : s.size ≤ 140737488351232) (p a : Nat) (w : World) (hk : skipF s p = a) (hp : p ≤ s.size) (ha : a < s.size) (k : Int) (h0 : kindF (byteAt s a) = k) (hk0 : k ≠ 0) (hk1 : k ≠ 83) (hk2 : k ≠ 78) (hkr : 0 ≤ k ∧ k ≤ 255) (tk : Tok) (n : Nat) (er : Int) (hres : wordV k a (wordF k) (sub s a) (comN (wordF k) (sub s a) 0) = (tk, n, er)) :
    Calls Try.prog 39 #[.string s, .int .i64 p] w (Ret (.tuple #[.agg #[.int .u8 tk.1, .int .i64 tk.2.1, .int .i64 tk.2.2.1, .string tk.2.2.2], .int .i64 n, .int .i64 er]) w) := by
  obtain ⟨rest, hrest⟩ : ∃ r, s.extract a s.size = r := ⟨_, rfl⟩
  have hz : rest.size = s.size - a := by rw [← hrest]; exact sub_size s a
  have hsub : sub s a = rest := hrest
  have hpos : 0 < rest.size := by omega
  have hby : byteAt s a = (rest[0].toNat : Int) := by
    have h1 := sub_data s a
    rw [hsub] at h1
    unfold byteAt
    have h2 : rest.data.toList[0]? = some rest[0] := by rw [List.getElem?_eq_getElem (by rw [data_len]; exact hpos)]; rfl
    rw [h1, List.getElem?_drop, Nat.add_zero] at h2
    rw [List.getD_eq_getElem?_getD, h2]
    rfl
  have hzz : a + rest.size ≤ 140737488351232 := by omega
  clear hz
  have hap : ((a : Int) == (s.size : Int)) = false := by simp; omega
  rw [hby] at h0
  go_enter Try.func39, Try.ntmps39
  go_wp2_with (fail)
  refine (skip_any s hs p _).mono ?_
  rintro e1 w1 ⟨rfl, hb1⟩
  rw [hk]
  have R := (Row4.new w (.int .u8 0) (.int .i64 0) (.int .i64 0) (.string ⟨#[]⟩)).below hb1
  have hlt := R.lt
  have hB1 : Below w.heap.size w w1 := ((Below.refl _ w).alloc (Nat.le_refl _) _).trans (hb1.mono (by simp))
  go_wp2_with (fail)
  refine (kind_any _ _).mono ?_
  rintro e2 w2 ⟨rfl, hb2⟩
  rw [h0]
  have R2 := (R.alloc (.cells #[.int .u8 0, .int .i64 a, .int .i64 a, .string ⟨#[]⟩] 60)).below hb2
  have T2 := (Row4.new w1 (.int .u8 0) (.int .i64 a) (.int .i64 a) (.string ⟨#[]⟩)).below hb2
  have hB2 : Below w.heap.size w w2 := (hB1.alloc hB1.size _).trans (hb2.mono (by simp; omega))
  have hl2 : w1.heap.size < w2.heap.size := T2.lt
  have tc0 := T2.c0
  have tf0 := T2.fz 0
  obtain ⟨g, hg⟩ : ∃ g, w1.heap.size = g := ⟨_, rfl⟩
  rw [hg] at T2 hl2 tc0 tf0 ⊢
  have hne : w.heap.size ≠ g := by omega
  have kb0 : (k == 0) = false := by simpa using hk0
  have kb1 : (k == 83) = false := by simpa using hk1
  have kb2 : (k == 78) = false := by simpa using hk2
  have HRes := Lib.hid (show wordV k a (wordF k) rest (comN (wordF k) rest 0) = (tk, n, er) by first | exact hres | (rw [← hsub]; exact hres))
  clear hres
  obtain ⟨wd, hwd⟩ : ∃ x, wordF k = x := ⟨_, rfl⟩
  have hws : wd.size ≤ 5 := by rw [← hwd]; exact (wordF_size k).2
  have hW := word_any k
  rw [hwd] at hW HRes
  go_wp2_with (fail)
  refine (hW _ hkr.1 hkr.2).mono ?_
  rintro e4 w4 ⟨rfl, hb4⟩
  have R4 := (R2.other hne 0 (.int .u8 k)).below hb4
  have T4 := (T2.s0 (.int .u8 k)).below hb4
  have hB4 : Below w.heap.size w w4 := (hB2.setCell (p := ⟨g, 0, none⟩) (by show w.heap.size ≤ g; omega) _).trans (hb4.mono (by simp; omega))
  clear hb4 R2 T2 hB2 hb2 R hB1 hb1 tc0 tf0 hW
  go_wp2_with (fail)
  go_loopw [8] (fun i wr => ∃ q : Nat, i = .int .i64 q ∧ q ≤ wd.size ∧ q ≤ rest.size ∧ Hid (comN wd rest 0 = comN wd rest q) ∧ Row4 wr w.heap.size (.int .u8 0) (.int .i64 0) (.int .i64 0) (.string ⟨#[]⟩) ∧ Row4 wr g (.int .u8 k) (.int .i64 a) (.int .i64 a) (.string ⟨#[]⟩) ∧ Below w.heap.size w wr) (fun i _ => wd.size - (intOf i).toNat)
  case atStart => exact ⟨0, rfl, by omega, by omega, rfl, R4, T4, hB4⟩
  case round =>
    obtain ⟨q, rfl, hq1, hq2, hc, R5, T5, hB5⟩ := hrel
    clear R4 T4 hB4
    have hstep : comN wd rest q = if h : q < wd.size ∧ q < rest.size ∧ byteAt wd q = byteAt rest q then comN wd rest (q + 1) else q := by rw [comN]
    by_cases hrw : rest.size < wd.size
    · have hrw1 := eq_true hrw
      have hrw2 : ((rest.size : Int) < (wd.size : Int)) = True := eq_true (by omega)
      by_cases hin : q < wd.size ∧ q < rest.size
      · have hi1 := hin.1
        have hi2 := hin.2
        have g1 : decide (q < wd.size) = true := decide_eq_true hi1
        have g2 : decide (q < rest.size) = true := decide_eq_true hi2
        by_cases hb : byteAt wd q = byteAt rest q
        · rw [dif_pos ⟨hi1, hi2, hb⟩] at hstep
          have HC := Lib.hid (hc.out.trans hstep)
          clear hstep hc
          have heq := heq_of wd rest q hi1 hi2 hb
          go_wp2_with (fail)
          go_quiet (fail)
          go_wp2_with (fail)
          go_roundw
          case rel => exact ⟨q + 1, rfl, by omega, by omega, HC, R5.dn _, T5.dn _, pw_below_drewN hB5 _⟩
          case measure => simp [intOf]; omega
        · have heq := hne_of wd rest q hi1 hi2 hb
          have n1 : ((q : Int) == (wd.size : Int)) = false := by simp; omega
          have n2 : ((q : Int) == (rest.size : Int)) = false := by simp; omega
          rw [dif_neg (fun h => hb h.2.2)] at hstep
          have hv := HRes.out
          rw [hc.out.trans hstep] at hv
          clear hstep hc HRes
          unfold wordV at hv
          rw [if_neg (by omega), if_neg (by omega)] at hv
          cases hv
          have hw : IntKind.i64.wrap ((a : Int) + (q : Int)) = (a : Int) + (q : Int) := by rw [IntKind.wrap_i64]; omega
          have rc0 := fun m => (R5.dn m).c0
          have rf0 := fun m => (R5.dn m).fz 0
          have rc1 := fun m v => ((R5.dn m).s0 v).c1
          have rf1 := fun m v => ((R5.dn m).s0 v).fz 1
          have rc2 := fun m v u => (((R5.dn m).s0 v).s1 u).c2
          have rf2 := fun m v u => (((R5.dn m).s0 v).s1 u).fz 2
          have rc3 := fun m v u x => ((((R5.dn m).s0 v).s1 u).s2 x).c3
          have rf3 := fun m v u x => ((((R5.dn m).s0 v).s1 u).s2 x).fz 3
          go_wp2_with (fail)
          go_quiet (fail)
          go_wp2_with (fail)
          refine bodyPost_ret (ret_tok rfl ((R5.dn _).sets _ _ _ _) rfl rfl) rfl ?_
          exact ⟨rfl, below_sets (pw_below_drewN hB5 _) (Nat.le_refl _) _ _ _ _⟩
      · have hq : q = rest.size := by omega
        have g2 : decide (q < rest.size) = false := decide_eq_false (by omega)
        have n1 : ((q : Int) == (wd.size : Int)) = false := by simp; omega
        have n2 : ((q : Int) == (rest.size : Int)) = true := by simp; omega
        rw [dif_neg (fun h => hin ⟨h.1, h.2.1⟩)] at hstep
        have hv := HRes.out
        rw [hc.out.trans hstep] at hv
        clear hstep hc HRes
        unfold wordV at hv
        rw [if_neg (by omega), if_pos hq] at hv
        cases hv
        have hw : IntKind.i64.wrap ((a : Int) + (q : Int)) = (a : Int) + (q : Int) := by rw [IntKind.wrap_i64]; omega
        clear hq
        have rc0 := fun m => (R5.dn m).c0
        have rf0 := fun m => (R5.dn m).fz 0
        have rc1 := fun m v => ((R5.dn m).s0 v).c1
        have rf1 := fun m v => ((R5.dn m).s0 v).fz 1
        have rc2 := fun m v u => (((R5.dn m).s0 v).s1 u).c2
        have rf2 := fun m v u => (((R5.dn m).s0 v).s1 u).fz 2
        have rc3 := fun m v u x => ((((R5.dn m).s0 v).s1 u).s2 x).c3
        have rf3 := fun m v u x => ((((R5.dn m).s0 v).s1 u).s2 x).fz 3
        go_wp2_with (fail)
        go_quiet (fail)
        go_wp2_with (fail)
        refine bodyPost_ret (ret_tok rfl ((R5.dn _).sets _ _ _ _) rfl rfl) rfl ?_
        exact ⟨rfl, below_sets (pw_below_drewN hB5 _) (Nat.le_refl _) _ _ _ _⟩
    · have hrw1 := eq_false hrw
      have hrw2 : ((rest.size : Int) < (wd.size : Int)) = False := eq_false (by omega)
      by_cases hin : q < wd.size ∧ q < rest.size
      · have hi1 := hin.1
        have hi2 := hin.2
        have g1 : decide (q < wd.size) = true := decide_eq_true hi1
        have g2 : decide (q < rest.size) = true := decide_eq_true hi2
        by_cases hb : byteAt wd q = byteAt rest q
        · rw [dif_pos ⟨hi1, hi2, hb⟩] at hstep
          have HC := Lib.hid (hc.out.trans hstep)
          clear hstep hc
          have heq := heq_of wd rest q hi1 hi2 hb
          go_wp2_with (fail)
          go_quiet (fail)
          go_wp2_with (fail)
          go_roundw
          case rel => exact ⟨q + 1, rfl, by omega, by omega, HC, R5.dn _, T5.dn _, pw_below_drewN hB5 _⟩
          case measure => simp [intOf]; omega
        · have heq := hne_of wd rest q hi1 hi2 hb
          have n1 : ((q : Int) == (wd.size : Int)) = false := by simp; omega
          have n2 : ((q : Int) == (rest.size : Int)) = false := by simp; omega
          rw [dif_neg (fun h => hb h.2.2)] at hstep
          have hv := HRes.out
          rw [hc.out.trans hstep] at hv
          clear hstep hc HRes
          unfold wordV at hv
          rw [if_neg (by omega), if_neg (by omega)] at hv
          cases hv
          have hw : IntKind.i64.wrap ((a : Int) + (q : Int)) = (a : Int) + (q : Int) := by rw [IntKind.wrap_i64]; omega
          have rc0 := fun m => (R5.dn m).c0
          have rf0 := fun m => (R5.dn m).fz 0
          have rc1 := fun m v => ((R5.dn m).s0 v).c1
          have rf1 := fun m v => ((R5.dn m).s0 v).fz 1
          have rc2 := fun m v u => (((R5.dn m).s0 v).s1 u).c2
          have rf2 := fun m v u => (((R5.dn m).s0 v).s1 u).fz 2
          have rc3 := fun m v u x => ((((R5.dn m).s0 v).s1 u).s2 x).c3
          have rf3 := fun m v u x => ((((R5.dn m).s0 v).s1 u).s2 x).fz 3
          go_wp2_with (fail)
          go_quiet (fail)
          go_wp2_with (fail)
          refine bodyPost_ret (ret_tok rfl ((R5.dn _).sets _ _ _ _) rfl rfl) rfl ?_
          exact ⟨rfl, below_sets (pw_below_drewN hB5 _) (Nat.le_refl _) _ _ _ _⟩
      · have hq : q = wd.size := by omega
        have g2 : decide (q < wd.size) = false := decide_eq_false (by omega)
        have n1 : ((q : Int) == (wd.size : Int)) = true := by simp; omega
        rw [dif_neg (fun h => hin ⟨h.1, h.2.1⟩)] at hstep
        have hv := HRes.out
        rw [hc.out.trans hstep] at hv
        clear hstep hc HRes
        unfold wordV at hv
        rw [if_pos hq] at hv
        cases hv
        have hw : IntKind.i64.wrap ((a : Int) + (q : Int)) = (a : Int) + (q : Int) := by rw [IntKind.wrap_i64]; omega
        clear hq
        have tc2 := fun m => (T5.dn m).c2
        have tf2 := fun m => (T5.dn m).fz 2
        go_wp2_with (fail)
        go_quiet (fail)
        go_wp2_with (fail)
        generalize hW6 : World.setCell (World.drewN wr _) ⟨g, 2, none⟩ (.int .i64 ((a : Int) + (q : Int))) = W6
        have T6 : Row4 W6 g (.int .u8 k) (.int .i64 a) (.int .i64 ((a : Int) + (q : Int))) (.string ⟨#[]⟩) := by rw [← hW6]; exact (T5.dn _).s2 _
        have R6 : Row4 W6 w.heap.size (.int .u8 0) (.int .i64 0) (.int .i64 0) (.string ⟨#[]⟩) := by rw [← hW6]; exact (R5.dn _).other hne 2 _
        have hB6 : Below w.heap.size w W6 := by rw [← hW6]; exact (pw_below_drewN hB5 _).setCell (p := ⟨g, 2, none⟩) (by show w.heap.size ≤ g; omega) _
        clear hW6 tc2 tf2 R5 T5 hB5
        have uc0 := T6.c0
        have uc1 := T6.c1
        have uc2 := T6.c2
        have uc3 := T6.c3
        have r0 := R6.c0
        have rf0 := R6.fz 0
        have r1 := fun v => (R6.s0 v).c1
        have rf1 := fun v => (R6.s0 v).fz 1
        have r2 := fun v u => ((R6.s0 v).s1 u).c2
        have rf2 := fun v u => ((R6.s0 v).s1 u).fz 2
        have r3 := fun v u x => (((R6.s0 v).s1 u).s2 x).c3
        have rf3 := fun v u x => (((R6.s0 v).s1 u).s2 x).fz 3
        go_region
        go_wp2_with (fail)
        refine bodyPost_ret (ret_tok (g := w.heap.size) rfl (R6.sets _ _ _ _) rfl rfl) rfl ?_
        exact ⟨rfl, (below_sets hB6 (Nat.le_refl _) _ _ _ _).drew⟩
end Go.Proofs.Ytlbokaekhjjabaa

/-
  token's each: the closure, its walk over every loop body.
-/
namespace Go.Proofs.Ytlbokaekhjjabaa
open Go.RowKit Go.Shelf
set_option linter.unusedVariables false
attribute [local go_sem] Oper.semAt_some

def tokCells (t : Tok) : List Value := [.int .u8 t.1, .int .i64 t.2.1, .int .i64 t.2.2.1, .string t.2.2.2]
def tokVal (t : Tok) : Value := .agg #[.int .u8 t.1, .int .i64 t.2.1, .int .i64 t.2.2.1, .string t.2.2.2]
abbrev Item := Tok × Int
def encItem (x : Item) : Array Value := #[tokVal x.1, .int .i64 x.2]
/-- What the iterator yields from a place on. -/
def itemsGo (s : ByteArray) : Nat → Nat → List Item
  | 0, _ => []
  | k + 1, p => if (nextF s p).2.2 ≠ 0 then [((0, 0, (nextF s p).2.1, ⟨#[]⟩), (nextF s p).2.2)] else if (nextF s p).1.1 = 0 then [] else ((nextF s p).1, 0) :: itemsGo s k (nextF s p).2.1
def items (s : ByteArray) : List Item := itemsGo s (s.size + 1) 0
/-- The contract of Next at a text. -/
def NextIs (s : ByteArray) : Prop := ∀ (p : Nat) (W : World), p ≤ s.size → Calls Try.prog 39 #[.string s, .int .i64 p] W fun e w' =>
  e = .returned (.tuple #[tokVal (nextF s p).1, .int .i64 (nextF s p).2.1, .int .i64 (nextF s p).2.2]) ∧ Below W.heap.size W w'
theorem abides_below {β : Type} {B : Nat} {J : β → World → Prop} (hJ : AbidesFrom B J) {x : β} {W W' : World} (h : J x W) (hb : Below W.heap.size W W') : J x W' :=
  hJ x W W' none h ⟨hb.os, hb.tape, hb.output, hb.size, fun k hk _ => hb.block k hk⟩ (fun r e => by cases e)

/-- What a round that goes on keeps: the iterator's own box. -/
def Keep (k : Nat) (A B : World) : Prop := A.heap.size ≤ B.heap.size ∧ B.heap[k]? = A.heap[k]?
theorem Keep.refl (k : Nat) (A : World) : Keep k A A := ⟨Nat.le_refl _, rfl⟩
theorem Keep.trans {k : Nat} {A B C : World} (h : Keep k A B) (h' : Keep k B C) : Keep k A C := ⟨Nat.le_trans h.1 h'.1, h'.2.trans h.2⟩
theorem Keep.putObj {k : Nat} (W : World) (l : Nat) (o' : Obj) (h : k ≠ l) : Keep k W (W.putObj l o') := ⟨by simp, World.putObj_heap_other h⟩
theorem Keep.alloc {k : Nat} {W : World} (o : Obj) (h : k < W.heap.size) : Keep k W (W.alloc o) := ⟨by simp, Below.heap_alloc W o k h⟩

set_option maxRecDepth 100000 in
set_option maxHeartbeats 4000000 in
theorem each1_in (n : Nat) (hn : 2 ≤ n) (l Bn : Nat) (s : ByteArray) (hs : s.size ≤ 140737488351232) (hN : NextIs s) (J Jx : List Item → World → Prop) (B : Nat) (hJ : AbidesFrom B J)
    (hY : ∀ pre x W, J pre W → pre.length < (items s).length → YieldAt Fence.wide (n - 1) Try.prog l (encItem x) W fun e W' =>
      (e = .returned (.bool true) ∧ J (pre ++ [x]) W' ∧ Keep Bn W W') ∨ (e = .returned (.bool false) ∧ Jx (pre ++ [x]) W'))
    (W : World) (hc : Boxed W Bn 9 (.string s)) (h0 : J [] W) :
    CallsIn Fence.wide n Try.prog 78 #[.func (.yield l) #[] #[], .pointer (some ⟨Bn, 0, none⟩)] W fun e W' => (∃ v, e = .returned v) ∧
      ((∃ ys, ys = items s ∧ J ys W') ∨ (∃ pre, pre <+: items s ∧ Jx pre W')) := by
  have hcc := hc.cell
  refine callsIn_of_wp Try.func78 rfl trivial ?_ rfl
  simp only [Try.ntmps78, List.size_toArray, List.length_cons, List.length_nil, Nat.reduceAdd, Nat.reduceSub, Array.replicate_succ, Array.replicate_zero, List.push_toArray, List.append_toArray, List.nil_append, List.cons_append]
  gi_wp2
  gi_loopw [3] (fun p wr => ∃ (pre : List Item) (q k : Nat), p = .int .i64 q ∧ q ≤ s.size ∧ s.size - q < k ∧ items s = pre ++ itemsGo s k q ∧ Boxed wr Bn 9 (.string s) ∧ J pre wr)
    (fun p wr => s.size - (intOf p).toNat)
  case atStart =>
    exact ⟨[], 0, s.size + 1, rfl, by omega, by omega, rfl, hc, h0⟩
  case round =>
    obtain ⟨pre, q, k, rfl, hq, hk, hx, hbx, hJs⟩ := hrel
    have hcr := hbx.cell
    obtain ⟨k, rfl⟩ : ∃ k', k = k' + 1 := ⟨k - 1, by omega⟩
    have hat := nextF_at s q hq
    have hX := Lib.hid hx
    clear hx
    obtain ⟨⟨⟨tk, tf, tt, tx⟩, m, e⟩, hr⟩ : ∃ r, nextF s q = r := ⟨_, rfl⟩
    rw [hr] at hat
    have hC := hN q wr hq
    rw [hr] at hC
    dsimp only [tokVal] at hC
    have h1 : 1 ≤ n := by omega
    dsimp only at hat
    have hAt := Lib.hid hat
    clear hat
    have hnew : ∀ w2 : World, Below wr.heap.size wr w2 → ∀ o : Obj, Below wr.heap.size wr (w2.alloc o) := fun w2 h o => h.alloc h.size o
    by_cases he : e = 0
    · subst he
      by_cases h0k : tk = 0
      · subst h0k
        gi_wp2_with (refine ⟨trivial, ?_⟩; gi_at_call 39; refine (callsIn_wide.2 hC).mono ?_; rintro en w2 ⟨rfl, hb2⟩)
        refine ⟨fun _ h => (by cases h), ?_⟩
        gi_wp2
        refine bodyPost_ret (results_none rfl _ _ _) rfl ?_
        refine ⟨⟨_, rfl⟩, .inl ⟨pre, ?_, abides_below hJ hJs (hnew w2 hb2 _)⟩⟩
        have hx := hX.out
        simp only [itemsGo] at hx
        rw [hr, if_neg (by simp), if_pos rfl, List.append_nil] at hx
        exact hx.symm
      · have hb0 : (tk == 0) = false := by simpa using h0k
        have hat3 := Lib.hid (hAt.out.2.2.1 rfl h0k)
        have hat0 := Lib.hid hAt.out.1
        have hx : items s = pre ++ ((tk, tf, tt, tx), 0) :: itemsGo s k m := by
          have hx := hX.out
          simp only [itemsGo] at hx
          rw [hr, if_neg (by simp), if_neg h0k] at hx
          exact hx
        have hYs : ∀ w2 : World, Below wr.heap.size wr w2 → ∃ fn tmps assign body, (Instr.yield l #[.agg #[.int .u8 tk, .int .i64 tf, .int .i64 tt, .string tx], .int .i64 0]).run Try.prog (w2.alloc (.cells #[.int .u8 tk, .int .i64 tf, .int .i64 tt, .string tx] 60)) = .ok (.round l fn tmps assign body) (w2.alloc (.cells #[.int .u8 tk, .int .i64 tf, .int .i64 tt, .string tx] 60)) ∧
            RoundIn Fence.wide (n - 1) Try.prog l fn tmps assign body (w2.alloc (.cells #[.int .u8 tk, .int .i64 tf, .int .i64 tt, .string tx] 60)) fun e W' => (e = .returned (.bool true) ∧ J (pre ++ [((tk, tf, tt, tx), 0)]) W' ∧ Keep Bn (w2.alloc (.cells #[.int .u8 tk, .int .i64 tf, .int .i64 tt, .string tx] 60)) W') ∨ (e = .returned (.bool false) ∧ Jx (pre ++ [((tk, tf, tt, tx), 0)]) W') :=
          fun w2 hb2 => hY pre ((tk, tf, tt, tx), 0) _ (abides_below hJ hJs (hnew w2 hb2 _)) (by rw [hx]; simp)
        gi_wp2_with (refine ⟨trivial, ?_⟩; gi_at_call 39; refine (callsIn_wide.2 hC).mono ?_; rintro en w2 ⟨rfl, hb2⟩; obtain ⟨fn, tmps, assign, body, hy, hR⟩ := hYs w2 hb2)
        refine hR.mono ?_
        rintro e W3 (⟨rfl, hJ3, hk3⟩ | ⟨rfl, hJx3⟩)
        · gi_wp2
          go_roundw
          case rel =>
            have hat3 := hat3.out
            have hat0 := hat0.out
            refine ⟨pre ++ [((tk, tf, tt, tx), 0)], m, k, rfl, hat0, by omega, by rw [hx]; simp, ?_, hJ3⟩
            exact hk3.2.trans (((hnew w2 hb2 _).block Bn hbx.lt).trans hbx)
          case measure => have hat3 := hat3.out; have hat0 := hat0.out; simp [intOf]; omega
        · gi_wp2
          refine bodyPost_ret (results_none rfl _ _ _) rfl ?_
          exact ⟨⟨_, rfl⟩, .inr ⟨pre ++ [((tk, tf, tt, tx), 0)], ⟨itemsGo s k m, by rw [hx]; simp⟩, hJx3⟩⟩
    · have heb : (e != 0) = true := by simpa using he
      have hx : items s = pre ++ [((0, 0, m, ⟨#[]⟩), e)] := by
        have hx := hX.out
        simp only [itemsGo] at hx
        rw [hr, if_pos he] at hx
        exact hx
      have hYs : ∀ w2 : World, Below wr.heap.size wr w2 → ∃ fn tmps assign body, (Instr.yield l #[.agg #[.int .u8 0, .int .i64 0, .int .i64 m, .string ⟨#[]⟩], .int .i64 e]).run Try.prog (w2.alloc (.cells #[.int .u8 tk, .int .i64 tf, .int .i64 tt, .string tx] 60)) = .ok (.round l fn tmps assign body) (w2.alloc (.cells #[.int .u8 tk, .int .i64 tf, .int .i64 tt, .string tx] 60)) ∧
          RoundIn Fence.wide (n - 1) Try.prog l fn tmps assign body (w2.alloc (.cells #[.int .u8 tk, .int .i64 tf, .int .i64 tt, .string tx] 60)) fun e' W' => (e' = .returned (.bool true) ∧ J (pre ++ [((0, 0, m, ⟨#[]⟩), e)]) W' ∧ Keep Bn (w2.alloc (.cells #[.int .u8 tk, .int .i64 tf, .int .i64 tt, .string tx] 60)) W') ∨ (e' = .returned (.bool false) ∧ Jx (pre ++ [((0, 0, m, ⟨#[]⟩), e)]) W') :=
        fun w2 hb2 => hY pre ((0, 0, m, ⟨#[]⟩), e) _ (abides_below hJ hJs (hnew w2 hb2 _)) (by rw [hx]; simp)
      gi_wp2_with (refine ⟨trivial, ?_⟩; gi_at_call 39; refine (callsIn_wide.2 hC).mono ?_; rintro en w2 ⟨rfl, hb2⟩; obtain ⟨fn, tmps, assign, body, hy, hR⟩ := hYs w2 hb2)
      refine hR.mono ?_
      rintro e' W3 (⟨rfl, hJ3, hk3⟩ | ⟨rfl, hJx3⟩)
      · gi_wp2
        refine bodyPost_ret (results_none rfl _ _ _) rfl ?_
        exact ⟨⟨_, rfl⟩, .inl ⟨_, hx.symm, hJ3⟩⟩
      · gi_wp2
        refine bodyPost_ret (results_none rfl _ _ _) rfl ?_
        exact ⟨⟨_, rfl⟩, .inr ⟨_, ⟨[], by rw [hx]; simp⟩, hJx3⟩⟩
end Go.Proofs.Ytlbokaekhjjabaa

/-
  token's Next tells nextF, at any place.
-/
namespace Go.Proofs.Ytlbokaekhjjabaa
open Go.RowKit PureT Go.Proofs.YtlbokaekhjjabaaW.PrintWords
set_option linter.unusedVariables false

set_option maxHeartbeats 4000000 in
set_option maxRecDepth 100000 in
theorem next_low (s : ByteArray) (hs : s.size ≤ 140737488351232) (q : Int) (w : World) (h : q < 0) :
    Calls Try.prog 39 #[.string s, .int .i64 q] w (Ret (.tuple #[.agg #[.int .u8 0, .int .i64 0, .int .i64 0, .string ⟨#[]⟩], .int .i64 0, .int .i64 1]) w) := by
  have h1 : decide (q < 0) = true := decide_eq_true h
  go_enter Try.func39, Try.ntmps39
  go_wp2_with (fail)
  refine bodyPost_ret (ret_tok (g := w.heap.size) rfl (Row4.new w _ _ _ _) rfl rfl) rfl ?_
  exact ⟨rfl, (Below.refl _ w).alloc (Nat.le_refl _) _⟩
set_option maxHeartbeats 4000000 in
set_option maxRecDepth 100000 in
theorem next_high (s : ByteArray) (hs : s.size ≤ 140737488351232) (q : Int) (w : World) (h0 : ¬ q < 0) (h : (s.size : Int) < q) :
    Calls Try.prog 39 #[.string s, .int .i64 q] w (Ret (.tuple #[.agg #[.int .u8 0, .int .i64 0, .int .i64 0, .string ⟨#[]⟩], .int .i64 0, .int .i64 1]) w) := by
  have h1 : decide (q < 0) = false := decide_eq_false h0
  have h2 : decide (q > (s.size : Int)) = true := decide_eq_true h
  have h3 : decide ((s.size : Int) < q) = true := decide_eq_true h
  go_enter Try.func39, Try.ntmps39
  go_wp2_with (fail)
  refine bodyPost_ret (ret_tok (g := w.heap.size) rfl (Row4.new w _ _ _ _) rfl rfl) rfl ?_
  exact ⟨rfl, (Below.refl _ w).alloc (Nat.le_refl _) _⟩
theorem kindF_range (c : Int) (h0 : 0 ≤ c) (h1 : c ≤ 255) : 0 ≤ kindF c ∧ kindF c ≤ 255 := by
  unfold kindF; repeat' split
  all_goals omega
theorem next_is (s : ByteArray) (hs : s.size ≤ 140737488351232) : NextIs s := by
  intro p w hp
  have ha := skipF_le s p hp
  unfold nextF
  by_cases hend : skipF s p = s.size
  · rw [if_pos hend]
    exact (next_end' s hs p hp w hend).mono fun e w' h => h
  rw [if_neg hend]
  obtain ⟨a, hk⟩ : ∃ a, skipF s p = a := ⟨_, rfl⟩
  rw [hk] at ha hend ⊢
  have ha2 : a < s.size := by omega
  have hb := byteAt_le s a
  have hkr := kindF_range (byteAt s a) hb.1 hb.2
  obtain ⟨k, h0⟩ : ∃ k, kindF (byteAt s a) = k := ⟨_, rfl⟩
  rw [h0] at hkr ⊢
  unfold tokV
  by_cases k0 : k = 0
  · subst k0
    rw [if_pos rfl]
    exact (next_none s hs p a w hk hp ha2 h0).mono fun e w' h => h
  rw [if_neg k0]
  by_cases k1 : k = 83
  · subst k1
    rw [if_pos rfl]
    obtain ⟨⟨xs, m, e⟩, hr⟩ : ∃ r, scanF (sub s a) = r := ⟨_, rfl⟩
    rw [hr]
    dsimp only
    by_cases he : e = 0
    · subst he
      rw [if_pos rfl]
      exact (next_str s hs p a w hk hp ha2 h0 xs m hr).mono fun e w' h => h
    · rw [if_neg he]
      exact (next_str_err s hs p a w hk hp ha2 h0 xs m e hr he).mono fun e w' h => h
  rw [if_neg k1]
  by_cases k2 : k = 78
  · subst k2
    rw [if_pos rfl]
    obtain ⟨⟨m, e⟩, hr⟩ : ∃ r, numF (sub s a) = r := ⟨_, rfl⟩
    rw [hr]
    dsimp only
    by_cases he : e = 0
    · subst he
      rw [if_pos rfl]
      exact (next_num s hs p a w hk hp ha2 h0 m hr _ rfl).mono fun e w' h => h
    · rw [if_neg he]
      exact (next_num_err s hs p a w hk hp ha2 h0 m e hr he).mono fun e w' h => h
  rw [if_neg k2]
  exact (next_word s hs p a w hk hp ha2 k h0 k0 k1 k2 hkr _ _ _ rfl).mono fun e w' h => h
end Go.Proofs.Ytlbokaekhjjabaa
