import Derived.Test.YtlbokaekhjjabaaProg
import Derived.Below
import Derived.Deep.Draws
import Derived.Deep.AppendLies
import Derived.Maps.AppendAt
import Derived.OwnWalk
import Derived.Laws.BytesArg
import Derived.Laws.MakeOwn
import Derived.Laws.OwnMore
import Derived.Deep.OwnRows
import Derived.Tactics
import Derived.Lib.ConvBytes
import Derived.Laws.Slices
import Derived.WalkKit
import Derived.KernelRfl
import Derived.RowKit3
import Derived.Deep.LoopGhost
import Derived.Deep.QuietTactic
import Derived.BigQuiet
import Derived.WideLaws
import Derived.Deep.DeepCutAuto
import Derived.Deep.CutBlock
import Derived.Deep.RegionHeld3
import Derived.Laws.Rows
import Derived.Lib.AppendStr
import Derived.ArgAppend
import Derived.Laws.IdiomCopy
import Derived.OrdersHeld
import Derived.Laws.BitsLemmas
import Derived.RowKit
import Derived.Test.YtlbokaekhjjabaaWWords
import Derived.Test.YtlbokaekhjjabaaWLast
import Derived.Test.YtlbokaekhjjabaaWRepsOne
import Derived.Test.YtlbokaekhjjabaaWMore
import Derived.Test.YtlbokaekhjjabaaMTk0
import Derived.Test.YtlbokaekhjjabaaMTk1
import Derived.Test.YtlbokaekhjjabaaMTk2
import Derived.Test.YtlbokaekhjjabaaMTk3
-- Written by a program of this session (joint.sh) out of the translation. Not trusted: Lean checks it.
namespace Go.Proofs.Ytlbokaekhjjabaa.S
open Go.RowKit Go.Proofs.YtlbokaekhjjabaaW.PrintWords Go.Proofs.YtlbokaekhjjabaaW.PrintLast Go.Proofs.YtlbokaekhjjabaaW.PrintMore
attribute [local go_sem] max2_int min2_int max_two min_two max_three min_three max_four min_four   -- for this text's walks alone
set_option linter.unusedVariables false
set_option linter.unusedSimpArgs false



def errW : Option Int → Value
  | none => .nilIface
  | some c => .iface 0 (.int .i64 c)
theorem errW_none : errW none = .nilIface := rfl
theorem errW_some (c : Int) : errW (some c) = .iface 0 (.int .i64 c) := rfl

theorem info5 : (Try.prog.info? 5).map (fun i => (i.zero, i.size, i.bytes)) = some (some (.int .u8 0), 1, 1) := by kernel_rfl
-- the values' own types

end Go.Proofs.Ytlbokaekhjjabaa.S

-- Written by a program of this session (joint.sh) out of the translation. Not trusted: Lean checks it.
namespace Go.Proofs.Ytlbokaekhjjabaa.S
open Go.RowKit Go.Proofs.YtlbokaekhjjabaaW.PrintWords Go.Proofs.YtlbokaekhjjabaaW.PrintLast Go.Proofs.YtlbokaekhjjabaaW.PrintMore
attribute [local go_sem] max2_int min2_int max_two min_two max_three min_three max_four min_four   -- for this text's walks alone
set_option linter.unusedVariables false
set_option linter.unusedSimpArgs false

/-! ### glossatorref02_Point: function 27 -/
def glossatorref02_Point.f (a0 : ByteArray) : Option (Int × Int) := if a0.size ≤ 140737488351232 then some (pt a0) else none
theorem glossatorref02_Point.calls (a0 : ByteArray) (r1 r2 : Int) (w : World) (h : glossatorref02_Point.f a0 = some (r1, r2)) :
    Calls Try.prog 27 #[.string a0] w fun e w' => e = .returned (.tuple #[.int .i64 r1, .int .i64 r2]) ∧ Drawn0 w w' := by
  unfold glossatorref02_Point.f at h
  split at h
  · rename_i hs
    have h' := Option.some.inj h
    obtain ⟨k, hk⟩ := (Pure.refPoint_ev a0 hs).rounds
    exact U.glossatorref02_Point.calls k a0 r1 r2 w (by rw [← h']; exact hk)
  · cases h

end Go.Proofs.Ytlbokaekhjjabaa.S

-- Written by a program of this session (joint.sh) out of the translation. Not trusted: Lean checks it.
namespace Go.Proofs.Ytlbokaekhjjabaa.S
open Go.RowKit Go.Proofs.YtlbokaekhjjabaaW.PrintWords Go.Proofs.YtlbokaekhjjabaaW.PrintLast Go.Proofs.YtlbokaekhjjabaaW.PrintMore
attribute [local go_sem] max2_int min2_int max_two min_two max_three min_three max_four min_four   -- for this text's walks alone
set_option linter.unusedVariables false
set_option linter.unusedSimpArgs false

/-! ### glossatorref02_Check: function 33 -/
def glossatorref02_Check.f (a0 : ByteArray) : Option (Int × Int) := if a0.size ≤ 140737488351232 then some (chk a0) else none
theorem glossatorref02_Check.calls (a0 : ByteArray) (r1 r2 : Int) (w : World) (h : glossatorref02_Check.f a0 = some (r1, r2)) :
    Calls Try.prog 33 #[.string a0] w fun e w' => e = .returned (.tuple #[.int .i64 r1, .int .i64 r2]) ∧ Drawn0 w w' := by
  unfold glossatorref02_Check.f at h
  split at h
  · rename_i hs
    have h' := Option.some.inj h
    obtain ⟨k, hk⟩ := (Pure.refCheck_ev a0 hs).rounds
    exact U.glossatorref02_Check.calls k a0 r1 r2 w (by rw [← h']; exact hk)
  · cases h

end Go.Proofs.Ytlbokaekhjjabaa.S

-- Written by a program of this session (joint.sh) out of the translation. Not trusted: Lean checks it.
namespace Go.Proofs.Ytlbokaekhjjabaa.S
open Go.RowKit Go.Proofs.YtlbokaekhjjabaaW.PrintWords Go.Proofs.YtlbokaekhjjabaaW.PrintLast Go.Proofs.YtlbokaekhjjabaaW.PrintMore
attribute [local go_sem] max2_int min2_int max_two min_two max_three min_three max_four min_four   -- for this text's walks alone
set_option linter.unusedVariables false
set_option linter.unusedSimpArgs false

/-! ### glossatorref02_Encode: function 29 -/
def glossatorref02_Encode.f (a0 : Int) : Option (ByteArray) := some (enc a0)
theorem glossatorref02_Encode.calls (a0 : Int) (r : ByteArray) (w : World) (h : glossatorref02_Encode.f a0 = some r) :
    Calls Try.prog 29 #[.int .i64 a0] w fun e w' => e = .returned (.string r) ∧ Below w.heap.size w w' :=
  U.glossatorref02_Encode.calls 1 a0 r w (by rw [Pure.refEncode_f a0 0]; exact h)

end Go.Proofs.Ytlbokaekhjjabaa.S

-- Written by a program of this session (joint.sh) out of the translation. Not trusted: Lean checks it.
namespace Go.Proofs.Ytlbokaekhjjabaa.S
open Go.RowKit Go.Proofs.YtlbokaekhjjabaaW.PrintWords Go.Proofs.YtlbokaekhjjabaaW.PrintLast Go.Proofs.YtlbokaekhjjabaaW.PrintMore
attribute [local go_sem] max2_int min2_int max_two min_two max_three min_three max_four min_four   -- for this text's walks alone
set_option linter.unusedVariables false
set_option linter.unusedSimpArgs false

/-! ### glossatorref03_plain: function 72 -/
def glossatorref03_plain.j0 : Nat → Int → Int → Bool → Option (Int)
  | 0, _, _, _ => none
  | k + 1, x0, x3, x4 => if x4 = true then (some x0) else (if x3 = 98 then (some 8) else (if x3 = 102 then (some 12) else (if x3 = 110 then (some 10) else (if x3 = 114 then (some 13) else (if x3 = 116 then (some 9) else (some 0))))))
def glossatorref03_plain.f (k : Nat) (a0 : Int) : Option (Int) := if a0 = 34 then (glossatorref03_plain.j0 k a0 a0 (a0 == 34)) else (if a0 = 92 then (glossatorref03_plain.j0 k a0 a0 (a0 == 92)) else (glossatorref03_plain.j0 k a0 a0 (a0 == 47)))
theorem glossatorref03_plain.mono_l : ∀ k, (∀ y0 y1 y2, LeO (glossatorref03_plain.j0 k y0 y1 y2) (glossatorref03_plain.j0 (k + 1) y0 y1 y2))
  | 0 => fun _ _ _ r h => by simp [glossatorref03_plain.j0] at h
  | k + 1 => by
    have ih0 := glossatorref03_plain.mono_l k
    · intro y0 y1 y2
      unfold glossatorref03_plain.j0
      repeat' first
      | (with_reducible exact ih0 _ _ _)
      | (with_reducible exact LeO.refl _)
      | (with_reducible exact LeO.none _)
      | (with_reducible refine LeO.ite ?_ ?_)
      | (with_reducible refine LeO.bind ?_ (fun _ => ?_))
      | exact ih0 _ _ _
      | exact LeO.none _
      | refine LeO.ite ?_ ?_
      | refine LeO.bind ?_ (fun _ => ?_)
theorem glossatorref03_plain.mono : ∀ a0 k, LeO (glossatorref03_plain.f k a0) (glossatorref03_plain.f (k + 1) a0) := by
  intro a0 k
  have ih0 := glossatorref03_plain.mono_l k
  unfold glossatorref03_plain.f
  repeat' first
      | (with_reducible exact ih0 _ _ _)
      | (with_reducible exact LeO.refl _)
      | (with_reducible exact LeO.none _)
      | (with_reducible refine LeO.ite ?_ ?_)
      | (with_reducible refine LeO.bind ?_ (fun _ => ?_))
      | exact ih0 _ _ _
      | exact LeO.none _
      | refine LeO.ite ?_ ?_
      | refine LeO.bind ?_ (fun _ => ?_)
set_option maxHeartbeats 8000000 in
set_option maxRecDepth 100000 in
theorem glossatorref03_plain.calls (k : Nat) (a0 : Int) (r : Int) (w : World) (h : glossatorref03_plain.f k a0 = some r) :
    Calls Try.prog 72 #[.int .u8 a0] w fun e w' => e = .returned (.int .u8 r) ∧ Drawn0 w w' := by
  have H : (if a0 = 34 then (glossatorref03_plain.j0 k a0 a0 (a0 == 34)) else (if a0 = 92 then (glossatorref03_plain.j0 k a0 a0 (a0 == 92)) else (glossatorref03_plain.j0 k a0 a0 (a0 == 47)))) = some r := h
  clear h
  have HC2 := Aside0.mk H
  clear H
  go_enter Try.func72, Try.ntmps72
  go_upto_if 4 with (fail)
  go_cut [4] (fun v4 wc => ∃ (kq : Nat) (x4_1 : Bool), v4 = .bool x4_1 ∧ Aside0 (glossatorref03_plain.j0 kq a0 a0 x4_1 = some r) ∧ Aside0 (kq ≤ k) ∧ Drawn0 w wc)
  case first =>
    have H := HC2.out
    clear HC2
    by_cases c3 : a0 = 34
    · rw [if_pos c3] at H
      have c3b0 : (a0 == 34) = true := beq_iff_eq.mpr c3
      have c3b1 : (a0 != 34) = false := bne_eq_false_iff_eq.mpr c3
      clear c3
      (first | rw [c3b0] | (simp only [i64_w, i32_w]; rw [c3b0]) | skip)
      have H' := Aside0.mk H
      clear H
      go_wp2
      go_meet
      case rel => exact ⟨_, ((a0 == 34)), (by first | rfl | (simp; done) | (simp [*]; done)), H', ⟨by first | omega | exact Nat.le_refl _⟩, by repeat (first | exact Drawn0.refl _ | apply Drawn0.step)⟩
    · rw [if_neg c3] at H
      have c3b0 : (a0 == 34) = false := beq_eq_false_iff_ne.mpr c3
      have c3b1 : (a0 != 34) = true := bne_iff_ne.mpr c3
      (first | rw [c3b0] | (simp only [i64_w, i32_w]; rw [c3b0]) | skip)
      by_cases c4 : a0 = 92
      · rw [if_pos c4] at H
        have c4b0 : (a0 == 92) = true := beq_iff_eq.mpr c4
        have c4b1 : (a0 != 92) = false := bne_eq_false_iff_eq.mpr c4
        clear c4
        have H' := Aside0.mk H
        clear H
        go_wp2
        go_meet
        case rel => exact ⟨_, ((a0 == 92)), (by first | rfl | (simp; done) | (simp [*]; done)), H', ⟨by first | omega | exact Nat.le_refl _⟩, by repeat (first | exact Drawn0.refl _ | apply Drawn0.step)⟩
      · rw [if_neg c4] at H
        have c4b0 : (a0 == 92) = false := beq_eq_false_iff_ne.mpr c4
        have c4b1 : (a0 != 92) = true := bne_iff_ne.mpr c4
        have H' := Aside0.mk H
        clear H
        go_wp2
        go_meet
        case rel => exact ⟨_, ((a0 == 47)), (by first | rfl | (simp; done) | (simp [*]; done)), H', ⟨by first | omega | exact Nat.le_refl _⟩, by repeat (first | exact Drawn0.refl _ | apply Drawn0.step)⟩
  case rest =>
    clear HC2
    try clear p2
    try clear c3
    try clear c3b0
    try clear c3b1
    try clear c4
    try clear c4b0
    try clear c4b1
    obtain ⟨kq, x4_1, rfl, HA, HJ1, ⟨mc1, rfl⟩⟩ := hcut
    cases kq with
    | zero => exact absurd HA.out (by simp [glossatorref03_plain.j0])
    | succ kj1 =>
      have H := HA.out
      clear HA
      simp only [glossatorref03_plain.j0] at H
      by_cases c5 : x4_1 = true
      · subst c5
        have H1 : (some a0) = some r := by rw [if_pos rfl] at H; exact H
        clear H
        have H := H1
        clear H1
        obtain rfl := Option.some.inj H
        go_wp2
        go_ret
        exact ⟨by first | rfl | (simp; done) | (simp [*]; done), by repeat (first | exact Drawn0.refl _ | apply Drawn0.step)⟩
      · replace c5 := Bool.eq_false_iff.mpr c5
        subst c5
        have H1 : (if a0 = 98 then (some 8) else (if a0 = 102 then (some 12) else (if a0 = 110 then (some 10) else (if a0 = 114 then (some 13) else (if a0 = 116 then (some 9) else (some 0)))))) = some r := by rw [if_neg (show ¬ (false = true) by decide)] at H; exact H
        clear H
        have H := H1
        clear H1
        by_cases c6 : a0 = 98
        · rw [if_pos c6] at H
          have c6b0 : (a0 == 98) = true := beq_iff_eq.mpr c6
          have c6b1 : (a0 != 98) = false := bne_eq_false_iff_eq.mpr c6
          clear c6
          obtain rfl := Option.some.inj H
          go_wp2
          go_ret
          exact ⟨by first | rfl | (simp; done) | (simp [*]; done), by repeat (first | exact Drawn0.refl _ | apply Drawn0.step)⟩
        · rw [if_neg c6] at H
          have c6b0 : (a0 == 98) = false := beq_eq_false_iff_ne.mpr c6
          have c6b1 : (a0 != 98) = true := bne_iff_ne.mpr c6
          by_cases c7 : a0 = 102
          · rw [if_pos c7] at H
            have c7b0 : (a0 == 102) = true := beq_iff_eq.mpr c7
            have c7b1 : (a0 != 102) = false := bne_eq_false_iff_eq.mpr c7
            clear c7
            obtain rfl := Option.some.inj H
            go_wp2
            go_ret
            exact ⟨by first | rfl | (simp; done) | (simp [*]; done), by repeat (first | exact Drawn0.refl _ | apply Drawn0.step)⟩
          · rw [if_neg c7] at H
            have c7b0 : (a0 == 102) = false := beq_eq_false_iff_ne.mpr c7
            have c7b1 : (a0 != 102) = true := bne_iff_ne.mpr c7
            by_cases c8 : a0 = 110
            · rw [if_pos c8] at H
              have c8b0 : (a0 == 110) = true := beq_iff_eq.mpr c8
              have c8b1 : (a0 != 110) = false := bne_eq_false_iff_eq.mpr c8
              clear c8
              obtain rfl := Option.some.inj H
              go_wp2
              go_ret
              exact ⟨by first | rfl | (simp; done) | (simp [*]; done), by repeat (first | exact Drawn0.refl _ | apply Drawn0.step)⟩
            · rw [if_neg c8] at H
              have c8b0 : (a0 == 110) = false := beq_eq_false_iff_ne.mpr c8
              have c8b1 : (a0 != 110) = true := bne_iff_ne.mpr c8
              by_cases c9 : a0 = 114
              · rw [if_pos c9] at H
                have c9b0 : (a0 == 114) = true := beq_iff_eq.mpr c9
                have c9b1 : (a0 != 114) = false := bne_eq_false_iff_eq.mpr c9
                clear c9
                obtain rfl := Option.some.inj H
                go_wp2
                go_ret
                exact ⟨by first | rfl | (simp; done) | (simp [*]; done), by repeat (first | exact Drawn0.refl _ | apply Drawn0.step)⟩
              · rw [if_neg c9] at H
                have c9b0 : (a0 == 114) = false := beq_eq_false_iff_ne.mpr c9
                have c9b1 : (a0 != 114) = true := bne_iff_ne.mpr c9
                by_cases c10 : a0 = 116
                · rw [if_pos c10] at H
                  have c10b0 : (a0 == 116) = true := beq_iff_eq.mpr c10
                  have c10b1 : (a0 != 116) = false := bne_eq_false_iff_eq.mpr c10
                  clear c10
                  obtain rfl := Option.some.inj H
                  go_wp2
                  go_ret
                  exact ⟨by first | rfl | (simp; done) | (simp [*]; done), by repeat (first | exact Drawn0.refl _ | apply Drawn0.step)⟩
                · rw [if_neg c10] at H
                  have c10b0 : (a0 == 116) = false := beq_eq_false_iff_ne.mpr c10
                  have c10b1 : (a0 != 116) = true := bne_iff_ne.mpr c10
                  obtain rfl := Option.some.inj H
                  go_wp2
                  go_ret
                  exact ⟨by first | rfl | (simp; done) | (simp [*]; done), by repeat (first | exact Drawn0.refl _ | apply Drawn0.step)⟩

end Go.Proofs.Ytlbokaekhjjabaa.S

-- Written by a program of this session (joint.sh) out of the translation. Not trusted: Lean checks it.
namespace Go.Proofs.Ytlbokaekhjjabaa.S
open Go.RowKit Go.Proofs.YtlbokaekhjjabaaW.PrintWords Go.Proofs.YtlbokaekhjjabaaW.PrintLast Go.Proofs.YtlbokaekhjjabaaW.PrintMore
attribute [local go_sem] max2_int min2_int max_two min_two max_three min_three max_four min_four   -- for this text's walks alone
set_option linter.unusedVariables false
set_option linter.unusedSimpArgs false

/-! ### glossatorref03_digit: function 81 -/
mutual
def glossatorref03_digit.j0 : Nat → Int → Bool → Option (Int)
  | 0, _, _ => none
  | k + 1, x0, x3 => if x3 = true then (some ((x0 - 48) % 256)) else (if x0 ≥ 97 then (glossatorref03_digit.j1 k x0 (decide (x0 ≤ 102))) else (glossatorref03_digit.j1 k x0 false))
def glossatorref03_digit.j1 : Nat → Int → Bool → Option (Int)
  | 0, _, _ => none
  | k + 1, x0, x13 => if x13 = true then (some (((x0 - 97) % 256) + 10)) else (if x0 ≥ 65 then (if x0 ≤ 70 then (some (((x0 - 65) % 256) + 10)) else (some (-1))) else (some (-1)))
end
def glossatorref03_digit.f (k : Nat) (a0 : Int) : Option (Int) := if a0 ≥ 48 then (glossatorref03_digit.j0 k a0 (decide (a0 ≤ 57))) else (glossatorref03_digit.j0 k a0 false)
theorem glossatorref03_digit.mono_l : ∀ k, (∀ y0 y1, LeO (glossatorref03_digit.j0 k y0 y1) (glossatorref03_digit.j0 (k + 1) y0 y1)) ∧ (∀ y0 y1, LeO (glossatorref03_digit.j1 k y0 y1) (glossatorref03_digit.j1 (k + 1) y0 y1))
  | 0 => ⟨fun _ _ r h => by simp [glossatorref03_digit.j0] at h, fun _ _ r h => by simp [glossatorref03_digit.j1] at h⟩
  | k + 1 => by
    obtain ⟨ih0, ih1⟩ := glossatorref03_digit.mono_l k
    refine ⟨?_, ?_⟩
    · intro y0 y1
      unfold glossatorref03_digit.j0
      repeat' first
      | (with_reducible exact ih0 _ _)
      | (with_reducible exact ih1 _ _)
      | (with_reducible exact LeO.refl _)
      | (with_reducible exact LeO.none _)
      | (with_reducible refine LeO.ite ?_ ?_)
      | (with_reducible refine LeO.bind ?_ (fun _ => ?_))
      | exact ih0 _ _
      | exact ih1 _ _
      | exact LeO.none _
      | refine LeO.ite ?_ ?_
      | refine LeO.bind ?_ (fun _ => ?_)
    · intro y0 y1
      unfold glossatorref03_digit.j1
      repeat' first
      | (with_reducible exact ih0 _ _)
      | (with_reducible exact ih1 _ _)
      | (with_reducible exact LeO.refl _)
      | (with_reducible exact LeO.none _)
      | (with_reducible refine LeO.ite ?_ ?_)
      | (with_reducible refine LeO.bind ?_ (fun _ => ?_))
      | exact ih0 _ _
      | exact ih1 _ _
      | exact LeO.none _
      | refine LeO.ite ?_ ?_
      | refine LeO.bind ?_ (fun _ => ?_)
theorem glossatorref03_digit.mono : ∀ a0 k, LeO (glossatorref03_digit.f k a0) (glossatorref03_digit.f (k + 1) a0) := by
  intro a0 k
  obtain ⟨ih0, ih1⟩ := glossatorref03_digit.mono_l k
  unfold glossatorref03_digit.f
  repeat' first
      | (with_reducible exact ih0 _ _)
      | (with_reducible exact ih1 _ _)
      | (with_reducible exact LeO.refl _)
      | (with_reducible exact LeO.none _)
      | (with_reducible refine LeO.ite ?_ ?_)
      | (with_reducible refine LeO.bind ?_ (fun _ => ?_))
      | exact ih0 _ _
      | exact ih1 _ _
      | exact LeO.none _
      | refine LeO.ite ?_ ?_
      | refine LeO.bind ?_ (fun _ => ?_)
set_option maxHeartbeats 8000000 in
set_option maxRecDepth 100000 in
theorem glossatorref03_digit.calls (k : Nat) (a0 : Int) (r : Int) (w : World) (h : glossatorref03_digit.f k a0 = some r) :
    Calls Try.prog 81 #[.int .u8 a0] w fun e w' => e = .returned (.int .i64 r) ∧ Drawn0 w w' := by
  have H : (if a0 ≥ 48 then (glossatorref03_digit.j0 k a0 (decide (a0 ≤ 57))) else (glossatorref03_digit.j0 k a0 false)) = some r := h
  clear h
  have HC2 := Aside0.mk H
  clear H
  go_enter Try.func81, Try.ntmps81
  go_upto_region 1 with (fail)
  go_cut [3] (fun v3 wc => ∃ (kq : Nat) (x3_1 : Bool), v3 = .bool x3_1 ∧ Aside0 (glossatorref03_digit.j0 kq a0 x3_1 = some r) ∧ Aside0 (kq ≤ k) ∧ Drawn0 w wc)
  case first =>
    have H := HC2.out
    clear HC2
    by_cases c3 : a0 ≥ 48
    · rw [if_pos c3] at H
      have c3b0 : decide (48 ≤ a0) = true := decide_eq_true c3
      clear c3
      (first | rw [c3b0] | (simp only [i64_w, i32_w]; rw [c3b0]) | skip)
      have H' := Aside0.mk H
      clear H
      go_wp2
      go_meet
      case rel => exact ⟨_, (decide (a0 ≤ 57)), (by first | rfl | (simp; done) | (simp [*]; done)), H', ⟨by first | omega | exact Nat.le_refl _⟩, by repeat (first | exact Drawn0.refl _ | apply Drawn0.step)⟩
    · rw [if_neg c3] at H
      have c3b0 : decide (48 ≤ a0) = false := decide_eq_false c3
      clear c3
      (first | rw [c3b0] | (simp only [i64_w, i32_w]; rw [c3b0]) | skip)
      have H' := Aside0.mk H
      clear H
      go_wp2
      go_meet
      case rel => exact ⟨_, (false), (by first | rfl | (simp; done) | (simp [*]; done)), H', ⟨by first | omega | exact Nat.le_refl _⟩, by repeat (first | exact Drawn0.refl _ | apply Drawn0.step)⟩
  case rest =>
    clear HC2
    try clear p2
    try clear c3
    try clear c3b0
    obtain ⟨kq, x3_1, rfl, HA, HJ1, ⟨mc1, rfl⟩⟩ := hcut
    cases kq with
    | zero => exact absurd HA.out (by simp [glossatorref03_digit.j0])
    | succ kj1 =>
      have H := HA.out
      clear HA
      simp only [glossatorref03_digit.j0] at H
      by_cases c4 : x3_1 = true
      · subst c4
        have H1 : (some ((a0 - 48) % 256)) = some r := by rw [if_pos rfl] at H; exact H
        clear H
        have H := H1
        clear H1
        obtain rfl := Option.some.inj H
        go_wp2
        go_ret
        exact ⟨by first | rfl | (simp; done) | (simp [*]; done), by repeat (first | exact Drawn0.refl _ | apply Drawn0.step)⟩
      · replace c4 := Bool.eq_false_iff.mpr c4
        subst c4
        have H1 : (if a0 ≥ 97 then (glossatorref03_digit.j1 kj1 a0 (decide (a0 ≤ 102))) else (glossatorref03_digit.j1 kj1 a0 false)) = some r := by rw [if_neg (show ¬ (false = true) by decide)] at H; exact H
        clear H
        have H := H1
        clear H1
        have HC5 := Aside0.mk H
        clear H
        go_upto_region 3 with (fail)
        go_cut [13] (fun v13 wc => ∃ (kq : Nat) (x13_4 : Bool), v13 = .bool x13_4 ∧ Aside0 (glossatorref03_digit.j1 kq a0 x13_4 = some r) ∧ Aside0 (kq ≤ kj1) ∧ Drawn0 w wc)
        case first =>
          have H := HC5.out
          clear HC5
          by_cases c6 : a0 ≥ 97
          · rw [if_pos c6] at H
            have c6b0 : decide (97 ≤ a0) = true := decide_eq_true c6
            clear c6
            (first | rw [c6b0] | (simp only [i64_w, i32_w]; rw [c6b0]) | skip)
            have H' := Aside0.mk H
            clear H
            go_wp2
            go_meet
            case rel => exact ⟨_, (decide (a0 ≤ 102)), (by first | rfl | (simp; done) | (simp [*]; done)), H', ⟨by have := HJ1.out; first | omega | exact Nat.le_refl _⟩, by repeat (first | exact Drawn0.refl _ | apply Drawn0.step)⟩
          · rw [if_neg c6] at H
            have c6b0 : decide (97 ≤ a0) = false := decide_eq_false c6
            clear c6
            (first | rw [c6b0] | (simp only [i64_w, i32_w]; rw [c6b0]) | skip)
            have H' := Aside0.mk H
            clear H
            go_wp2
            go_meet
            case rel => exact ⟨_, (false), (by first | rfl | (simp; done) | (simp [*]; done)), H', ⟨by have := HJ1.out; first | omega | exact Nat.le_refl _⟩, by repeat (first | exact Drawn0.refl _ | apply Drawn0.step)⟩
        case rest =>
          clear HC5
          try clear c1
          try clear p2
          try clear c3
          try clear c3b0
          try clear c4
          try clear c6
          try clear c6b0
          try clear p2
          obtain ⟨kq, x13_4, rfl, HA, HJ4, ⟨mc4, rfl⟩⟩ := hcut
          cases kq with
          | zero => exact absurd HA.out (by simp [glossatorref03_digit.j1])
          | succ kj4 =>
            have H := HA.out
            clear HA
            simp only [glossatorref03_digit.j1] at H
            by_cases c7 : x13_4 = true
            · subst c7
              have H1 : (some (((a0 - 97) % 256) + 10)) = some r := by rw [if_pos rfl] at H; exact H
              clear H
              have H := H1
              clear H1
              obtain rfl := Option.some.inj H
              go_wp2
              go_ret
              exact ⟨by first | rfl | (simp; done) | (simp [*]; done), by repeat (first | exact Drawn0.refl _ | apply Drawn0.step)⟩
            · replace c7 := Bool.eq_false_iff.mpr c7
              subst c7
              have H1 : (if a0 ≥ 65 then (if a0 ≤ 70 then (some (((a0 - 65) % 256) + 10)) else (some (-1))) else (some (-1))) = some r := by rw [if_neg (show ¬ (false = true) by decide)] at H; exact H
              clear H
              have H := H1
              clear H1
              by_cases c8 : a0 ≥ 65
              · rw [if_pos c8] at H
                have c8b0 : decide (65 ≤ a0) = true := decide_eq_true c8
                clear c8
                by_cases c9 : a0 ≤ 70
                · rw [if_pos c9] at H
                  have c9b0 : decide (a0 ≤ 70) = true := decide_eq_true c9
                  clear c9
                  obtain rfl := Option.some.inj H
                  go_wp2
                  go_ret
                  exact ⟨by first | rfl | (simp; done) | (simp [*]; done), by repeat (first | exact Drawn0.refl _ | apply Drawn0.step)⟩
                · rw [if_neg c9] at H
                  have c9b0 : decide (a0 ≤ 70) = false := decide_eq_false c9
                  clear c9
                  obtain rfl := Option.some.inj H
                  go_wp2
                  go_ret
                  exact ⟨by first | rfl | (simp; done) | (simp [*]; done), by repeat (first | exact Drawn0.refl _ | apply Drawn0.step)⟩
              · rw [if_neg c8] at H
                have c8b0 : decide (65 ≤ a0) = false := decide_eq_false c8
                clear c8
                obtain rfl := Option.some.inj H
                go_wp2
                go_ret
                exact ⟨by first | rfl | (simp; done) | (simp [*]; done), by repeat (first | exact Drawn0.refl _ | apply Drawn0.step)⟩

end Go.Proofs.Ytlbokaekhjjabaa.S

-- Written by a program of this session (joint.sh) out of the translation. Not trusted: Lean checks it.
namespace Go.Proofs.Ytlbokaekhjjabaa.S
open Go.RowKit Go.Proofs.YtlbokaekhjjabaaW.PrintWords Go.Proofs.YtlbokaekhjjabaaW.PrintLast Go.Proofs.YtlbokaekhjjabaaW.PrintMore
attribute [local go_sem] max2_int min2_int max_two min_two max_three min_three max_four min_four   -- for this text's walks alone
set_option linter.unusedVariables false
set_option linter.unusedSimpArgs false

/-! ### glossatorref03_four: function 73 -/
def glossatorref03_four.l0 : Nat → ByteArray → Int → Bool → Int → Int → Option (Int × Int × Int)
  | 0, _, _, _, _, _ => none
  | k + 1, x0, x1, x2, x9, x10 => if x10 < 4 then (if (wrap64 (x1 + x10)) ≥ (x0.size : Int) then (some (0, (x0.size : Int), 3)) else (if 0 ≤ (wrap64 (x1 + x10)) then (if (wrap64 (x1 + x10)) < (x0.size : Int) then ((glossatorref03_digit.f k (bt x0 (wrap64 (x1 + x10)))).bind fun t106 => (if x2 = true then (if t106 < 0 then (some (0, wrap64 (x1 + x10), 4)) else (if x10 = 0 then (if t106 = 13 then (if x10 = 1 then (if t106 < 12 then (some (0, wrap64 (x1 + x10), 4)) else (glossatorref03_four.l0 k x0 x1 x2 (wrap64 ((wrap64 (16 * x9)) + t106)) (wrap64 (x10 + 1)))) else (glossatorref03_four.l0 k x0 x1 x2 (wrap64 ((wrap64 (16 * x9)) + t106)) (wrap64 (x10 + 1)))) else (some (0, wrap64 (x1 + x10), 4))) else (if x10 = 1 then (if t106 < 12 then (some (0, wrap64 (x1 + x10), 4)) else (glossatorref03_four.l0 k x0 x1 x2 (wrap64 ((wrap64 (16 * x9)) + t106)) (wrap64 (x10 + 1)))) else (glossatorref03_four.l0 k x0 x1 x2 (wrap64 ((wrap64 (16 * x9)) + t106)) (wrap64 (x10 + 1)))))) else (if t106 < 0 then (some (0, wrap64 (x1 + x10), 4)) else (if x10 = 1 then (if x9 = 13 then (if t106 ≥ 12 then (some (0, wrap64 (x1 + x10), 4)) else (glossatorref03_four.l0 k x0 x1 x2 (wrap64 ((wrap64 (16 * x9)) + t106)) (wrap64 (x10 + 1)))) else (glossatorref03_four.l0 k x0 x1 x2 (wrap64 ((wrap64 (16 * x9)) + t106)) (wrap64 (x10 + 1)))) else (glossatorref03_four.l0 k x0 x1 x2 (wrap64 ((wrap64 (16 * x9)) + t106)) (wrap64 (x10 + 1))))))) else (none)) else (none))) else (some (x9, wrap64 (x1 + 4), 0))
def glossatorref03_four.f (k : Nat) (a0 : ByteArray) (a1 : Int) (a2 : Bool) : Option (Int × Int × Int) := glossatorref03_four.l0 k a0 a1 a2 0 0
theorem glossatorref03_four.mono_l : ∀ k, (∀ y0 y1 y2 y3 y4, LeO (glossatorref03_four.l0 k y0 y1 y2 y3 y4) (glossatorref03_four.l0 (k + 1) y0 y1 y2 y3 y4))
  | 0 => fun _ _ _ _ _ r h => by simp [glossatorref03_four.l0] at h
  | k + 1 => by
    have ih0 := glossatorref03_four.mono_l k
    · intro y0 y1 y2 y3 y4
      unfold glossatorref03_four.l0
      repeat' first
      | (with_reducible exact ih0 _ _ _ _ _)
      | (with_reducible exact glossatorref03_digit.mono _ _)
      | (with_reducible exact LeO.refl _)
      | (with_reducible exact LeO.none _)
      | (with_reducible refine LeO.ite ?_ ?_)
      | (with_reducible refine LeO.bind ?_ (fun _ => ?_))
      | exact ih0 _ _ _ _ _
      | exact glossatorref03_digit.mono _ _
      | exact LeO.none _
      | refine LeO.ite ?_ ?_
      | refine LeO.bind ?_ (fun _ => ?_)
theorem glossatorref03_four.mono : ∀ a0 a1 a2 k, LeO (glossatorref03_four.f k a0 a1 a2) (glossatorref03_four.f (k + 1) a0 a1 a2) := by
  intro a0 a1 a2 k
  have ih0 := glossatorref03_four.mono_l k
  unfold glossatorref03_four.f
  repeat' first
      | (with_reducible exact ih0 _ _ _ _ _)
      | (with_reducible exact glossatorref03_digit.mono _ _)
      | (with_reducible exact LeO.refl _)
      | (with_reducible exact LeO.none _)
      | (with_reducible refine LeO.ite ?_ ?_)
      | (with_reducible refine LeO.bind ?_ (fun _ => ?_))
      | exact ih0 _ _ _ _ _
      | exact glossatorref03_digit.mono _ _
      | exact LeO.none _
      | refine LeO.ite ?_ ?_
      | refine LeO.bind ?_ (fun _ => ?_)
set_option maxHeartbeats 8000000 in
set_option maxRecDepth 100000 in
theorem glossatorref03_four.calls (k : Nat) (a0 : ByteArray) (a1 : Int) (a2 : Bool) (r1 : Int) (r2 : Int) (r3 : Int) (w : World) (h : glossatorref03_four.f k a0 a1 a2 = some (r1, r2, r3)) :
    Calls Try.prog 73 #[.string a0, .int .i64 a1, .bool a2] w fun e w' => e = .returned (.tuple #[.int .i64 r1, .int .i64 r2, .int .i64 r3]) ∧ Drawn0 w w' := by
  have H : (glossatorref03_four.l0 k a0 a1 a2 0 0) = some (r1, r2, r3) := h
  clear h
  have H' := Aside0.mk H
  clear H
  go_enter Try.func73, Try.ntmps73
  go_wp2
  go_loopg [9, 10] k (fun kq v9 v10 w' => ∃ (x9_1 : Int) (x10_1 : Int), v9 = .int .i64 x9_1 ∧ v10 = .int .i64 x10_1 ∧ Aside0 (glossatorref03_four.l0 kq a0 a1 a2 x9_1 x10_1 = some (r1, r2, r3)) ∧ Aside0 (kq ≤ k) ∧ Drawn0 w w')
  case atStart => exact ⟨(0), (0), (by first | rfl | (simp; done) | (simp [*]; done)), (by first | rfl | (simp; done) | (simp [*]; done)), H', ⟨Nat.le_refl _⟩, by repeat (first | exact Drawn0.refl _ | apply Drawn0.step)⟩
  case round =>
    clear H'
    try clear p2
    obtain ⟨x9_1, x10_1, rfl, rfl, HA, HK1, ⟨m1, rfl⟩⟩ := hrel
    cases gk with
    | zero => exact absurd HA.out (by simp [glossatorref03_four.l0])
    | succ k1 =>
      have H := HA.out
      clear HA
      simp only [glossatorref03_four.l0] at H
      by_cases c4 : x10_1 < 4
      · rw [if_pos c4] at H
        have c4b0 : decide (x10_1 < 4) = true := decide_eq_true c4
        clear c4
        by_cases c5 : (wrap64 (a1 + x10_1)) ≥ (a0.size : Int)
        · rw [if_pos c5] at H
          have c5b0 : decide ((a0.size : Int) ≤ (wrap64 (a1 + x10_1))) = true := decide_eq_true c5
          clear c5
          simp only [Option.some.injEq, Prod.mk.injEq] at H
          obtain ⟨rfl, rfl, rfl⟩ := H
          go_wp2
          go_ret3
          exact ⟨by first | rfl | (simp; done) | (simp [*]; done), by repeat (first | exact Drawn0.refl _ | apply Drawn0.step)⟩
        · rw [if_neg c5] at H
          have c5b0 : decide ((a0.size : Int) ≤ (wrap64 (a1 + x10_1))) = false := decide_eq_false c5
          clear c5
          obtain ⟨ji6, hji6⟩ : ∃ j_ : Int, (wrap64 (a1 + x10_1)) = j_ := ⟨_, rfl⟩
          replace H : (if 0 ≤ (ji6) then (if (ji6) < (a0.size : Int) then ((glossatorref03_digit.f k1 (bt a0 (ji6))).bind fun t106 => (if a2 = true then (if t106 < 0 then (some (0, ji6, 4)) else (if x10_1 = 0 then (if t106 = 13 then (if x10_1 = 1 then (if t106 < 12 then (some (0, ji6, 4)) else (glossatorref03_four.l0 k1 a0 a1 a2 (wrap64 ((wrap64 (16 * x9_1)) + t106)) (wrap64 (x10_1 + 1)))) else (glossatorref03_four.l0 k1 a0 a1 a2 (wrap64 ((wrap64 (16 * x9_1)) + t106)) (wrap64 (x10_1 + 1)))) else (some (0, ji6, 4))) else (if x10_1 = 1 then (if t106 < 12 then (some (0, ji6, 4)) else (glossatorref03_four.l0 k1 a0 a1 a2 (wrap64 ((wrap64 (16 * x9_1)) + t106)) (wrap64 (x10_1 + 1)))) else (glossatorref03_four.l0 k1 a0 a1 a2 (wrap64 ((wrap64 (16 * x9_1)) + t106)) (wrap64 (x10_1 + 1)))))) else (if t106 < 0 then (some (0, ji6, 4)) else (if x10_1 = 1 then (if x9_1 = 13 then (if t106 ≥ 12 then (some (0, ji6, 4)) else (glossatorref03_four.l0 k1 a0 a1 a2 (wrap64 ((wrap64 (16 * x9_1)) + t106)) (wrap64 (x10_1 + 1)))) else (glossatorref03_four.l0 k1 a0 a1 a2 (wrap64 ((wrap64 (16 * x9_1)) + t106)) (wrap64 (x10_1 + 1)))) else (glossatorref03_four.l0 k1 a0 a1 a2 (wrap64 ((wrap64 (16 * x9_1)) + t106)) (wrap64 (x10_1 + 1))))))) else (none)) else (none)) = some (r1, r2, r3) := by first | (rw [hji6] at H; exact H) | (simp only [hji6] at H ⊢; exact H)
          (try rw [hji6] at c5b0)
          have hji6w : (IntKind.i64.wrap (a1 + x10_1)) = ji6 := (i64_w _).trans hji6
          by_cases c7 : 0 ≤ (ji6)
          · rw [if_pos c7] at H
            have c7b0 : decide (0 ≤ (ji6)) = true := decide_eq_true c7
            clear c7
            by_cases c8 : (ji6) < (a0.size : Int)
            · rw [if_pos c8] at H
              have c8b0 : decide ((ji6) < (a0.size : Int)) = true := decide_eq_true c8
              clear c8
              replace H := Option.bind_eq_some_iff.mp H
              obtain ⟨t106, A100, H⟩ := H
              replace H : (if a2 = true then (if t106 < 0 then (some (0, ji6, 4)) else (if x10_1 = 0 then (if t106 = 13 then (if x10_1 = 1 then (if t106 < 12 then (some (0, ji6, 4)) else (glossatorref03_four.l0 k1 a0 a1 a2 (wrap64 ((wrap64 (16 * x9_1)) + t106)) (wrap64 (x10_1 + 1)))) else (glossatorref03_four.l0 k1 a0 a1 a2 (wrap64 ((wrap64 (16 * x9_1)) + t106)) (wrap64 (x10_1 + 1)))) else (some (0, ji6, 4))) else (if x10_1 = 1 then (if t106 < 12 then (some (0, ji6, 4)) else (glossatorref03_four.l0 k1 a0 a1 a2 (wrap64 ((wrap64 (16 * x9_1)) + t106)) (wrap64 (x10_1 + 1)))) else (glossatorref03_four.l0 k1 a0 a1 a2 (wrap64 ((wrap64 (16 * x9_1)) + t106)) (wrap64 (x10_1 + 1)))))) else (if t106 < 0 then (some (0, ji6, 4)) else (if x10_1 = 1 then (if x9_1 = 13 then (if t106 ≥ 12 then (some (0, ji6, 4)) else (glossatorref03_four.l0 k1 a0 a1 a2 (wrap64 ((wrap64 (16 * x9_1)) + t106)) (wrap64 (x10_1 + 1)))) else (glossatorref03_four.l0 k1 a0 a1 a2 (wrap64 ((wrap64 (16 * x9_1)) + t106)) (wrap64 (x10_1 + 1)))) else (glossatorref03_four.l0 k1 a0 a1 a2 (wrap64 ((wrap64 (16 * x9_1)) + t106)) (wrap64 (x10_1 + 1)))))) = some (r1, r2, r3) := H
              have A10 := Aside0.mk A100
              clear A100
              by_cases c11 : a2 = true
              · subst c11
                have H1 : (if t106 < 0 then (some (0, ji6, 4)) else (if x10_1 = 0 then (if t106 = 13 then (if x10_1 = 1 then (if t106 < 12 then (some (0, ji6, 4)) else (glossatorref03_four.l0 k1 a0 a1 true (wrap64 ((wrap64 (16 * x9_1)) + t106)) (wrap64 (x10_1 + 1)))) else (glossatorref03_four.l0 k1 a0 a1 true (wrap64 ((wrap64 (16 * x9_1)) + t106)) (wrap64 (x10_1 + 1)))) else (some (0, ji6, 4))) else (if x10_1 = 1 then (if t106 < 12 then (some (0, ji6, 4)) else (glossatorref03_four.l0 k1 a0 a1 true (wrap64 ((wrap64 (16 * x9_1)) + t106)) (wrap64 (x10_1 + 1)))) else (glossatorref03_four.l0 k1 a0 a1 true (wrap64 ((wrap64 (16 * x9_1)) + t106)) (wrap64 (x10_1 + 1)))))) = some (r1, r2, r3) := by rw [if_pos rfl] at H; exact H
                clear H
                have H := H1
                clear H1
                by_cases c12 : t106 < 0
                · rw [if_pos c12] at H
                  have c12b0 : decide (t106 < 0) = true := decide_eq_true c12
                  clear c12
                  simp only [Option.some.injEq, Prod.mk.injEq] at H
                  obtain ⟨rfl, rfl, rfl⟩ := H
                  have p9 : 0 ≤ ((ji6) : Int) := of_decide_eq_true (by first | (with_reducible assumption) | assumption)
                  have q9 : (ji6) < (a0.size : Int) := of_decide_eq_true (by first | (with_reducible assumption) | assumption)
                  have hx9 := bt_at a0 (ji6)
                  replace p9 := eq_true p9
                  replace q9 := eq_true q9
                  go_wp2_with (first | ((with_reducible refine gate_callee (f := 81) rfl ?_); refine goesL_ (some 30) rfl rfl Try.func81 (by kernel_rfl) rfl #[.int .u8 (bt a0 (ji6))] rfl (by (try simp only [List.map_toArray, List.map_cons, List.map_nil]); first | done | (simp only [hji6]; rfl) | rfl | (simp only [List.length_drop, List.length_take]; rfl)) ?_; (with_reducible refine (glossatorref03_digit.calls k1 (bt a0 (ji6)) t106 _ A10.out).mono ?_); rintro e w' ⟨rfl, ⟨nd, rfl⟩⟩; refine ⟨_, rfl, ?_⟩))
                  go_ret3
                  exact ⟨by first | rfl | (simp; done) | (simp only [← hji6] <;> (first | rfl | simp)) | (simp [*]; done), by repeat (first | exact Drawn0.refl _ | apply Drawn0.step)⟩
                · rw [if_neg c12] at H
                  have c12b0 : decide (t106 < 0) = false := decide_eq_false c12
                  clear c12
                  by_cases c13 : x10_1 = 0
                  · rw [if_pos c13] at H
                    have c13b0 : (x10_1 == 0) = true := beq_iff_eq.mpr c13
                    have c13b1 : (x10_1 != 0) = false := bne_eq_false_iff_eq.mpr c13
                    clear c13
                    by_cases c14 : t106 = 13
                    · rw [if_pos c14] at H
                      have c14b0 : (t106 == 13) = true := beq_iff_eq.mpr c14
                      have c14b1 : (t106 != 13) = false := bne_eq_false_iff_eq.mpr c14
                      clear c14
                      by_cases c15 : x10_1 = 1
                      · rw [if_pos c15] at H
                        have c15b0 : (x10_1 == 1) = true := beq_iff_eq.mpr c15
                        have c15b1 : (x10_1 != 1) = false := bne_eq_false_iff_eq.mpr c15
                        clear c15
                        by_cases c16 : t106 < 12
                        · rw [if_pos c16] at H
                          have c16b0 : decide (t106 < 12) = true := decide_eq_true c16
                          clear c16
                          simp only [Option.some.injEq, Prod.mk.injEq] at H
                          obtain ⟨rfl, rfl, rfl⟩ := H
                          have p9 : 0 ≤ ((ji6) : Int) := of_decide_eq_true (by first | (with_reducible assumption) | assumption)
                          have q9 : (ji6) < (a0.size : Int) := of_decide_eq_true (by first | (with_reducible assumption) | assumption)
                          have hx9 := bt_at a0 (ji6)
                          replace p9 := eq_true p9
                          replace q9 := eq_true q9
                          go_wp2_with (first | ((with_reducible refine gate_callee (f := 81) rfl ?_); refine goesL_ (some 30) rfl rfl Try.func81 (by kernel_rfl) rfl #[.int .u8 (bt a0 (ji6))] rfl (by (try simp only [List.map_toArray, List.map_cons, List.map_nil]); first | done | (simp only [hji6]; rfl) | rfl | (simp only [List.length_drop, List.length_take]; rfl)) ?_; (with_reducible refine (glossatorref03_digit.calls k1 (bt a0 (ji6)) t106 _ A10.out).mono ?_); rintro e w' ⟨rfl, ⟨nd, rfl⟩⟩; refine ⟨_, rfl, ?_⟩))
                          go_ret3
                          exact ⟨by first | rfl | (simp; done) | (simp only [← hji6] <;> (first | rfl | simp)) | (simp [*]; done), by repeat (first | exact Drawn0.refl _ | apply Drawn0.step)⟩
                        · rw [if_neg c16] at H
                          have c16b0 : decide (t106 < 12) = false := decide_eq_false c16
                          clear c16
                          have H' := Aside0.mk H
                          clear H
                          have p9 : 0 ≤ ((ji6) : Int) := of_decide_eq_true (by first | (with_reducible assumption) | assumption)
                          have q9 : (ji6) < (a0.size : Int) := of_decide_eq_true (by first | (with_reducible assumption) | assumption)
                          have hx9 := bt_at a0 (ji6)
                          replace p9 := eq_true p9
                          replace q9 := eq_true q9
                          go_wp2_with (first | ((with_reducible refine gate_callee (f := 81) rfl ?_); refine goesL_ (some 30) rfl rfl Try.func81 (by kernel_rfl) rfl #[.int .u8 (bt a0 (ji6))] rfl (by (try simp only [List.map_toArray, List.map_cons, List.map_nil]); first | done | (simp only [hji6]; rfl) | rfl | (simp only [List.length_drop, List.length_take]; rfl)) ?_; (with_reducible refine (glossatorref03_digit.calls k1 (bt a0 (ji6)) t106 _ A10.out).mono ?_); rintro e w' ⟨rfl, ⟨nd, rfl⟩⟩; refine ⟨_, rfl, ?_⟩))
                          go_roundg k1
                          case measure => have := HK1.out; omega
                          case rel => exact ⟨(wrap64 ((wrap64 (16 * x9_1)) + t106)), (wrap64 (x10_1 + 1)), (by first | rfl | (simp; done) | (simp [*]; done)), (by first | rfl | (simp; done) | (simp [*]; done)), H', ⟨by have := HK1.out; omega⟩, by repeat (first | exact Drawn0.refl _ | apply Drawn0.step)⟩
                      · rw [if_neg c15] at H
                        have c15b0 : (x10_1 == 1) = false := beq_eq_false_iff_ne.mpr c15
                        have c15b1 : (x10_1 != 1) = true := bne_iff_ne.mpr c15
                        have H' := Aside0.mk H
                        clear H
                        have p9 : 0 ≤ ((ji6) : Int) := of_decide_eq_true (by first | (with_reducible assumption) | assumption)
                        have q9 : (ji6) < (a0.size : Int) := of_decide_eq_true (by first | (with_reducible assumption) | assumption)
                        have hx9 := bt_at a0 (ji6)
                        replace p9 := eq_true p9
                        replace q9 := eq_true q9
                        go_wp2_with (first | ((with_reducible refine gate_callee (f := 81) rfl ?_); refine goesL_ (some 30) rfl rfl Try.func81 (by kernel_rfl) rfl #[.int .u8 (bt a0 (ji6))] rfl (by (try simp only [List.map_toArray, List.map_cons, List.map_nil]); first | done | (simp only [hji6]; rfl) | rfl | (simp only [List.length_drop, List.length_take]; rfl)) ?_; (with_reducible refine (glossatorref03_digit.calls k1 (bt a0 (ji6)) t106 _ A10.out).mono ?_); rintro e w' ⟨rfl, ⟨nd, rfl⟩⟩; refine ⟨_, rfl, ?_⟩))
                        go_roundg k1
                        case measure => have := HK1.out; omega
                        case rel => exact ⟨(wrap64 ((wrap64 (16 * x9_1)) + t106)), (wrap64 (x10_1 + 1)), (by first | rfl | (simp; done) | (simp [*]; done)), (by first | rfl | (simp; done) | (simp [*]; done)), H', ⟨by have := HK1.out; omega⟩, by repeat (first | exact Drawn0.refl _ | apply Drawn0.step)⟩
                    · rw [if_neg c14] at H
                      have c14b0 : (t106 == 13) = false := beq_eq_false_iff_ne.mpr c14
                      have c14b1 : (t106 != 13) = true := bne_iff_ne.mpr c14
                      simp only [Option.some.injEq, Prod.mk.injEq] at H
                      obtain ⟨rfl, rfl, rfl⟩ := H
                      have p9 : 0 ≤ ((ji6) : Int) := of_decide_eq_true (by first | (with_reducible assumption) | assumption)
                      have q9 : (ji6) < (a0.size : Int) := of_decide_eq_true (by first | (with_reducible assumption) | assumption)
                      have hx9 := bt_at a0 (ji6)
                      replace p9 := eq_true p9
                      replace q9 := eq_true q9
                      go_wp2_with (first | ((with_reducible refine gate_callee (f := 81) rfl ?_); refine goesL_ (some 30) rfl rfl Try.func81 (by kernel_rfl) rfl #[.int .u8 (bt a0 (ji6))] rfl (by (try simp only [List.map_toArray, List.map_cons, List.map_nil]); first | done | (simp only [hji6]; rfl) | rfl | (simp only [List.length_drop, List.length_take]; rfl)) ?_; (with_reducible refine (glossatorref03_digit.calls k1 (bt a0 (ji6)) t106 _ A10.out).mono ?_); rintro e w' ⟨rfl, ⟨nd, rfl⟩⟩; refine ⟨_, rfl, ?_⟩))
                      go_ret3
                      exact ⟨by first | rfl | (simp; done) | (simp only [← hji6] <;> (first | rfl | simp)) | (simp [*]; done), by repeat (first | exact Drawn0.refl _ | apply Drawn0.step)⟩
                  · rw [if_neg c13] at H
                    have c13b0 : (x10_1 == 0) = false := beq_eq_false_iff_ne.mpr c13
                    have c13b1 : (x10_1 != 0) = true := bne_iff_ne.mpr c13
                    by_cases c17 : x10_1 = 1
                    · rw [if_pos c17] at H
                      have c17b0 : (x10_1 == 1) = true := beq_iff_eq.mpr c17
                      have c17b1 : (x10_1 != 1) = false := bne_eq_false_iff_eq.mpr c17
                      clear c17
                      by_cases c18 : t106 < 12
                      · rw [if_pos c18] at H
                        have c18b0 : decide (t106 < 12) = true := decide_eq_true c18
                        clear c18
                        simp only [Option.some.injEq, Prod.mk.injEq] at H
                        obtain ⟨rfl, rfl, rfl⟩ := H
                        have p9 : 0 ≤ ((ji6) : Int) := of_decide_eq_true (by first | (with_reducible assumption) | assumption)
                        have q9 : (ji6) < (a0.size : Int) := of_decide_eq_true (by first | (with_reducible assumption) | assumption)
                        have hx9 := bt_at a0 (ji6)
                        replace p9 := eq_true p9
                        replace q9 := eq_true q9
                        go_wp2_with (first | ((with_reducible refine gate_callee (f := 81) rfl ?_); refine goesL_ (some 30) rfl rfl Try.func81 (by kernel_rfl) rfl #[.int .u8 (bt a0 (ji6))] rfl (by (try simp only [List.map_toArray, List.map_cons, List.map_nil]); first | done | (simp only [hji6]; rfl) | rfl | (simp only [List.length_drop, List.length_take]; rfl)) ?_; (with_reducible refine (glossatorref03_digit.calls k1 (bt a0 (ji6)) t106 _ A10.out).mono ?_); rintro e w' ⟨rfl, ⟨nd, rfl⟩⟩; refine ⟨_, rfl, ?_⟩))
                        go_ret3
                        exact ⟨by first | rfl | (simp; done) | (simp only [← hji6] <;> (first | rfl | simp)) | (simp [*]; done), by repeat (first | exact Drawn0.refl _ | apply Drawn0.step)⟩
                      · rw [if_neg c18] at H
                        have c18b0 : decide (t106 < 12) = false := decide_eq_false c18
                        clear c18
                        have H' := Aside0.mk H
                        clear H
                        have p9 : 0 ≤ ((ji6) : Int) := of_decide_eq_true (by first | (with_reducible assumption) | assumption)
                        have q9 : (ji6) < (a0.size : Int) := of_decide_eq_true (by first | (with_reducible assumption) | assumption)
                        have hx9 := bt_at a0 (ji6)
                        replace p9 := eq_true p9
                        replace q9 := eq_true q9
                        go_wp2_with (first | ((with_reducible refine gate_callee (f := 81) rfl ?_); refine goesL_ (some 30) rfl rfl Try.func81 (by kernel_rfl) rfl #[.int .u8 (bt a0 (ji6))] rfl (by (try simp only [List.map_toArray, List.map_cons, List.map_nil]); first | done | (simp only [hji6]; rfl) | rfl | (simp only [List.length_drop, List.length_take]; rfl)) ?_; (with_reducible refine (glossatorref03_digit.calls k1 (bt a0 (ji6)) t106 _ A10.out).mono ?_); rintro e w' ⟨rfl, ⟨nd, rfl⟩⟩; refine ⟨_, rfl, ?_⟩))
                        go_roundg k1
                        case measure => have := HK1.out; omega
                        case rel => exact ⟨(wrap64 ((wrap64 (16 * x9_1)) + t106)), (wrap64 (x10_1 + 1)), (by first | rfl | (simp; done) | (simp [*]; done)), (by first | rfl | (simp; done) | (simp [*]; done)), H', ⟨by have := HK1.out; omega⟩, by repeat (first | exact Drawn0.refl _ | apply Drawn0.step)⟩
                    · rw [if_neg c17] at H
                      have c17b0 : (x10_1 == 1) = false := beq_eq_false_iff_ne.mpr c17
                      have c17b1 : (x10_1 != 1) = true := bne_iff_ne.mpr c17
                      have H' := Aside0.mk H
                      clear H
                      have p9 : 0 ≤ ((ji6) : Int) := of_decide_eq_true (by first | (with_reducible assumption) | assumption)
                      have q9 : (ji6) < (a0.size : Int) := of_decide_eq_true (by first | (with_reducible assumption) | assumption)
                      have hx9 := bt_at a0 (ji6)
                      replace p9 := eq_true p9
                      replace q9 := eq_true q9
                      go_wp2_with (first | ((with_reducible refine gate_callee (f := 81) rfl ?_); refine goesL_ (some 30) rfl rfl Try.func81 (by kernel_rfl) rfl #[.int .u8 (bt a0 (ji6))] rfl (by (try simp only [List.map_toArray, List.map_cons, List.map_nil]); first | done | (simp only [hji6]; rfl) | rfl | (simp only [List.length_drop, List.length_take]; rfl)) ?_; (with_reducible refine (glossatorref03_digit.calls k1 (bt a0 (ji6)) t106 _ A10.out).mono ?_); rintro e w' ⟨rfl, ⟨nd, rfl⟩⟩; refine ⟨_, rfl, ?_⟩))
                      go_roundg k1
                      case measure => have := HK1.out; omega
                      case rel => exact ⟨(wrap64 ((wrap64 (16 * x9_1)) + t106)), (wrap64 (x10_1 + 1)), (by first | rfl | (simp; done) | (simp [*]; done)), (by first | rfl | (simp; done) | (simp [*]; done)), H', ⟨by have := HK1.out; omega⟩, by repeat (first | exact Drawn0.refl _ | apply Drawn0.step)⟩
              · replace c11 := Bool.eq_false_iff.mpr c11
                subst c11
                have H1 : (if t106 < 0 then (some (0, ji6, 4)) else (if x10_1 = 1 then (if x9_1 = 13 then (if t106 ≥ 12 then (some (0, ji6, 4)) else (glossatorref03_four.l0 k1 a0 a1 false (wrap64 ((wrap64 (16 * x9_1)) + t106)) (wrap64 (x10_1 + 1)))) else (glossatorref03_four.l0 k1 a0 a1 false (wrap64 ((wrap64 (16 * x9_1)) + t106)) (wrap64 (x10_1 + 1)))) else (glossatorref03_four.l0 k1 a0 a1 false (wrap64 ((wrap64 (16 * x9_1)) + t106)) (wrap64 (x10_1 + 1))))) = some (r1, r2, r3) := by rw [if_neg (show ¬ (false = true) by decide)] at H; exact H
                clear H
                have H := H1
                clear H1
                by_cases c19 : t106 < 0
                · rw [if_pos c19] at H
                  have c19b0 : decide (t106 < 0) = true := decide_eq_true c19
                  clear c19
                  simp only [Option.some.injEq, Prod.mk.injEq] at H
                  obtain ⟨rfl, rfl, rfl⟩ := H
                  have p9 : 0 ≤ ((ji6) : Int) := of_decide_eq_true (by first | (with_reducible assumption) | assumption)
                  have q9 : (ji6) < (a0.size : Int) := of_decide_eq_true (by first | (with_reducible assumption) | assumption)
                  have hx9 := bt_at a0 (ji6)
                  replace p9 := eq_true p9
                  replace q9 := eq_true q9
                  go_wp2_with (first | ((with_reducible refine gate_callee (f := 81) rfl ?_); refine goesL_ (some 30) rfl rfl Try.func81 (by kernel_rfl) rfl #[.int .u8 (bt a0 (ji6))] rfl (by (try simp only [List.map_toArray, List.map_cons, List.map_nil]); first | done | (simp only [hji6]; rfl) | rfl | (simp only [List.length_drop, List.length_take]; rfl)) ?_; (with_reducible refine (glossatorref03_digit.calls k1 (bt a0 (ji6)) t106 _ A10.out).mono ?_); rintro e w' ⟨rfl, ⟨nd, rfl⟩⟩; refine ⟨_, rfl, ?_⟩))
                  go_ret3
                  exact ⟨by first | rfl | (simp; done) | (simp only [← hji6] <;> (first | rfl | simp)) | (simp [*]; done), by repeat (first | exact Drawn0.refl _ | apply Drawn0.step)⟩
                · rw [if_neg c19] at H
                  have c19b0 : decide (t106 < 0) = false := decide_eq_false c19
                  clear c19
                  by_cases c20 : x10_1 = 1
                  · rw [if_pos c20] at H
                    have c20b0 : (x10_1 == 1) = true := beq_iff_eq.mpr c20
                    have c20b1 : (x10_1 != 1) = false := bne_eq_false_iff_eq.mpr c20
                    clear c20
                    by_cases c21 : x9_1 = 13
                    · rw [if_pos c21] at H
                      have c21b0 : (x9_1 == 13) = true := beq_iff_eq.mpr c21
                      have c21b1 : (x9_1 != 13) = false := bne_eq_false_iff_eq.mpr c21
                      clear c21
                      by_cases c22 : t106 ≥ 12
                      · rw [if_pos c22] at H
                        have c22b0 : decide (12 ≤ t106) = true := decide_eq_true c22
                        clear c22
                        simp only [Option.some.injEq, Prod.mk.injEq] at H
                        obtain ⟨rfl, rfl, rfl⟩ := H
                        have p9 : 0 ≤ ((ji6) : Int) := of_decide_eq_true (by first | (with_reducible assumption) | assumption)
                        have q9 : (ji6) < (a0.size : Int) := of_decide_eq_true (by first | (with_reducible assumption) | assumption)
                        have hx9 := bt_at a0 (ji6)
                        replace p9 := eq_true p9
                        replace q9 := eq_true q9
                        go_wp2_with (first | ((with_reducible refine gate_callee (f := 81) rfl ?_); refine goesL_ (some 30) rfl rfl Try.func81 (by kernel_rfl) rfl #[.int .u8 (bt a0 (ji6))] rfl (by (try simp only [List.map_toArray, List.map_cons, List.map_nil]); first | done | (simp only [hji6]; rfl) | rfl | (simp only [List.length_drop, List.length_take]; rfl)) ?_; (with_reducible refine (glossatorref03_digit.calls k1 (bt a0 (ji6)) t106 _ A10.out).mono ?_); rintro e w' ⟨rfl, ⟨nd, rfl⟩⟩; refine ⟨_, rfl, ?_⟩))
                        go_ret3
                        exact ⟨by first | rfl | (simp; done) | (simp only [← hji6] <;> (first | rfl | simp)) | (simp [*]; done), by repeat (first | exact Drawn0.refl _ | apply Drawn0.step)⟩
                      · rw [if_neg c22] at H
                        have c22b0 : decide (12 ≤ t106) = false := decide_eq_false c22
                        clear c22
                        have H' := Aside0.mk H
                        clear H
                        have p9 : 0 ≤ ((ji6) : Int) := of_decide_eq_true (by first | (with_reducible assumption) | assumption)
                        have q9 : (ji6) < (a0.size : Int) := of_decide_eq_true (by first | (with_reducible assumption) | assumption)
                        have hx9 := bt_at a0 (ji6)
                        replace p9 := eq_true p9
                        replace q9 := eq_true q9
                        go_wp2_with (first | ((with_reducible refine gate_callee (f := 81) rfl ?_); refine goesL_ (some 30) rfl rfl Try.func81 (by kernel_rfl) rfl #[.int .u8 (bt a0 (ji6))] rfl (by (try simp only [List.map_toArray, List.map_cons, List.map_nil]); first | done | (simp only [hji6]; rfl) | rfl | (simp only [List.length_drop, List.length_take]; rfl)) ?_; (with_reducible refine (glossatorref03_digit.calls k1 (bt a0 (ji6)) t106 _ A10.out).mono ?_); rintro e w' ⟨rfl, ⟨nd, rfl⟩⟩; refine ⟨_, rfl, ?_⟩))
                        go_roundg k1
                        case measure => have := HK1.out; omega
                        case rel => exact ⟨(wrap64 ((wrap64 (16 * x9_1)) + t106)), (wrap64 (x10_1 + 1)), (by first | rfl | (simp; done) | (simp [*]; done)), (by first | rfl | (simp; done) | (simp [*]; done)), H', ⟨by have := HK1.out; omega⟩, by repeat (first | exact Drawn0.refl _ | apply Drawn0.step)⟩
                    · rw [if_neg c21] at H
                      have c21b0 : (x9_1 == 13) = false := beq_eq_false_iff_ne.mpr c21
                      have c21b1 : (x9_1 != 13) = true := bne_iff_ne.mpr c21
                      have H' := Aside0.mk H
                      clear H
                      have p9 : 0 ≤ ((ji6) : Int) := of_decide_eq_true (by first | (with_reducible assumption) | assumption)
                      have q9 : (ji6) < (a0.size : Int) := of_decide_eq_true (by first | (with_reducible assumption) | assumption)
                      have hx9 := bt_at a0 (ji6)
                      replace p9 := eq_true p9
                      replace q9 := eq_true q9
                      go_wp2_with (first | ((with_reducible refine gate_callee (f := 81) rfl ?_); refine goesL_ (some 30) rfl rfl Try.func81 (by kernel_rfl) rfl #[.int .u8 (bt a0 (ji6))] rfl (by (try simp only [List.map_toArray, List.map_cons, List.map_nil]); first | done | (simp only [hji6]; rfl) | rfl | (simp only [List.length_drop, List.length_take]; rfl)) ?_; (with_reducible refine (glossatorref03_digit.calls k1 (bt a0 (ji6)) t106 _ A10.out).mono ?_); rintro e w' ⟨rfl, ⟨nd, rfl⟩⟩; refine ⟨_, rfl, ?_⟩))
                      go_roundg k1
                      case measure => have := HK1.out; omega
                      case rel => exact ⟨(wrap64 ((wrap64 (16 * x9_1)) + t106)), (wrap64 (x10_1 + 1)), (by first | rfl | (simp; done) | (simp [*]; done)), (by first | rfl | (simp; done) | (simp [*]; done)), H', ⟨by have := HK1.out; omega⟩, by repeat (first | exact Drawn0.refl _ | apply Drawn0.step)⟩
                  · rw [if_neg c20] at H
                    have c20b0 : (x10_1 == 1) = false := beq_eq_false_iff_ne.mpr c20
                    have c20b1 : (x10_1 != 1) = true := bne_iff_ne.mpr c20
                    have H' := Aside0.mk H
                    clear H
                    have p9 : 0 ≤ ((ji6) : Int) := of_decide_eq_true (by first | (with_reducible assumption) | assumption)
                    have q9 : (ji6) < (a0.size : Int) := of_decide_eq_true (by first | (with_reducible assumption) | assumption)
                    have hx9 := bt_at a0 (ji6)
                    replace p9 := eq_true p9
                    replace q9 := eq_true q9
                    go_wp2_with (first | ((with_reducible refine gate_callee (f := 81) rfl ?_); refine goesL_ (some 30) rfl rfl Try.func81 (by kernel_rfl) rfl #[.int .u8 (bt a0 (ji6))] rfl (by (try simp only [List.map_toArray, List.map_cons, List.map_nil]); first | done | (simp only [hji6]; rfl) | rfl | (simp only [List.length_drop, List.length_take]; rfl)) ?_; (with_reducible refine (glossatorref03_digit.calls k1 (bt a0 (ji6)) t106 _ A10.out).mono ?_); rintro e w' ⟨rfl, ⟨nd, rfl⟩⟩; refine ⟨_, rfl, ?_⟩))
                    go_roundg k1
                    case measure => have := HK1.out; omega
                    case rel => exact ⟨(wrap64 ((wrap64 (16 * x9_1)) + t106)), (wrap64 (x10_1 + 1)), (by first | rfl | (simp; done) | (simp [*]; done)), (by first | rfl | (simp; done) | (simp [*]; done)), H', ⟨by have := HK1.out; omega⟩, by repeat (first | exact Drawn0.refl _ | apply Drawn0.step)⟩
            · rw [if_neg c8] at H
              exact absurd H (by simp)
          · rw [if_neg c7] at H
            exact absurd H (by simp)
      · rw [if_neg c4] at H
        have c4b0 : decide (x10_1 < 4) = false := decide_eq_false c4
        clear c4
        simp only [Option.some.injEq, Prod.mk.injEq] at H
        obtain ⟨rfl, rfl, rfl⟩ := H
        go_wp2
        go_ret3
        exact ⟨by first | rfl | (simp; done) | (simp [*]; done), by repeat (first | exact Drawn0.refl _ | apply Drawn0.step)⟩

end Go.Proofs.Ytlbokaekhjjabaa.S

-- Written by a program of this session (joint.sh) out of the translation. Not trusted: Lean checks it.
namespace Go.Proofs.Ytlbokaekhjjabaa.S
open Go.RowKit Go.Proofs.YtlbokaekhjjabaaW.PrintWords Go.Proofs.YtlbokaekhjjabaaW.PrintLast Go.Proofs.YtlbokaekhjjabaaW.PrintMore
attribute [local go_sem] max2_int min2_int max_two min_two max_three min_three max_four min_four   -- for this text's walks alone
set_option linter.unusedVariables false
set_option linter.unusedSimpArgs false

/-! ### glossatorref03_escape: function 58 -/
mutual
def glossatorref03_escape.j0 : Nat → ByteArray → Int → Int → Bool → Option (ByteArray × Int × Int)
  | 0, _, _, _, _ => none
  | k + 1, x0, x8, x9, x54 => if x54 = true then ((glossatorref02_Encode.f x8).bind fun t114 => (some (t114, x9, 0))) else (glossatorref03_escape.l0 k x0 x8 x9 (⟨#[92, 117]⟩ : ByteArray) 0)
def glossatorref03_escape.l0 : Nat → ByteArray → Int → Int → ByteArray → Int → Option (ByteArray × Int × Int)
  | 0, _, _, _, _, _ => none
  | k + 1, x0, x8, x9, x11, x12 => if x12 < 2 then (if (wrap64 (x9 + x12)) ≥ (x0.size : Int) then (some ((⟨#[]⟩ : ByteArray), (x0.size : Int), 3)) else (if 0 ≤ (wrap64 (x9 + x12)) then (if (wrap64 (x9 + x12)) < (x0.size : Int) then (if 0 ≤ x12 then (if x12 < (x11.size : Int) then (if (bt x0 (wrap64 (x9 + x12))) = (bt x11 x12) then (glossatorref03_escape.l0 k x0 x8 x9 x11 (wrap64 (x12 + 1))) else (some ((⟨#[]⟩ : ByteArray), wrap64 (x9 + x12), 4))) else (none)) else (none)) else (none)) else (none))) else ((glossatorref03_four.f k x0 (wrap64 (x9 + 2)) true).bind fun bt115 => (if bt115.2.2 = 0 then ((glossatorref02_Encode.f (wrap64 ((wrap64 ((wrap64 (65536 + (wrap64 ((wrap64 (x8 - 55296)) * 1024)))) + bt115.1)) - 56320))).bind fun t118 => (some (t118, bt115.2.1, 0))) else (some ((⟨#[]⟩ : ByteArray), bt115.2.1, bt115.2.2))))
end
def glossatorref03_escape.f (k : Nat) (a0 : ByteArray) (a1 : Int) : Option (ByteArray × Int × Int) := if a1 ≥ (a0.size : Int) then (some ((⟨#[]⟩ : ByteArray), (a0.size : Int), 3)) else (if 0 ≤ a1 then (if a1 < (a0.size : Int) then (if (bt a0 a1) = 117 then ((glossatorref03_four.f k a0 (wrap64 (a1 + 1)) false).bind fun bt111 => (if bt111.2.2 = 0 then (if bt111.1 < 55296 then (glossatorref03_escape.j0 k a0 bt111.1 bt111.2.1 true) else (glossatorref03_escape.j0 k a0 bt111.1 bt111.2.1 (decide (bt111.1 > 56319)))) else (some ((⟨#[]⟩ : ByteArray), bt111.2.1, bt111.2.2)))) else ((glossatorref03_plain.f k (bt a0 a1)).bind fun t107 => (if t107 = 0 then (some ((⟨#[]⟩ : ByteArray), a1, 4)) else (some (strOfNums (([t107] : List Int)), wrap64 (a1 + 1), 0))))) else (none)) else (none))
theorem glossatorref03_escape.mono_l : ∀ k, (∀ y0 y1 y2 y3, LeO (glossatorref03_escape.j0 k y0 y1 y2 y3) (glossatorref03_escape.j0 (k + 1) y0 y1 y2 y3)) ∧ (∀ y0 y1 y2 y3 y4, LeO (glossatorref03_escape.l0 k y0 y1 y2 y3 y4) (glossatorref03_escape.l0 (k + 1) y0 y1 y2 y3 y4))
  | 0 => ⟨fun _ _ _ _ r h => by simp [glossatorref03_escape.j0] at h, fun _ _ _ _ _ r h => by simp [glossatorref03_escape.l0] at h⟩
  | k + 1 => by
    obtain ⟨ih0, ih1⟩ := glossatorref03_escape.mono_l k
    refine ⟨?_, ?_⟩
    · intro y0 y1 y2 y3
      unfold glossatorref03_escape.j0
      repeat' first
      | (with_reducible exact ih0 _ _ _ _)
      | (with_reducible exact ih1 _ _ _ _ _)
      | (with_reducible exact glossatorref03_four.mono _ _ _ _)
      | (with_reducible exact glossatorref03_plain.mono _ _)
      | (with_reducible exact LeO.refl _)
      | (with_reducible exact LeO.none _)
      | (with_reducible refine LeO.ite ?_ ?_)
      | (with_reducible refine LeO.bind ?_ (fun _ => ?_))
      | exact ih0 _ _ _ _
      | exact ih1 _ _ _ _ _
      | exact glossatorref03_four.mono _ _ _ _
      | exact glossatorref03_plain.mono _ _
      | exact LeO.none _
      | refine LeO.ite ?_ ?_
      | refine LeO.bind ?_ (fun _ => ?_)
    · intro y0 y1 y2 y3 y4
      unfold glossatorref03_escape.l0
      repeat' first
      | (with_reducible exact ih0 _ _ _ _)
      | (with_reducible exact ih1 _ _ _ _ _)
      | (with_reducible exact glossatorref03_four.mono _ _ _ _)
      | (with_reducible exact glossatorref03_plain.mono _ _)
      | (with_reducible exact LeO.refl _)
      | (with_reducible exact LeO.none _)
      | (with_reducible refine LeO.ite ?_ ?_)
      | (with_reducible refine LeO.bind ?_ (fun _ => ?_))
      | exact ih0 _ _ _ _
      | exact ih1 _ _ _ _ _
      | exact glossatorref03_four.mono _ _ _ _
      | exact glossatorref03_plain.mono _ _
      | exact LeO.none _
      | refine LeO.ite ?_ ?_
      | refine LeO.bind ?_ (fun _ => ?_)
theorem glossatorref03_escape.mono : ∀ a0 a1 k, LeO (glossatorref03_escape.f k a0 a1) (glossatorref03_escape.f (k + 1) a0 a1) := by
  intro a0 a1 k
  obtain ⟨ih0, ih1⟩ := glossatorref03_escape.mono_l k
  unfold glossatorref03_escape.f
  repeat' first
      | (with_reducible exact ih0 _ _ _ _)
      | (with_reducible exact ih1 _ _ _ _ _)
      | (with_reducible exact glossatorref03_four.mono _ _ _ _)
      | (with_reducible exact glossatorref03_plain.mono _ _)
      | (with_reducible exact LeO.refl _)
      | (with_reducible exact LeO.none _)
      | (with_reducible refine LeO.ite ?_ ?_)
      | (with_reducible refine LeO.bind ?_ (fun _ => ?_))
      | exact ih0 _ _ _ _
      | exact ih1 _ _ _ _ _
      | exact glossatorref03_four.mono _ _ _ _
      | exact glossatorref03_plain.mono _ _
      | exact LeO.none _
      | refine LeO.ite ?_ ?_
      | refine LeO.bind ?_ (fun _ => ?_)
set_option maxHeartbeats 8000000 in
set_option maxRecDepth 100000 in
theorem glossatorref03_escape.calls (k : Nat) (a0 : ByteArray) (a1 : Int) (r1 : ByteArray) (r2 : Int) (r3 : Int) (w : World) (h : glossatorref03_escape.f k a0 a1 = some (r1, r2, r3)) :
    Calls Try.prog 58 #[.string a0, .int .i64 a1] w fun e w' => e = .returned (.tuple #[.string r1, .int .i64 r2, .int .i64 r3]) ∧ Below w.heap.size w w' := by
  have HB := Aside0.mk (Below.refl w.heap.size w)
  have H : (if a1 ≥ (a0.size : Int) then (some ((⟨#[]⟩ : ByteArray), (a0.size : Int), 3)) else (if 0 ≤ a1 then (if a1 < (a0.size : Int) then (if (bt a0 a1) = 117 then ((glossatorref03_four.f k a0 (wrap64 (a1 + 1)) false).bind fun bt111 => (if bt111.2.2 = 0 then (if bt111.1 < 55296 then (glossatorref03_escape.j0 k a0 bt111.1 bt111.2.1 true) else (glossatorref03_escape.j0 k a0 bt111.1 bt111.2.1 (decide (bt111.1 > 56319)))) else (some ((⟨#[]⟩ : ByteArray), bt111.2.1, bt111.2.2)))) else ((glossatorref03_plain.f k (bt a0 a1)).bind fun t107 => (if t107 = 0 then (some ((⟨#[]⟩ : ByteArray), a1, 4)) else (some (strOfNums (([t107] : List Int)), wrap64 (a1 + 1), 0))))) else (none)) else (none))) = some (r1, r2, r3) := h
  clear h
  by_cases c3 : a1 ≥ (a0.size : Int)
  · rw [if_pos c3] at H
    have c3b0 : decide ((a0.size : Int) ≤ a1) = true := decide_eq_true c3
    clear c3
    simp only [Option.some.injEq, Prod.mk.injEq] at H
    obtain ⟨rfl, rfl, rfl⟩ := H
    go_enter Try.func58, Try.ntmps58
    go_wp2
    repeat (go_quiet (fail); try go_wp2)
    go_ret3
    exact ⟨by first | rfl | (simp [errW_none, errW_some] <;> rfl) | (simp [*, errW_none, errW_some] <;> rfl), by repeat (first | (with_reducible first | exact HB.out | apply below_alloc | apply pw_below_drewN | apply below_drew1) | exact HB.out)⟩
  · rw [if_neg c3] at H
    have c3b0 : decide ((a0.size : Int) ≤ a1) = false := decide_eq_false c3
    clear c3
    by_cases c4 : 0 ≤ a1
    · rw [if_pos c4] at H
      have c4b0 : decide (0 ≤ a1) = true := decide_eq_true c4
      clear c4
      by_cases c5 : a1 < (a0.size : Int)
      · rw [if_pos c5] at H
        have c5b0 : decide (a1 < (a0.size : Int)) = true := decide_eq_true c5
        clear c5
        by_cases c7 : (bt a0 a1) = 117
        · rw [if_pos c7] at H
          have c7b0 : ((bt a0 a1) == 117) = true := beq_iff_eq.mpr c7
          have c7b1 : ((bt a0 a1) != 117) = false := bne_eq_false_iff_eq.mpr c7
          clear c7
          replace H := Option.bind_eq_some_iff.mp H
          obtain ⟨⟨t111, t112, t113⟩, A80, H⟩ := H
          replace H : (if t113 = 0 then (if t111 < 55296 then (glossatorref03_escape.j0 k a0 t111 t112 true) else (glossatorref03_escape.j0 k a0 t111 t112 (decide (t111 > 56319)))) else (some ((⟨#[]⟩ : ByteArray), t112, t113))) = some (r1, r2, r3) := H
          have A8 := Aside0.mk A80
          clear A80
          by_cases c9 : t113 = 0
          · rw [if_pos c9] at H
            have c9b0 : (t113 == 0) = true := beq_iff_eq.mpr c9
            have c9b1 : (t113 != 0) = false := bne_eq_false_iff_eq.mpr c9
            clear c9
            have HC10 := Aside0.mk H
            clear H
            have p6 : 0 ≤ (a1 : Int) := of_decide_eq_true (by first | (with_reducible assumption) | assumption)
            have q6 : a1 < (a0.size : Int) := of_decide_eq_true (by first | (with_reducible assumption) | assumption)
            have hx6 := bt_at a0 a1
            replace p6 := eq_true p6
            replace q6 := eq_true q6
            go_enter Try.func58, Try.ntmps58
            go_upto_region 11 with (first | (go_at_call 73; (with_reducible refine (glossatorref03_four.calls k a0 (wrap64 (a1 + 1)) false t111 t112 t113 _ A8.out).mono ?_); rintro e w' ⟨rfl, ⟨nd, rfl⟩⟩; (try first | exact ⟨rfl, _, World.drewN_drewN _ _ _⟩ | exact ⟨rfl, _, Eq.trans (World.drewN_drewN _ _ _) (congrArg (World.drewN _) (Nat.add_assoc _ _ _))⟩)))
            repeat (go_quiet (first | (go_at_call 73; (with_reducible refine (glossatorref03_four.calls k a0 (wrap64 (a1 + 1)) false t111 t112 t113 _ A8.out).mono ?_); rintro e w' ⟨rfl, ⟨nd, rfl⟩⟩; (try first | exact ⟨rfl, _, World.drewN_drewN _ _ _⟩ | exact ⟨rfl, _, Eq.trans (World.drewN_drewN _ _ _) (congrArg (World.drewN _) (Nat.add_assoc _ _ _))⟩))); go_upto_region 11 with (first | (go_at_call 73; (with_reducible refine (glossatorref03_four.calls k a0 (wrap64 (a1 + 1)) false t111 t112 t113 _ A8.out).mono ?_); rintro e w' ⟨rfl, ⟨nd, rfl⟩⟩; (try first | exact ⟨rfl, _, World.drewN_drewN _ _ _⟩ | exact ⟨rfl, _, Eq.trans (World.drewN_drewN _ _ _) (congrArg (World.drewN _) (Nat.add_assoc _ _ _))⟩))))
            (try simp only [Act.put, List.setIfInBounds_toArray, List.set_cons_zero, List.set_cons_succ])
            go_cut [54] (fun v54 wc => ∃ (kq : Nat) (x54_9 : Bool), v54 = .bool x54_9 ∧ Aside0 (glossatorref03_escape.j0 kq a0 t111 t112 x54_9 = some (r1, r2, r3)) ∧ Aside0 (kq ≤ k) ∧ Aside0 (Below w.heap.size w wc))
            case first =>
              have H := HC10.out
              clear HC10
              by_cases c11 : t111 < 55296
              · rw [if_pos c11] at H
                have c11b0 : decide (t111 < 55296) = true := decide_eq_true c11
                clear c11
                (first | rw [c11b0] | (simp only [i64_w, i32_w]; rw [c11b0]) | skip)
                have H' := Aside0.mk H
                clear H
                go_wp2
                repeat (go_quiet (fail); try go_wp2)
                go_meet
                case rel => exact ⟨_, (true), (by first | rfl | (simp; done) | (simp [*]; done)), H', ⟨by first | omega | exact Nat.le_refl _⟩, ⟨by repeat (first | (with_reducible first | exact HB.out | apply below_alloc | apply pw_below_drewN | apply below_drew1) | exact HB.out)⟩⟩
              · rw [if_neg c11] at H
                have c11b0 : decide (t111 < 55296) = false := decide_eq_false c11
                clear c11
                (first | rw [c11b0] | (simp only [i64_w, i32_w]; rw [c11b0]) | skip)
                have H' := Aside0.mk H
                clear H
                go_wp2
                repeat (go_quiet (fail); try go_wp2)
                go_meet
                case rel => exact ⟨_, (decide (t111 > 56319)), (by first | rfl | (simp; done) | (simp [*]; done)), H', ⟨by first | omega | exact Nat.le_refl _⟩, ⟨by repeat (first | (with_reducible first | exact HB.out | apply below_alloc | apply pw_below_drewN | apply below_drew1) | exact HB.out)⟩⟩
            case rest =>
              clear HC10
              try clear c1
              try clear p2
              try clear c3
              try clear c3b0
              try clear c4
              try clear c4b0
              try clear c5
              try clear c5b0
              try clear p6
              try clear q6
              try clear hx6
              try clear c7
              try clear c7b0
              try clear c7b1
              try clear c9
              try clear c9b0
              try clear c9b1
              try clear c11
              try clear c11b0
              try clear p6
              try clear q6
              obtain ⟨kq, x54_9, rfl, HA, HJ9, HB⟩ := hcut
              cases kq with
              | zero => exact absurd HA.out (by simp [glossatorref03_escape.j0])
              | succ kj9 =>
                have H := HA.out
                clear HA
                simp only [glossatorref03_escape.j0] at H
                by_cases c12 : x54_9 = true
                · subst c12
                  have H1 : ((glossatorref02_Encode.f t111).bind fun t114 => (some (t114, t112, 0))) = some (r1, r2, r3) := by rw [if_pos rfl] at H; exact H
                  clear H
                  have H := H1
                  clear H1
                  replace H := Option.bind_eq_some_iff.mp H
                  obtain ⟨t114, A130, H⟩ := H
                  replace H : (some (t114, t112, 0)) = some (r1, r2, r3) := H
                  have A13 := Aside0.mk A130
                  clear A130
                  simp only [Option.some.injEq, Prod.mk.injEq] at H
                  obtain ⟨rfl, rfl, rfl⟩ := H
                  go_wp2_with (first | (go_at_call 29; (with_reducible refine (glossatorref02_Encode.calls t111 t114 _ A13.out).mono ?_); rintro e w14 ⟨rfl, hb⟩; have n0_ := Aside0.mk (below_step (by repeat (first | (with_reducible first | exact HB.out | apply below_alloc | apply pw_below_drewN | apply below_drew1) | exact HB.out)) hb); clear HB; have HB := n0_; clear n0_; (try clear hb); (try clear hb2); (try clear hk); (try clear hi)))
                  repeat (go_quiet (first | (go_at_call 29; (with_reducible refine (glossatorref02_Encode.calls t111 t114 _ A13.out).mono ?_); rintro e w14 ⟨rfl, hb⟩; have n0_ := Aside0.mk (below_step (by repeat (first | (with_reducible first | exact HB.out | apply below_alloc | apply pw_below_drewN | apply below_drew1) | exact HB.out)) hb); clear HB; have HB := n0_; clear n0_; (try clear hb); (try clear hb2); (try clear hk); (try clear hi))); try go_wp2_with (first | (go_at_call 29; (with_reducible refine (glossatorref02_Encode.calls t111 t114 _ A13.out).mono ?_); rintro e w14 ⟨rfl, hb⟩; have n0_ := Aside0.mk (below_step (by repeat (first | (with_reducible first | exact HB.out | apply below_alloc | apply pw_below_drewN | apply below_drew1) | exact HB.out)) hb); clear HB; have HB := n0_; clear n0_; (try clear hb); (try clear hb2); (try clear hk); (try clear hi))))
                  go_ret3
                  exact ⟨by first | rfl | (simp [errW_none, errW_some] <;> rfl) | (simp [*, errW_none, errW_some] <;> rfl), by repeat (first | (with_reducible first | exact HB.out | apply below_alloc | apply pw_below_drewN | apply below_drew1) | exact HB.out)⟩
                · replace c12 := Bool.eq_false_iff.mpr c12
                  subst c12
                  have H1 : (glossatorref03_escape.l0 kj9 a0 t111 t112 (⟨#[92, 117]⟩ : ByteArray) 0) = some (r1, r2, r3) := by rw [if_neg (show ¬ (false = true) by decide)] at H; exact H
                  clear H
                  have H := H1
                  clear H1
                  have H' := Aside0.mk H
                  clear H
                  go_wp2
                  repeat (go_quiet (fail); try go_wp2)
                  go_loopg [12] kj9 (fun kq v12 w' => ∃ (x12_2 : Int), v12 = .int .i64 x12_2 ∧ Aside0 (glossatorref03_escape.l0 kq a0 t111 t112 (⟨#[92, 117]⟩ : ByteArray) x12_2 = some (r1, r2, r3)) ∧ Aside0 (kq ≤ kj9) ∧ Aside0 (Below w.heap.size w w'))
                  case atStart => exact ⟨(0), (by first | rfl | (simp; done) | (simp [*]; done)), H', ⟨Nat.le_refl _⟩, ⟨by repeat (first | (with_reducible first | exact HB.out | apply below_alloc | apply pw_below_drewN | apply below_drew1) | exact HB.out)⟩⟩
                  case round =>
                    clear H'
                    try clear c1
                    try clear p2
                    try clear c3
                    try clear c3b0
                    try clear c4
                    try clear c4b0
                    try clear c5
                    try clear c5b0
                    try clear p6
                    try clear q6
                    try clear hx6
                    try clear c7
                    try clear c7b0
                    try clear c7b1
                    try clear c9
                    try clear c9b0
                    try clear c9b1
                    try clear c11
                    try clear c11b0
                    try clear c12
                    try clear p2
                    try clear p6
                    try clear q6
                    obtain ⟨x12_2, rfl, HA, HK2, HB⟩ := hrel
                    cases gk with
                    | zero => exact absurd HA.out (by simp [glossatorref03_escape.l0])
                    | succ k2 =>
                      have H := HA.out
                      clear HA
                      simp only [glossatorref03_escape.l0] at H
                      by_cases c15 : x12_2 < 2
                      · rw [if_pos c15] at H
                        have c15b0 : decide (x12_2 < 2) = true := decide_eq_true c15
                        clear c15
                        by_cases c16 : (wrap64 (t112 + x12_2)) ≥ (a0.size : Int)
                        · rw [if_pos c16] at H
                          have c16b0 : decide ((a0.size : Int) ≤ (wrap64 (t112 + x12_2))) = true := decide_eq_true c16
                          clear c16
                          simp only [Option.some.injEq, Prod.mk.injEq] at H
                          obtain ⟨rfl, rfl, rfl⟩ := H
                          go_wp2
                          repeat (go_quiet (fail); try go_wp2)
                          go_ret3
                          exact ⟨by first | rfl | (simp [errW_none, errW_some] <;> rfl) | (simp [*, errW_none, errW_some] <;> rfl), by repeat (first | (with_reducible first | exact HB.out | apply below_alloc | apply pw_below_drewN | apply below_drew1) | exact HB.out)⟩
                        · rw [if_neg c16] at H
                          have c16b0 : decide ((a0.size : Int) ≤ (wrap64 (t112 + x12_2))) = false := decide_eq_false c16
                          clear c16
                          obtain ⟨ji17, hji17⟩ : ∃ j_ : Int, (wrap64 (t112 + x12_2)) = j_ := ⟨_, rfl⟩
                          replace H : (if 0 ≤ (ji17) then (if (ji17) < (a0.size : Int) then (if 0 ≤ x12_2 then (if x12_2 < ((⟨#[92, 117]⟩ : ByteArray).size : Int) then (if (bt a0 (ji17)) = (bt (⟨#[92, 117]⟩ : ByteArray) x12_2) then (glossatorref03_escape.l0 k2 a0 t111 t112 (⟨#[92, 117]⟩ : ByteArray) (wrap64 (x12_2 + 1))) else (some ((⟨#[]⟩ : ByteArray), ji17, 4))) else (none)) else (none)) else (none)) else (none)) = some (r1, r2, r3) := by first | (rw [hji17] at H; exact H) | (simp only [hji17] at H ⊢; exact H)
                          (try rw [hji17] at c16b0)
                          have hji17w : (IntKind.i64.wrap (t112 + x12_2)) = ji17 := (i64_w _).trans hji17
                          by_cases c18 : 0 ≤ (ji17)
                          · rw [if_pos c18] at H
                            have c18b0 : decide (0 ≤ (ji17)) = true := decide_eq_true c18
                            clear c18
                            by_cases c19 : (ji17) < (a0.size : Int)
                            · rw [if_pos c19] at H
                              have c19b0 : decide ((ji17) < (a0.size : Int)) = true := decide_eq_true c19
                              clear c19
                              by_cases c21 : 0 ≤ x12_2
                              · rw [if_pos c21] at H
                                have c21b0 : decide (0 ≤ x12_2) = true := decide_eq_true c21
                                clear c21
                                by_cases c22 : x12_2 < ((⟨#[92, 117]⟩ : ByteArray).size : Int)
                                · rw [if_pos c22] at H
                                  have c22b0 : decide (x12_2 < ((⟨#[92, 117]⟩ : ByteArray).size : Int)) = true := decide_eq_true c22
                                  clear c22
                                  by_cases c24 : (bt a0 (ji17)) = (bt (⟨#[92, 117]⟩ : ByteArray) x12_2)
                                  · rw [if_pos c24] at H
                                    have c24b0 : ((bt a0 (ji17)) == (bt (⟨#[92, 117]⟩ : ByteArray) x12_2)) = true := beq_iff_eq.mpr c24
                                    have c24b1 : ((bt a0 (ji17)) != (bt (⟨#[92, 117]⟩ : ByteArray) x12_2)) = false := bne_eq_false_iff_eq.mpr c24
                                    clear c24
                                    have H' := Aside0.mk H
                                    clear H
                                    have p20 : 0 ≤ ((ji17) : Int) := of_decide_eq_true (by first | (with_reducible assumption) | assumption)
                                    have q20 : (ji17) < (a0.size : Int) := of_decide_eq_true (by first | (with_reducible assumption) | assumption)
                                    have hx20 := bt_at a0 (ji17)
                                    replace p20 := eq_true p20
                                    replace q20 := eq_true q20
                                    have p23 : 0 ≤ (x12_2 : Int) := of_decide_eq_true (by first | (with_reducible assumption) | assumption)
                                    have q23 : x12_2 < (2 : Int) := of_decide_eq_true (by first | (with_reducible assumption) | assumption)
                                    have hx23 := bt_at (⟨#[92, 117]⟩ : ByteArray) x12_2
                                    replace p23 := eq_true p23
                                    replace q23 := eq_true q23
                                    go_wp2
                                    repeat (go_quiet (fail); try go_wp2)
                                    go_roundg k2
                                    case measure => have := HJ9.out; have := HK2.out; omega
                                    case rel => exact ⟨(wrap64 (x12_2 + 1)), (by first | rfl | (simp; done) | (simp [*]; done)), H', ⟨by have := HJ9.out; have := HK2.out; omega⟩, ⟨by repeat (first | (with_reducible first | exact HB.out | apply below_alloc | apply pw_below_drewN | apply below_drew1) | exact HB.out)⟩⟩
                                  · rw [if_neg c24] at H
                                    have c24b0 : ((bt a0 (ji17)) == (bt (⟨#[92, 117]⟩ : ByteArray) x12_2)) = false := beq_eq_false_iff_ne.mpr c24
                                    have c24b1 : ((bt a0 (ji17)) != (bt (⟨#[92, 117]⟩ : ByteArray) x12_2)) = true := bne_iff_ne.mpr c24
                                    simp only [Option.some.injEq, Prod.mk.injEq] at H
                                    obtain ⟨rfl, rfl, rfl⟩ := H
                                    have p20 : 0 ≤ ((ji17) : Int) := of_decide_eq_true (by first | (with_reducible assumption) | assumption)
                                    have q20 : (ji17) < (a0.size : Int) := of_decide_eq_true (by first | (with_reducible assumption) | assumption)
                                    have hx20 := bt_at a0 (ji17)
                                    replace p20 := eq_true p20
                                    replace q20 := eq_true q20
                                    have p23 : 0 ≤ (x12_2 : Int) := of_decide_eq_true (by first | (with_reducible assumption) | assumption)
                                    have q23 : x12_2 < (2 : Int) := of_decide_eq_true (by first | (with_reducible assumption) | assumption)
                                    have hx23 := bt_at (⟨#[92, 117]⟩ : ByteArray) x12_2
                                    replace p23 := eq_true p23
                                    replace q23 := eq_true q23
                                    go_wp2
                                    repeat (go_quiet (fail); try go_wp2)
                                    go_ret3
                                    exact ⟨by first | rfl | (simp [errW_none, errW_some] <;> rfl) | (simp only [← hji17]; first | rfl | (simp [errW_none, errW_some] <;> rfl)) | (simp [*, errW_none, errW_some] <;> rfl), by repeat (first | (with_reducible first | exact HB.out | apply below_alloc | apply pw_below_drewN | apply below_drew1) | exact HB.out)⟩
                                · rw [if_neg c22] at H
                                  exact absurd H (by simp)
                              · rw [if_neg c21] at H
                                exact absurd H (by simp)
                            · rw [if_neg c19] at H
                              exact absurd H (by simp)
                          · rw [if_neg c18] at H
                            exact absurd H (by simp)
                      · rw [if_neg c15] at H
                        have c15b0 : decide (x12_2 < 2) = false := decide_eq_false c15
                        clear c15
                        replace H := Option.bind_eq_some_iff.mp H
                        obtain ⟨⟨t115, t116, t117⟩, A250, H⟩ := H
                        replace H : (if t117 = 0 then ((glossatorref02_Encode.f (wrap64 ((wrap64 ((wrap64 (65536 + (wrap64 ((wrap64 (t111 - 55296)) * 1024)))) + t115)) - 56320))).bind fun t118 => (some (t118, t116, 0))) else (some ((⟨#[]⟩ : ByteArray), t116, t117))) = some (r1, r2, r3) := H
                        have A25 := Aside0.mk A250
                        clear A250
                        by_cases c26 : t117 = 0
                        · rw [if_pos c26] at H
                          have c26b0 : (t117 == 0) = true := beq_iff_eq.mpr c26
                          have c26b1 : (t117 != 0) = false := bne_eq_false_iff_eq.mpr c26
                          clear c26
                          replace H := Option.bind_eq_some_iff.mp H
                          obtain ⟨t118, A270, H⟩ := H
                          replace H : (some (t118, t116, 0)) = some (r1, r2, r3) := H
                          have A27 := Aside0.mk A270
                          clear A270
                          simp only [Option.some.injEq, Prod.mk.injEq] at H
                          obtain ⟨rfl, rfl, rfl⟩ := H
                          go_wp2_with (first | (go_at_call 73; (with_reducible refine (glossatorref03_four.calls k2 a0 (wrap64 (t112 + 2)) true t115 t116 t117 _ A25.out).mono ?_); rintro e w' ⟨rfl, ⟨nd, rfl⟩⟩; (try first | exact ⟨rfl, _, World.drewN_drewN _ _ _⟩ | exact ⟨rfl, _, Eq.trans (World.drewN_drewN _ _ _) (congrArg (World.drewN _) (Nat.add_assoc _ _ _))⟩)) | (go_at_call 29; (with_reducible refine (glossatorref02_Encode.calls (wrap64 ((wrap64 ((wrap64 (65536 + (wrap64 ((wrap64 (t111 - 55296)) * 1024)))) + t115)) - 56320)) t118 _ A27.out).mono ?_); rintro e w28 ⟨rfl, hb⟩; have n0_ := Aside0.mk (below_step (by repeat (first | (with_reducible first | exact HB.out | apply below_alloc | apply pw_below_drewN | apply below_drew1) | exact HB.out)) hb); clear HB; have HB := n0_; clear n0_; (try clear hb); (try clear hb2); (try clear hk); (try clear hi)))
                          repeat (go_quiet (first | (go_at_call 73; (with_reducible refine (glossatorref03_four.calls k2 a0 (wrap64 (t112 + 2)) true t115 t116 t117 _ A25.out).mono ?_); rintro e w' ⟨rfl, ⟨nd, rfl⟩⟩; (try first | exact ⟨rfl, _, World.drewN_drewN _ _ _⟩ | exact ⟨rfl, _, Eq.trans (World.drewN_drewN _ _ _) (congrArg (World.drewN _) (Nat.add_assoc _ _ _))⟩)) | (go_at_call 29; (with_reducible refine (glossatorref02_Encode.calls (wrap64 ((wrap64 ((wrap64 (65536 + (wrap64 ((wrap64 (t111 - 55296)) * 1024)))) + t115)) - 56320)) t118 _ A27.out).mono ?_); rintro e w28 ⟨rfl, hb⟩; have n0_ := Aside0.mk (below_step (by repeat (first | (with_reducible first | exact HB.out | apply below_alloc | apply pw_below_drewN | apply below_drew1) | exact HB.out)) hb); clear HB; have HB := n0_; clear n0_; (try clear hb); (try clear hb2); (try clear hk); (try clear hi))); try go_wp2_with (first | (go_at_call 73; (with_reducible refine (glossatorref03_four.calls k2 a0 (wrap64 (t112 + 2)) true t115 t116 t117 _ A25.out).mono ?_); rintro e w' ⟨rfl, ⟨nd, rfl⟩⟩; (try first | exact ⟨rfl, _, World.drewN_drewN _ _ _⟩ | exact ⟨rfl, _, Eq.trans (World.drewN_drewN _ _ _) (congrArg (World.drewN _) (Nat.add_assoc _ _ _))⟩)) | (go_at_call 29; (with_reducible refine (glossatorref02_Encode.calls (wrap64 ((wrap64 ((wrap64 (65536 + (wrap64 ((wrap64 (t111 - 55296)) * 1024)))) + t115)) - 56320)) t118 _ A27.out).mono ?_); rintro e w28 ⟨rfl, hb⟩; have n0_ := Aside0.mk (below_step (by repeat (first | (with_reducible first | exact HB.out | apply below_alloc | apply pw_below_drewN | apply below_drew1) | exact HB.out)) hb); clear HB; have HB := n0_; clear n0_; (try clear hb); (try clear hb2); (try clear hk); (try clear hi))))
                          go_ret3
                          exact ⟨by first | rfl | (simp [errW_none, errW_some] <;> rfl) | (simp [*, errW_none, errW_some] <;> rfl), by repeat (first | (with_reducible first | exact HB.out | apply below_alloc | apply pw_below_drewN | apply below_drew1) | exact HB.out)⟩
                        · rw [if_neg c26] at H
                          have c26b0 : (t117 == 0) = false := beq_eq_false_iff_ne.mpr c26
                          have c26b1 : (t117 != 0) = true := bne_iff_ne.mpr c26
                          simp only [Option.some.injEq, Prod.mk.injEq] at H
                          obtain ⟨rfl, rfl, rfl⟩ := H
                          go_wp2_with (first | (go_at_call 73; (with_reducible refine (glossatorref03_four.calls k2 a0 (wrap64 (t112 + 2)) true t115 t116 t117 _ A25.out).mono ?_); rintro e w' ⟨rfl, ⟨nd, rfl⟩⟩; (try first | exact ⟨rfl, _, World.drewN_drewN _ _ _⟩ | exact ⟨rfl, _, Eq.trans (World.drewN_drewN _ _ _) (congrArg (World.drewN _) (Nat.add_assoc _ _ _))⟩)))
                          repeat (go_quiet (first | (go_at_call 73; (with_reducible refine (glossatorref03_four.calls k2 a0 (wrap64 (t112 + 2)) true t115 t116 t117 _ A25.out).mono ?_); rintro e w' ⟨rfl, ⟨nd, rfl⟩⟩; (try first | exact ⟨rfl, _, World.drewN_drewN _ _ _⟩ | exact ⟨rfl, _, Eq.trans (World.drewN_drewN _ _ _) (congrArg (World.drewN _) (Nat.add_assoc _ _ _))⟩))); try go_wp2_with (first | (go_at_call 73; (with_reducible refine (glossatorref03_four.calls k2 a0 (wrap64 (t112 + 2)) true t115 t116 t117 _ A25.out).mono ?_); rintro e w' ⟨rfl, ⟨nd, rfl⟩⟩; (try first | exact ⟨rfl, _, World.drewN_drewN _ _ _⟩ | exact ⟨rfl, _, Eq.trans (World.drewN_drewN _ _ _) (congrArg (World.drewN _) (Nat.add_assoc _ _ _))⟩))))
                          go_ret3
                          exact ⟨by first | rfl | (simp [errW_none, errW_some] <;> rfl) | (simp [*, errW_none, errW_some] <;> rfl), by repeat (first | (with_reducible first | exact HB.out | apply below_alloc | apply pw_below_drewN | apply below_drew1) | exact HB.out)⟩
          · rw [if_neg c9] at H
            have c9b0 : (t113 == 0) = false := beq_eq_false_iff_ne.mpr c9
            have c9b1 : (t113 != 0) = true := bne_iff_ne.mpr c9
            simp only [Option.some.injEq, Prod.mk.injEq] at H
            obtain ⟨rfl, rfl, rfl⟩ := H
            have p6 : 0 ≤ (a1 : Int) := of_decide_eq_true (by first | (with_reducible assumption) | assumption)
            have q6 : a1 < (a0.size : Int) := of_decide_eq_true (by first | (with_reducible assumption) | assumption)
            have hx6 := bt_at a0 a1
            replace p6 := eq_true p6
            replace q6 := eq_true q6
            go_enter Try.func58, Try.ntmps58
            go_wp2_with (first | (go_at_call 73; (with_reducible refine (glossatorref03_four.calls k a0 (wrap64 (a1 + 1)) false t111 t112 t113 _ A8.out).mono ?_); rintro e w' ⟨rfl, ⟨nd, rfl⟩⟩; (try first | exact ⟨rfl, _, World.drewN_drewN _ _ _⟩ | exact ⟨rfl, _, Eq.trans (World.drewN_drewN _ _ _) (congrArg (World.drewN _) (Nat.add_assoc _ _ _))⟩)))
            repeat (go_quiet (first | (go_at_call 73; (with_reducible refine (glossatorref03_four.calls k a0 (wrap64 (a1 + 1)) false t111 t112 t113 _ A8.out).mono ?_); rintro e w' ⟨rfl, ⟨nd, rfl⟩⟩; (try first | exact ⟨rfl, _, World.drewN_drewN _ _ _⟩ | exact ⟨rfl, _, Eq.trans (World.drewN_drewN _ _ _) (congrArg (World.drewN _) (Nat.add_assoc _ _ _))⟩))); try go_wp2_with (first | (go_at_call 73; (with_reducible refine (glossatorref03_four.calls k a0 (wrap64 (a1 + 1)) false t111 t112 t113 _ A8.out).mono ?_); rintro e w' ⟨rfl, ⟨nd, rfl⟩⟩; (try first | exact ⟨rfl, _, World.drewN_drewN _ _ _⟩ | exact ⟨rfl, _, Eq.trans (World.drewN_drewN _ _ _) (congrArg (World.drewN _) (Nat.add_assoc _ _ _))⟩))))
            go_ret3
            exact ⟨by first | rfl | (simp [errW_none, errW_some] <;> rfl) | (simp [*, errW_none, errW_some] <;> rfl), by repeat (first | (with_reducible first | exact HB.out | apply below_alloc | apply pw_below_drewN | apply below_drew1) | exact HB.out)⟩
        · rw [if_neg c7] at H
          have c7b0 : ((bt a0 a1) == 117) = false := beq_eq_false_iff_ne.mpr c7
          have c7b1 : ((bt a0 a1) != 117) = true := bne_iff_ne.mpr c7
          replace H := Option.bind_eq_some_iff.mp H
          obtain ⟨t107, A300, H⟩ := H
          replace H : (if t107 = 0 then (some ((⟨#[]⟩ : ByteArray), a1, 4)) else (some (strOfNums (([t107] : List Int)), wrap64 (a1 + 1), 0))) = some (r1, r2, r3) := H
          have A30 := Aside0.mk A300
          clear A300
          by_cases c31 : t107 = 0
          · rw [if_pos c31] at H
            have c31b0 : (t107 == 0) = true := beq_iff_eq.mpr c31
            have c31b1 : (t107 != 0) = false := bne_eq_false_iff_eq.mpr c31
            clear c31
            simp only [Option.some.injEq, Prod.mk.injEq] at H
            obtain ⟨rfl, rfl, rfl⟩ := H
            have p6 : 0 ≤ (a1 : Int) := of_decide_eq_true (by first | (with_reducible assumption) | assumption)
            have q6 : a1 < (a0.size : Int) := of_decide_eq_true (by first | (with_reducible assumption) | assumption)
            have hx6 := bt_at a0 a1
            replace p6 := eq_true p6
            replace q6 := eq_true q6
            have p29 : 0 ≤ (a1 : Int) := of_decide_eq_true (by first | (with_reducible assumption) | assumption)
            have q29 : a1 < (a0.size : Int) := of_decide_eq_true (by first | (with_reducible assumption) | assumption)
            have hx29 := bt_at a0 a1
            replace p29 := eq_true p29
            replace q29 := eq_true q29
            go_enter Try.func58, Try.ntmps58
            go_wp2_with (first | (go_at_call 72; (with_reducible refine (glossatorref03_plain.calls k (bt a0 a1) t107 _ A30.out).mono ?_); rintro e w' ⟨rfl, ⟨nd, rfl⟩⟩; (try first | exact ⟨rfl, _, World.drewN_drewN _ _ _⟩ | exact ⟨rfl, _, Eq.trans (World.drewN_drewN _ _ _) (congrArg (World.drewN _) (Nat.add_assoc _ _ _))⟩)))
            repeat (go_quiet (first | (go_at_call 72; (with_reducible refine (glossatorref03_plain.calls k (bt a0 a1) t107 _ A30.out).mono ?_); rintro e w' ⟨rfl, ⟨nd, rfl⟩⟩; (try first | exact ⟨rfl, _, World.drewN_drewN _ _ _⟩ | exact ⟨rfl, _, Eq.trans (World.drewN_drewN _ _ _) (congrArg (World.drewN _) (Nat.add_assoc _ _ _))⟩))); try go_wp2_with (first | (go_at_call 72; (with_reducible refine (glossatorref03_plain.calls k (bt a0 a1) t107 _ A30.out).mono ?_); rintro e w' ⟨rfl, ⟨nd, rfl⟩⟩; (try first | exact ⟨rfl, _, World.drewN_drewN _ _ _⟩ | exact ⟨rfl, _, Eq.trans (World.drewN_drewN _ _ _) (congrArg (World.drewN _) (Nat.add_assoc _ _ _))⟩))))
            go_ret3
            exact ⟨by first | rfl | (simp [errW_none, errW_some] <;> rfl) | (simp [*, errW_none, errW_some] <;> rfl), by repeat (first | (with_reducible first | exact HB.out | apply below_alloc | apply pw_below_drewN | apply below_drew1) | exact HB.out)⟩
          · rw [if_neg c31] at H
            have c31b0 : (t107 == 0) = false := beq_eq_false_iff_ne.mpr c31
            have c31b1 : (t107 != 0) = true := bne_iff_ne.mpr c31
            obtain ⟨y108, hy108⟩ : ∃ y_ : List Int, y_ = (([t107] : List Int)) := ⟨_, rfl⟩
            replace H : (some (strOfNums y108, wrap64 (a1 + 1), 0)) = some (r1, r2, r3) := by first | (rw [hy108]; with_reducible exact H) | (have H2_ := (Option.bind_some _ _).symm.trans H; rw [hy108]; with_reducible exact H2_) | (have H2_ := (Option.bind_some _ _).symm.trans H; with_reducible exact H2_) | with_reducible exact H | (rw [hy108]; exact H) | exact H
            have Ny108 := Aside0.mk hy108
            clear hy108
            simp only [Option.some.injEq, Prod.mk.injEq] at H
            obtain ⟨rfl, rfl, rfl⟩ := H
            have p6 : 0 ≤ (a1 : Int) := of_decide_eq_true (by first | (with_reducible assumption) | assumption)
            have q6 : a1 < (a0.size : Int) := of_decide_eq_true (by first | (with_reducible assumption) | assumption)
            have hx6 := bt_at a0 a1
            replace p6 := eq_true p6
            replace q6 := eq_true q6
            have p29 : 0 ≤ (a1 : Int) := of_decide_eq_true (by first | (with_reducible assumption) | assumption)
            have q29 : a1 < (a0.size : Int) := of_decide_eq_true (by first | (with_reducible assumption) | assumption)
            have hx29 := bt_at a0 a1
            replace p29 := eq_true p29
            replace q29 := eq_true q29
            go_enter Try.func58, Try.ntmps58
            go_wp2_with (first | (go_at_call 72; (with_reducible refine (glossatorref03_plain.calls k (bt a0 a1) t107 _ A30.out).mono ?_); rintro e w' ⟨rfl, ⟨nd, rfl⟩⟩; (try first | exact ⟨rfl, _, World.drewN_drewN _ _ _⟩ | exact ⟨rfl, _, Eq.trans (World.drewN_drewN _ _ _) (congrArg (World.drewN _) (Nat.add_assoc _ _ _))⟩)) | ((with_reducible refine gate_dst (N := 33) rfl ?_); refine Kd.R_lit (Kd.int .u8) _ 5 ?hg (N := 33) ?hd (xs := ([t107] : List Int)) (inner := [.int .u8 t107]) (ok := fun _ => True) (okp := fun _ => True) ?hr ?hp (fun _ hk => hk) trivial (Below.refl _ _) (Nat.le_refl _) (by simp) ?_; (case hd => rfl); (case hg => rfl); (case hr => first | (go_simp; done) | (go_simp; rfl)); (case hp => exact (Reps.one (show Kd.M (Kd.int .u8) _ _ _ t107 [.int .u8 t107] from rfl) (Reps.none _ _))); intro v109 w32 ho33 hb hg_ hnew_; clear hg_ hnew_; (first | rw [← Ny108.out] at ho33 | (simp only [Int.reduceToNat] at ho33; rw [← Ny108.out] at ho33)); have n0_ := Aside0.mk (Kd.R_lower ho33 (below_size (by repeat (first | (with_reducible first | exact HB.out | apply below_alloc | apply pw_below_drewN | apply below_drew1) | exact HB.out)))); have n1_ := Aside0.mk (below_step (by repeat (first | (with_reducible first | exact HB.out | apply below_alloc | apply pw_below_drewN | apply below_drew1) | exact HB.out)) hb); clear HB; have HO110 := n0_; have HB := n1_; clear n0_ n1_; clear hb ho33; have hcv34 := own_string (P := Try.prog) Try.underlying28 Try.underlying5 Try.underlying9 (Kd.own_of_R HO110.out)))
            repeat (go_quiet (first | (go_at_call 72; (with_reducible refine (glossatorref03_plain.calls k (bt a0 a1) t107 _ A30.out).mono ?_); rintro e w' ⟨rfl, ⟨nd, rfl⟩⟩; (try first | exact ⟨rfl, _, World.drewN_drewN _ _ _⟩ | exact ⟨rfl, _, Eq.trans (World.drewN_drewN _ _ _) (congrArg (World.drewN _) (Nat.add_assoc _ _ _))⟩)) | ((with_reducible refine gate_dst (N := 33) rfl ?_); refine Kd.R_lit (Kd.int .u8) _ 5 ?hg (N := 33) ?hd (xs := ([t107] : List Int)) (inner := [.int .u8 t107]) (ok := fun _ => True) (okp := fun _ => True) ?hr ?hp (fun _ hk => hk) trivial (Below.refl _ _) (Nat.le_refl _) (by simp) ?_; (case hd => rfl); (case hg => rfl); (case hr => first | (go_simp; done) | (go_simp; rfl)); (case hp => exact (Reps.one (show Kd.M (Kd.int .u8) _ _ _ t107 [.int .u8 t107] from rfl) (Reps.none _ _))); intro v109 w32 ho33 hb hg_ hnew_; clear hg_ hnew_; (first | rw [← Ny108.out] at ho33 | (simp only [Int.reduceToNat] at ho33; rw [← Ny108.out] at ho33)); have n0_ := Aside0.mk (Kd.R_lower ho33 (below_size (by repeat (first | (with_reducible first | exact HB.out | apply below_alloc | apply pw_below_drewN | apply below_drew1) | exact HB.out)))); have n1_ := Aside0.mk (below_step (by repeat (first | (with_reducible first | exact HB.out | apply below_alloc | apply pw_below_drewN | apply below_drew1) | exact HB.out)) hb); clear HB; have HO110 := n0_; have HB := n1_; clear n0_ n1_; clear hb ho33; have hcv34 := own_string (P := Try.prog) Try.underlying28 Try.underlying5 Try.underlying9 (Kd.own_of_R HO110.out))); try go_wp2_with (first | (go_at_call 72; (with_reducible refine (glossatorref03_plain.calls k (bt a0 a1) t107 _ A30.out).mono ?_); rintro e w' ⟨rfl, ⟨nd, rfl⟩⟩; (try first | exact ⟨rfl, _, World.drewN_drewN _ _ _⟩ | exact ⟨rfl, _, Eq.trans (World.drewN_drewN _ _ _) (congrArg (World.drewN _) (Nat.add_assoc _ _ _))⟩)) | ((with_reducible refine gate_dst (N := 33) rfl ?_); refine Kd.R_lit (Kd.int .u8) _ 5 ?hg (N := 33) ?hd (xs := ([t107] : List Int)) (inner := [.int .u8 t107]) (ok := fun _ => True) (okp := fun _ => True) ?hr ?hp (fun _ hk => hk) trivial (Below.refl _ _) (Nat.le_refl _) (by simp) ?_; (case hd => rfl); (case hg => rfl); (case hr => first | (go_simp; done) | (go_simp; rfl)); (case hp => exact (Reps.one (show Kd.M (Kd.int .u8) _ _ _ t107 [.int .u8 t107] from rfl) (Reps.none _ _))); intro v109 w32 ho33 hb hg_ hnew_; clear hg_ hnew_; (first | rw [← Ny108.out] at ho33 | (simp only [Int.reduceToNat] at ho33; rw [← Ny108.out] at ho33)); have n0_ := Aside0.mk (Kd.R_lower ho33 (below_size (by repeat (first | (with_reducible first | exact HB.out | apply below_alloc | apply pw_below_drewN | apply below_drew1) | exact HB.out)))); have n1_ := Aside0.mk (below_step (by repeat (first | (with_reducible first | exact HB.out | apply below_alloc | apply pw_below_drewN | apply below_drew1) | exact HB.out)) hb); clear HB; have HO110 := n0_; have HB := n1_; clear n0_ n1_; clear hb ho33; have hcv34 := own_string (P := Try.prog) Try.underlying28 Try.underlying5 Try.underlying9 (Kd.own_of_R HO110.out))))
            go_ret3
            exact ⟨by first | rfl | (simp [errW_none, errW_some] <;> rfl) | (simp [*, errW_none, errW_some] <;> rfl), by repeat (first | (with_reducible first | exact HB.out | apply below_alloc | apply pw_below_drewN | apply below_drew1) | exact HB.out)⟩
      · rw [if_neg c5] at H
        exact absurd H (by simp)
    · rw [if_neg c4] at H
      exact absurd H (by simp)

end Go.Proofs.Ytlbokaekhjjabaa.S

-- Written by a program of this session (joint.sh) out of the translation. Not trusted: Lean checks it.
namespace Go.Proofs.Ytlbokaekhjjabaa.S
open Go.RowKit Go.Proofs.YtlbokaekhjjabaaW.PrintWords Go.Proofs.YtlbokaekhjjabaaW.PrintLast Go.Proofs.YtlbokaekhjjabaaW.PrintMore
attribute [local go_sem] max2_int min2_int max_two min_two max_three min_three max_four min_four   -- for this text's walks alone
set_option linter.unusedVariables false
set_option linter.unusedSimpArgs false

/-! ### glossatorref03_Scan: function 38 -/
def glossatorref03_Scan.l0 : Nat → ByteArray → List Int → Int → Option (ByteArray × Int × Int)
  | 0, _, _, _ => none
  | k + 1, x0, x5, x6 => if x6 < (x0.size : Int) then (if 0 ≤ x6 then (if (bt x0 x6) = 34 then (some (strOfNums x5, wrap64 (x6 + 1), 0)) else (if (bt x0 x6) < 32 then (some ((⟨#[]⟩ : ByteArray), x6, 4)) else (if (bt x0 x6) = 92 then ((glossatorref03_escape.f k x0 (wrap64 (x6 + 1))).bind fun bt119 => (if bt119.2.2 = 0 then (if x5.length + bt119.1.size < 140737488355328 then (glossatorref03_Scan.l0 k x0 (x5 ++ Go.Proofs.YtlbokaekhjjabaaW.PrintWords.bytesOf bt119.1) bt119.2.1) else (none)) else (some ((⟨#[]⟩ : ByteArray), bt119.2.1, bt119.2.2)))) else (if x6 ≤ (x0.size : Int) then ((glossatorref02_Point.f (x0.extract (x6 : Int).toNat x0.size)).bind fun bt125 => (if bt125.2 = 0 then ((glossatorref02_Check.f (x0.extract (x6 : Int).toNat x0.size)).bind fun bt127 => (some ((⟨#[]⟩ : ByteArray), wrap64 (x6 + bt127.1), bt127.2))) else (if x6 ≤ (wrap64 (x6 + bt125.2)) then (if (wrap64 (x6 + bt125.2)) ≤ (x0.size : Int) then (if x5.length + (x0.extract (x6 : Int).toNat ((wrap64 (x6 + bt125.2)) : Int).toNat).size < 140737488355328 then (glossatorref03_Scan.l0 k x0 (x5 ++ Go.Proofs.YtlbokaekhjjabaaW.PrintWords.bytesOf (x0.extract (x6 : Int).toNat ((wrap64 (x6 + bt125.2)) : Int).toNat)) (wrap64 (x6 + bt125.2))) else (none)) else (none)) else (none)))) else (none))))) else (none)) else (some ((⟨#[]⟩ : ByteArray), (x0.size : Int), 3))
def glossatorref03_Scan.f (k : Nat) (a0 : ByteArray) : Option (ByteArray × Int × Int) := if a0.toList = ([] : List UInt8) then (some ((⟨#[]⟩ : ByteArray), 0, 3)) else (if 0 < (a0.size : Int) then (if (bt a0 0) = 34 then (glossatorref03_Scan.l0 k a0 ([] : List Int) 1) else (some ((⟨#[]⟩ : ByteArray), 0, 4))) else (none))
theorem glossatorref03_Scan.mono_l : ∀ k, (∀ y0 y1 y2, LeO (glossatorref03_Scan.l0 k y0 y1 y2) (glossatorref03_Scan.l0 (k + 1) y0 y1 y2))
  | 0 => fun _ _ _ r h => by simp [glossatorref03_Scan.l0] at h
  | k + 1 => by
    have ih0 := glossatorref03_Scan.mono_l k
    · intro y0 y1 y2
      unfold glossatorref03_Scan.l0
      repeat' first
      | (with_reducible exact ih0 _ _ _)
      | (with_reducible exact glossatorref03_escape.mono _ _ _)
      | (with_reducible exact LeO.refl _)
      | (with_reducible exact LeO.none _)
      | (with_reducible refine LeO.ite ?_ ?_)
      | (with_reducible refine LeO.bind ?_ (fun _ => ?_))
      | exact ih0 _ _ _
      | exact glossatorref03_escape.mono _ _ _
      | exact LeO.none _
      | refine LeO.ite ?_ ?_
      | refine LeO.bind ?_ (fun _ => ?_)
theorem glossatorref03_Scan.mono : ∀ a0 k, LeO (glossatorref03_Scan.f k a0) (glossatorref03_Scan.f (k + 1) a0) := by
  intro a0 k
  have ih0 := glossatorref03_Scan.mono_l k
  unfold glossatorref03_Scan.f
  repeat' first
      | (with_reducible exact ih0 _ _ _)
      | (with_reducible exact glossatorref03_escape.mono _ _ _)
      | (with_reducible exact LeO.refl _)
      | (with_reducible exact LeO.none _)
      | (with_reducible refine LeO.ite ?_ ?_)
      | (with_reducible refine LeO.bind ?_ (fun _ => ?_))
      | exact ih0 _ _ _
      | exact glossatorref03_escape.mono _ _ _
      | exact LeO.none _
      | refine LeO.ite ?_ ?_
      | refine LeO.bind ?_ (fun _ => ?_)
set_option maxHeartbeats 8000000 in
set_option maxRecDepth 100000 in
theorem glossatorref03_Scan.calls (k : Nat) (a0 : ByteArray) (r1 : ByteArray) (r2 : Int) (r3 : Int) (w : World) (h : glossatorref03_Scan.f k a0 = some (r1, r2, r3)) :
    Calls Try.prog 38 #[.string a0] w fun e w' => e = .returned (.tuple #[.string r1, .int .i64 r2, .int .i64 r3]) ∧ Below w.heap.size w w' := by
  have HB := Aside0.mk (Below.refl w.heap.size w)
  have H : (if a0.toList = ([] : List UInt8) then (some ((⟨#[]⟩ : ByteArray), 0, 3)) else (if 0 < (a0.size : Int) then (if (bt a0 0) = 34 then (glossatorref03_Scan.l0 k a0 ([] : List Int) 1) else (some ((⟨#[]⟩ : ByteArray), 0, 4))) else (none))) = some (r1, r2, r3) := h
  clear h
  by_cases c2 : a0.toList = ([] : List UInt8)
  · rw [if_pos c2] at H
    have c2b0 : (a0.toList == ([] : List UInt8)) = true := beq_iff_eq.mpr c2
    have c2b1 : (a0.toList != ([] : List UInt8)) = false := bne_eq_false_iff_eq.mpr c2
    clear c2
    simp only [Option.some.injEq, Prod.mk.injEq] at H
    obtain ⟨rfl, rfl, rfl⟩ := H
    go_enter Try.func38, Try.ntmps38
    go_wp2
    go_ret3
    exact ⟨by first | rfl | (simp [errW_none, errW_some] <;> rfl) | (simp [*, errW_none, errW_some] <;> rfl), by repeat (first | (with_reducible first | exact HB.out | apply below_alloc | apply pw_below_drewN | apply below_drew1) | exact HB.out)⟩
  · rw [if_neg c2] at H
    have c2b0 : (a0.toList == ([] : List UInt8)) = false := beq_eq_false_iff_ne.mpr c2
    have c2b1 : (a0.toList != ([] : List UInt8)) = true := bne_iff_ne.mpr c2
    by_cases c3 : 0 < (a0.size : Int)
    · rw [if_pos c3] at H
      have c3b0 : decide (0 < (a0.size : Int)) = true := decide_eq_true c3
      have c3b1 : decide (0 < a0.size) = true := decide_eq_true (by omega)
      clear c3
      by_cases c5 : (bt a0 0) = 34
      · rw [if_pos c5] at H
        have c5b0 : ((bt a0 0) == 34) = true := beq_iff_eq.mpr c5
        have c5b1 : ((bt a0 0) != 34) = false := bne_eq_false_iff_eq.mpr c5
        clear c5
        have H' := Aside0.mk H
        clear H
        have p4 : 0 ≤ (0 : Int) := (by omega)
        have q4 : 0 < a0.size := (by have : (0 : Int) < (a0.size : Int) := of_decide_eq_true (by first | (with_reducible assumption) | assumption); omega)
        have hx4 : ∀ h : 0 < a0.size, ((a0[0]'h).toNat : Int) = bt a0 0 := bt_at a0 0
        clear p4
        have qi4 : (0 < (a0.size : Int)) = True := eq_true (of_decide_eq_true (by first | (with_reducible assumption) | assumption))
        replace q4 := eq_true q4
        go_enter Try.func38, Try.ntmps38
        go_wp2
        go_loopg [5, 6] k (fun kq v5 v6 w' => ∃ (x5_1 : List Int) (x6_1 : Int), v6 = .int .i64 x6_1 ∧ Aside0 (glossatorref03_Scan.l0 kq a0 x5_1 x6_1 = some (r1, r2, r3)) ∧ Aside0 (kq ≤ k) ∧ Aside0 (Kd.R (Kd.int .u8) 5 w' w.heap.size (fun _ => True) v5 x5_1) ∧ Aside0 (Below w.heap.size w w'))
        case atStart => exact ⟨(([] : List Int)), (1), (by first | rfl | (simp; done) | (simp [*]; done)), H', ⟨Nat.le_refl _⟩, ⟨by first | exact Kd.R_nil _ _ _ _ _ | exact Kd.N_nil _ _ _ _ _ | exact Kd.V_nil _ _ _ _ _ | exact Kd.Q_nil _ _ _ _ _ | exact Kd.S_nil _ _ _ _ _⟩, ⟨by repeat (first | (with_reducible first | exact HB.out | apply below_alloc | apply pw_below_drewN | apply below_drew1) | exact HB.out)⟩⟩
        case round =>
          clear H'
          try clear c2
          try clear c2b0
          try clear c2b1
          try clear p2
          try clear c3
          try clear c3b0
          try clear c3b1
          try clear p4
          try clear q4
          try clear hx4
          try clear qi4
          try clear c5
          try clear c5b0
          try clear c5b1
          try clear p4
          try clear q4
          obtain ⟨x5_1, x6_1, rfl, HA, HK1, HO_5, HB⟩ := hrel
          cases gk with
          | zero => exact absurd HA.out (by simp [glossatorref03_Scan.l0])
          | succ k1 =>
            have H := HA.out
            clear HA
            simp only [glossatorref03_Scan.l0] at H
            by_cases c6 : x6_1 < (a0.size : Int)
            · rw [if_pos c6] at H
              have c6b0 : decide (x6_1 < (a0.size : Int)) = true := decide_eq_true c6
              clear c6
              by_cases c7 : 0 ≤ x6_1
              · rw [if_pos c7] at H
                have c7b0 : decide (0 ≤ x6_1) = true := decide_eq_true c7
                clear c7
                by_cases c9 : (bt a0 x6_1) = 34
                · rw [if_pos c9] at H
                  have c9b0 : ((bt a0 x6_1) == 34) = true := beq_iff_eq.mpr c9
                  have c9b1 : ((bt a0 x6_1) != 34) = false := bne_eq_false_iff_eq.mpr c9
                  clear c9
                  simp only [Option.some.injEq, Prod.mk.injEq] at H
                  obtain ⟨rfl, rfl, rfl⟩ := H
                  have p8 : 0 ≤ (x6_1 : Int) := of_decide_eq_true (by first | (with_reducible assumption) | assumption)
                  have q8 : x6_1 < (a0.size : Int) := of_decide_eq_true (by first | (with_reducible assumption) | assumption)
                  have hx8 := bt_at a0 x6_1
                  replace p8 := eq_true p8
                  replace q8 := eq_true q8
                  have hcv10 := own_string (P := Try.prog) Try.underlying28 Try.underlying5 Try.underlying9 (Kd.own_of_R HO_5.out)
                  go_wp2
                  go_ret3
                  exact ⟨by first | rfl | (simp [errW_none, errW_some] <;> rfl) | (simp [*, errW_none, errW_some] <;> rfl), by repeat (first | (with_reducible first | exact HB.out | apply below_alloc | apply pw_below_drewN | apply below_drew1) | exact HB.out)⟩
                · rw [if_neg c9] at H
                  have c9b0 : ((bt a0 x6_1) == 34) = false := beq_eq_false_iff_ne.mpr c9
                  have c9b1 : ((bt a0 x6_1) != 34) = true := bne_iff_ne.mpr c9
                  by_cases c11 : (bt a0 x6_1) < 32
                  · rw [if_pos c11] at H
                    have c11b0 : decide ((bt a0 x6_1) < 32) = true := decide_eq_true c11
                    clear c11
                    simp only [Option.some.injEq, Prod.mk.injEq] at H
                    obtain ⟨rfl, rfl, rfl⟩ := H
                    have p8 : 0 ≤ (x6_1 : Int) := of_decide_eq_true (by first | (with_reducible assumption) | assumption)
                    have q8 : x6_1 < (a0.size : Int) := of_decide_eq_true (by first | (with_reducible assumption) | assumption)
                    have hx8 := bt_at a0 x6_1
                    replace p8 := eq_true p8
                    replace q8 := eq_true q8
                    go_wp2
                    go_ret3
                    exact ⟨by first | rfl | (simp [errW_none, errW_some] <;> rfl) | (simp [*, errW_none, errW_some] <;> rfl), by repeat (first | (with_reducible first | exact HB.out | apply below_alloc | apply pw_below_drewN | apply below_drew1) | exact HB.out)⟩
                  · rw [if_neg c11] at H
                    have c11b0 : decide ((bt a0 x6_1) < 32) = false := decide_eq_false c11
                    clear c11
                    by_cases c12 : (bt a0 x6_1) = 92
                    · rw [if_pos c12] at H
                      have c12b0 : ((bt a0 x6_1) == 92) = true := beq_iff_eq.mpr c12
                      have c12b1 : ((bt a0 x6_1) != 92) = false := bne_eq_false_iff_eq.mpr c12
                      clear c12
                      replace H := Option.bind_eq_some_iff.mp H
                      obtain ⟨⟨t119, t120, t121⟩, A130, H⟩ := H
                      replace H : (if t121 = 0 then (if x5_1.length + t119.size < 140737488355328 then (glossatorref03_Scan.l0 k1 a0 (x5_1 ++ Go.Proofs.YtlbokaekhjjabaaW.PrintWords.bytesOf t119) t120) else (none)) else (some ((⟨#[]⟩ : ByteArray), t120, t121))) = some (r1, r2, r3) := H
                      have A13 := Aside0.mk A130
                      clear A130
                      by_cases c14 : t121 = 0
                      · rw [if_pos c14] at H
                        have c14b0 : (t121 == 0) = true := beq_iff_eq.mpr c14
                        have c14b1 : (t121 != 0) = false := bne_eq_false_iff_eq.mpr c14
                        clear c14
                        by_cases c15 : x5_1.length + t119.size < 140737488355328
                        · rw [if_pos c15] at H
                          have LMc15 := Aside0.mk c15
                          clear c15
                          obtain ⟨y122, hy122⟩ : ∃ y_ : List Int, y_ = (x5_1 ++ Go.Proofs.YtlbokaekhjjabaaW.PrintWords.bytesOf t119) := ⟨_, rfl⟩
                          replace H : (glossatorref03_Scan.l0 k1 a0 y122 t120) = some (r1, r2, r3) := by first | (rw [hy122]; with_reducible exact H) | (have H2_ := (Option.bind_some _ _).symm.trans H; rw [hy122]; with_reducible exact H2_) | (have H2_ := (Option.bind_some _ _).symm.trans H; with_reducible exact H2_) | with_reducible exact H | (rw [hy122]; exact H) | exact H
                          have Ny122 := Aside0.mk hy122
                          clear hy122
                          have H' := Aside0.mk H
                          clear H
                          have p8 : 0 ≤ (x6_1 : Int) := of_decide_eq_true (by first | (with_reducible assumption) | assumption)
                          have q8 : x6_1 < (a0.size : Int) := of_decide_eq_true (by first | (with_reducible assumption) | assumption)
                          have hx8 := bt_at a0 x6_1
                          replace p8 := eq_true p8
                          replace q8 := eq_true q8
                          go_wp2_with (first | ((with_reducible refine gate_callee (f := 58) rfl ?_); refine goesL_ (some 76) rfl rfl Try.func58 (by kernel_rfl) rfl #[.string a0, .int .i64 (wrap64 (x6_1 + 1))] rfl (by (try simp only [List.map_toArray, List.map_cons, List.map_nil]); first | done | rfl | (simp only [List.length_drop, List.length_take]; rfl)) ?_; (with_reducible refine (glossatorref03_escape.calls k1 a0 (wrap64 (x6_1 + 1)) t119 t120 t121 _ A13.out).mono ?_); rintro e w16 ⟨rfl, hb⟩; refine ⟨_, rfl, ?_⟩; have n0_ := Aside0.mk (Kd.R_below (by (with_reducible repeat (first | apply Kd.R_alloc | apply Kd.R_drewN | apply Kd.R_drew)); exact HO_5.out) hb); have n1_ := Aside0.mk (below_step (by repeat (first | (with_reducible first | exact HB.out | apply below_alloc | apply pw_below_drewN | apply below_drew1) | exact HB.out)) hb); clear HO_5; clear HB; have HO_5 := n0_; have HB := n1_; clear n0_ n1_; (try clear hb); (try clear hb2); (try clear hk); (try clear hi)) | (at_builtin; refine print_append_str (w0 := w) w.heap.size rfl (.tmp 84) _ 28 9 5 rfl Try.underlying28 Try.underlying9 info5 u5 x5_1 t119 rfl rfl ?aO ?aB ?aS ?aL ?_; (case aB => exact (by repeat (first | (with_reducible first | exact HB.out | apply below_alloc | apply pw_below_drewN | apply below_drew1) | exact HB.out))); (case aO => exact (Kd.own_of_R (by (with_reducible repeat (first | apply Kd.R_alloc | apply Kd.R_drewN | apply Kd.R_drew)); exact HO_5.out))); (case aS => exact (below_size (by repeat (first | (with_reducible first | exact HB.out | apply below_alloc | apply pw_below_drewN | apply below_drew1) | exact HB.out)))); (case aL => have := LMc15.out; omega); intro v123 w17 ho0 hb hg; have ho := Kd.R_of_own (h1 := fun _ => rfl) (ok := fun _ => True) ho0 (fun _ _ => trivial); clear ho0; have hat := True.intro; rw [← Ny122.out] at ho; change Kd.R (Kd.int .u8) 5 w17 w.heap.size (fun _ => True) v123 y122 at ho; have n0_ := Aside0.mk (hb); have n1_ := Aside0.mk (ho); clear HB; clear HO_5; have HB := n0_; have HO124 := n1_; clear n0_ n1_; clear ho hb hg hat))
                          go_roundg k1
                          case measure => have := HK1.out; omega
                          case rel => exact ⟨(y122), (t120), (by first | rfl | (simp; done) | (simp [*]; done)), H', ⟨by have := HK1.out; omega⟩, ⟨by (with_reducible repeat (first | apply Kd.R_alloc | apply Kd.R_drewN | apply Kd.R_drew)); exact HO124.out⟩, ⟨by repeat (first | (with_reducible first | exact HB.out | apply below_alloc | apply pw_below_drewN | apply below_drew1) | exact HB.out)⟩⟩
                        · rw [if_neg c15] at H
                          exact absurd H (by simp)
                      · rw [if_neg c14] at H
                        have c14b0 : (t121 == 0) = false := beq_eq_false_iff_ne.mpr c14
                        have c14b1 : (t121 != 0) = true := bne_iff_ne.mpr c14
                        simp only [Option.some.injEq, Prod.mk.injEq] at H
                        obtain ⟨rfl, rfl, rfl⟩ := H
                        have p8 : 0 ≤ (x6_1 : Int) := of_decide_eq_true (by first | (with_reducible assumption) | assumption)
                        have q8 : x6_1 < (a0.size : Int) := of_decide_eq_true (by first | (with_reducible assumption) | assumption)
                        have hx8 := bt_at a0 x6_1
                        replace p8 := eq_true p8
                        replace q8 := eq_true q8
                        go_wp2_with (first | ((with_reducible refine gate_callee (f := 58) rfl ?_); refine goesL_ (some 76) rfl rfl Try.func58 (by kernel_rfl) rfl #[.string a0, .int .i64 (wrap64 (x6_1 + 1))] rfl (by (try simp only [List.map_toArray, List.map_cons, List.map_nil]); first | done | rfl | (simp only [List.length_drop, List.length_take]; rfl)) ?_; (with_reducible refine (glossatorref03_escape.calls k1 a0 (wrap64 (x6_1 + 1)) t119 t120 t121 _ A13.out).mono ?_); rintro e w18 ⟨rfl, hb⟩; refine ⟨_, rfl, ?_⟩; have n0_ := Aside0.mk (Kd.R_below (by (with_reducible repeat (first | apply Kd.R_alloc | apply Kd.R_drewN | apply Kd.R_drew)); exact HO_5.out) hb); have n1_ := Aside0.mk (below_step (by repeat (first | (with_reducible first | exact HB.out | apply below_alloc | apply pw_below_drewN | apply below_drew1) | exact HB.out)) hb); clear HO_5; clear HB; have HO_5 := n0_; have HB := n1_; clear n0_ n1_; (try clear hb); (try clear hb2); (try clear hk); (try clear hi)))
                        go_ret3
                        exact ⟨by first | rfl | (simp [errW_none, errW_some] <;> rfl) | (simp [*, errW_none, errW_some] <;> rfl), by repeat (first | (with_reducible first | exact HB.out | apply below_alloc | apply pw_below_drewN | apply below_drew1) | exact HB.out)⟩
                    · rw [if_neg c12] at H
                      have c12b0 : ((bt a0 x6_1) == 92) = false := beq_eq_false_iff_ne.mpr c12
                      have c12b1 : ((bt a0 x6_1) != 92) = true := bne_iff_ne.mpr c12
                      have c19b0 := eq_true (of_decide_eq_true (by first | (with_reducible assumption) | assumption) : 0 ≤ x6_1)
                      by_cases c20 : x6_1 ≤ (a0.size : Int)
                      · rw [if_pos c20] at H
                        have c20b0 := eq_true c20
                        have c20b1 : decide (x6_1 ≤ (a0.size : Int)) = true := decide_eq_true c20
                        clear c20
                        replace H := Option.bind_eq_some_iff.mp H
                        obtain ⟨⟨t125, t126⟩, A210, H⟩ := H
                        replace H : (if t126 = 0 then ((glossatorref02_Check.f (a0.extract (x6_1 : Int).toNat a0.size)).bind fun bt127 => (some ((⟨#[]⟩ : ByteArray), wrap64 (x6_1 + bt127.1), bt127.2))) else (if x6_1 ≤ (wrap64 (x6_1 + t126)) then (if (wrap64 (x6_1 + t126)) ≤ (a0.size : Int) then (if x5_1.length + (a0.extract (x6_1 : Int).toNat ((wrap64 (x6_1 + t126)) : Int).toNat).size < 140737488355328 then (glossatorref03_Scan.l0 k1 a0 (x5_1 ++ Go.Proofs.YtlbokaekhjjabaaW.PrintWords.bytesOf (a0.extract (x6_1 : Int).toNat ((wrap64 (x6_1 + t126)) : Int).toNat)) (wrap64 (x6_1 + t126))) else (none)) else (none)) else (none))) = some (r1, r2, r3) := H
                        have A21 := Aside0.mk A210
                        clear A210
                        by_cases c22 : t126 = 0
                        · rw [if_pos c22] at H
                          have c22b0 : (t126 == 0) = true := beq_iff_eq.mpr c22
                          have c22b1 : (t126 != 0) = false := bne_eq_false_iff_eq.mpr c22
                          clear c22
                          have c23b0 := eq_true (of_decide_eq_true (by first | (with_reducible assumption) | assumption) : 0 ≤ x6_1)
                          have c24b0 := eq_true (of_decide_eq_true (by first | (with_reducible assumption) | assumption) : x6_1 ≤ (a0.size : Int))
                          replace H := Option.bind_eq_some_iff.mp H
                          obtain ⟨⟨t127, t128⟩, A250, H⟩ := H
                          replace H : (some ((⟨#[]⟩ : ByteArray), wrap64 (x6_1 + t127), t128)) = some (r1, r2, r3) := H
                          have A25 := Aside0.mk A250
                          clear A250
                          simp only [Option.some.injEq, Prod.mk.injEq] at H
                          obtain ⟨rfl, rfl, rfl⟩ := H
                          have p8 : 0 ≤ (x6_1 : Int) := of_decide_eq_true (by first | (with_reducible assumption) | assumption)
                          have q8 : x6_1 < (a0.size : Int) := of_decide_eq_true (by first | (with_reducible assumption) | assumption)
                          have hx8 := bt_at a0 x6_1
                          replace p8 := eq_true p8
                          replace q8 := eq_true q8
                          go_wp2_with (first | ((with_reducible refine gate_callee (f := 27) rfl ?_); refine goesL_ (some 31) rfl rfl Try.func27 (by kernel_rfl) rfl #[.string (a0.extract (x6_1 : Int).toNat a0.size)] rfl (by (try simp only [List.map_toArray, List.map_cons, List.map_nil]); first | done | rfl | (simp only [List.length_drop, List.length_take]; rfl)) ?_; (with_reducible refine (glossatorref02_Point.calls (a0.extract (x6_1 : Int).toNat a0.size) t125 t126 _ A21.out).mono ?_); rintro e w' ⟨rfl, ⟨nd, rfl⟩⟩; refine ⟨_, rfl, ?_⟩) | ((with_reducible refine gate_callee (f := 33) rfl ?_); refine goesL_ (some 40) rfl rfl Try.func33 (by kernel_rfl) rfl #[.string (a0.extract (x6_1 : Int).toNat a0.size)] rfl (by (try simp only [List.map_toArray, List.map_cons, List.map_nil]); first | done | rfl | (simp only [List.length_drop, List.length_take]; rfl)) ?_; (with_reducible refine (glossatorref02_Check.calls (a0.extract (x6_1 : Int).toNat a0.size) t127 t128 _ A25.out).mono ?_); rintro e w' ⟨rfl, ⟨nd, rfl⟩⟩; refine ⟨_, rfl, ?_⟩))
                          go_ret3
                          exact ⟨by first | rfl | (simp [errW_none, errW_some] <;> rfl) | (simp [*, errW_none, errW_some] <;> rfl), by repeat (first | (with_reducible first | exact HB.out | apply below_alloc | apply pw_below_drewN | apply below_drew1) | exact HB.out)⟩
                        · rw [if_neg c22] at H
                          have c22b0 : (t126 == 0) = false := beq_eq_false_iff_ne.mpr c22
                          have c22b1 : (t126 != 0) = true := bne_iff_ne.mpr c22
                          have c26b0 := eq_true (of_decide_eq_true (by first | (with_reducible assumption) | assumption) : 0 ≤ x6_1)
                          by_cases c27 : x6_1 ≤ (wrap64 (x6_1 + t126))
                          · rw [if_pos c27] at H
                            have c27b0 := eq_true c27
                            have c27b1 : decide (x6_1 ≤ (wrap64 (x6_1 + t126))) = true := decide_eq_true c27
                            by_cases c28 : (wrap64 (x6_1 + t126)) ≤ (a0.size : Int)
                            · rw [if_pos c28] at H
                              have c28b0 := eq_true c28
                              have c28b1 : decide ((wrap64 (x6_1 + t126)) ≤ (a0.size : Int)) = true := decide_eq_true c28
                              by_cases c29 : x5_1.length + (a0.extract (x6_1 : Int).toNat ((wrap64 (x6_1 + t126)) : Int).toNat).size < 140737488355328
                              · rw [if_pos c29] at H
                                have LMc29 := Aside0.mk c29
                                clear c29
                                obtain ⟨y129, hy129⟩ : ∃ y_ : List Int, y_ = (x5_1 ++ Go.Proofs.YtlbokaekhjjabaaW.PrintWords.bytesOf (a0.extract (x6_1 : Int).toNat ((wrap64 (x6_1 + t126)) : Int).toNat)) := ⟨_, rfl⟩
                                replace H : (glossatorref03_Scan.l0 k1 a0 y129 (wrap64 (x6_1 + t126))) = some (r1, r2, r3) := by first | (rw [hy129]; with_reducible exact H) | (have H2_ := (Option.bind_some _ _).symm.trans H; rw [hy129]; with_reducible exact H2_) | (have H2_ := (Option.bind_some _ _).symm.trans H; with_reducible exact H2_) | with_reducible exact H | (rw [hy129]; exact H) | exact H
                                have Ny129 := Aside0.mk hy129
                                clear hy129
                                have H' := Aside0.mk H
                                clear H
                                have p8 : 0 ≤ (x6_1 : Int) := of_decide_eq_true (by first | (with_reducible assumption) | assumption)
                                have q8 : x6_1 < (a0.size : Int) := of_decide_eq_true (by first | (with_reducible assumption) | assumption)
                                have hx8 := bt_at a0 x6_1
                                replace p8 := eq_true p8
                                replace q8 := eq_true q8
                                go_wp2_with (first | ((with_reducible refine gate_callee (f := 27) rfl ?_); refine goesL_ (some 31) rfl rfl Try.func27 (by kernel_rfl) rfl #[.string (a0.extract (x6_1 : Int).toNat a0.size)] rfl (by (try simp only [List.map_toArray, List.map_cons, List.map_nil]); first | done | rfl | (simp only [List.length_drop, List.length_take]; rfl)) ?_; (with_reducible refine (glossatorref02_Point.calls (a0.extract (x6_1 : Int).toNat a0.size) t125 t126 _ A21.out).mono ?_); rintro e w' ⟨rfl, ⟨nd, rfl⟩⟩; refine ⟨_, rfl, ?_⟩) | (at_builtin; refine print_append_str (w0 := w) w.heap.size rfl (.tmp 47) _ 28 9 5 rfl Try.underlying28 Try.underlying9 info5 u5 x5_1 (a0.extract (x6_1 : Int).toNat ((wrap64 (x6_1 + t126)) : Int).toNat) rfl rfl ?aO ?aB ?aS ?aL ?_; (case aB => exact (by repeat (first | (with_reducible first | exact HB.out | apply below_alloc | apply pw_below_drewN | apply below_drew1) | exact HB.out))); (case aO => exact (Kd.own_of_R (by (with_reducible repeat (first | apply Kd.R_alloc | apply Kd.R_drewN | apply Kd.R_drew)); exact HO_5.out))); (case aS => exact (below_size (by repeat (first | (with_reducible first | exact HB.out | apply below_alloc | apply pw_below_drewN | apply below_drew1) | exact HB.out)))); (case aL => have := LMc29.out; omega); intro v130 w30 ho0 hb hg; have ho := Kd.R_of_own (h1 := fun _ => rfl) (ok := fun _ => True) ho0 (fun _ _ => trivial); clear ho0; have hat := True.intro; rw [← Ny129.out] at ho; change Kd.R (Kd.int .u8) 5 w30 w.heap.size (fun _ => True) v130 y129 at ho; have n0_ := Aside0.mk (hb); have n1_ := Aside0.mk (ho); clear HB; clear HO_5; have HB := n0_; have HO131 := n1_; clear n0_ n1_; clear ho hb hg hat))
                                go_roundg k1
                                case measure => have := HK1.out; omega
                                case rel => exact ⟨(y129), (wrap64 (x6_1 + t126)), (by first | rfl | (simp; done) | (simp [*]; done)), H', ⟨by have := HK1.out; omega⟩, ⟨by (with_reducible repeat (first | apply Kd.R_alloc | apply Kd.R_drewN | apply Kd.R_drew)); exact HO131.out⟩, ⟨by repeat (first | (with_reducible first | exact HB.out | apply below_alloc | apply pw_below_drewN | apply below_drew1) | exact HB.out)⟩⟩
                              · rw [if_neg c29] at H
                                exact absurd H (by simp)
                            · rw [if_neg c28] at H
                              exact absurd H (by simp)
                          · rw [if_neg c27] at H
                            exact absurd H (by simp)
                      · rw [if_neg c20] at H
                        exact absurd H (by simp)
              · rw [if_neg c7] at H
                exact absurd H (by simp)
            · rw [if_neg c6] at H
              have c6b0 : decide (x6_1 < (a0.size : Int)) = false := decide_eq_false c6
              clear c6
              simp only [Option.some.injEq, Prod.mk.injEq] at H
              obtain ⟨rfl, rfl, rfl⟩ := H
              go_wp2
              go_ret3
              exact ⟨by first | rfl | (simp [errW_none, errW_some] <;> rfl) | (simp [*, errW_none, errW_some] <;> rfl), by repeat (first | (with_reducible first | exact HB.out | apply below_alloc | apply pw_below_drewN | apply below_drew1) | exact HB.out)⟩
      · rw [if_neg c5] at H
        have c5b0 : ((bt a0 0) == 34) = false := beq_eq_false_iff_ne.mpr c5
        have c5b1 : ((bt a0 0) != 34) = true := bne_iff_ne.mpr c5
        simp only [Option.some.injEq, Prod.mk.injEq] at H
        obtain ⟨rfl, rfl, rfl⟩ := H
        have p4 : 0 ≤ (0 : Int) := (by omega)
        have q4 : 0 < a0.size := (by have : (0 : Int) < (a0.size : Int) := of_decide_eq_true (by first | (with_reducible assumption) | assumption); omega)
        have hx4 : ∀ h : 0 < a0.size, ((a0[0]'h).toNat : Int) = bt a0 0 := bt_at a0 0
        clear p4
        have qi4 : (0 < (a0.size : Int)) = True := eq_true (of_decide_eq_true (by first | (with_reducible assumption) | assumption))
        replace q4 := eq_true q4
        go_enter Try.func38, Try.ntmps38
        go_wp2
        go_ret3
        exact ⟨by first | rfl | (simp [errW_none, errW_some] <;> rfl) | (simp [*, errW_none, errW_some] <;> rfl), by repeat (first | (with_reducible first | exact HB.out | apply below_alloc | apply pw_below_drewN | apply below_drew1) | exact HB.out)⟩
    · rw [if_neg c3] at H
      exact absurd H (by simp)

end Go.Proofs.Ytlbokaekhjjabaa.S

/-
  The reference's Scan tells what scanF tells. Without Go.
-/
namespace Go.Proofs.Ytlbokaekhjjabaa.Pure
open Go.RowKit Go.Proofs.Ytlbokaekhjjabaa Go.Proofs.Ytlbokaekhjjabaa.S Go.Proofs.YtlbokaekhjjabaaW.PrintWords Go.Proofs.YtlbokaekhjjabaaW.PrintLast
set_option linter.unusedVariables false

def plainV (c : Int) : Int := if c = 34 ∨ c = 92 ∨ c = 47 then c else if c = 98 then 8 else if c = 102 then 12 else if c = 110 then 10 else if c = 114 then 13 else if c = 116 then 9 else 0
theorem plain_f (c : Int) (k : Nat) : glossatorref03_plain.f (k + 1) c = some (plainV c) := by
  unfold glossatorref03_plain.f plainV
  simp only [glossatorref03_plain.j0]
  by_cases h1 : c = 34
  · subst h1; rfl
  by_cases h2 : c = 92
  · subst h2; rfl
  rw [if_neg h1, if_neg h2]
  by_cases h3 : c = 47
  · subst h3; rfl
  rw [if_neg (by simpa using h3), if_neg (show ¬ (c = 34 ∨ c = 92 ∨ c = 47) from fun h => by rcases h with h | h | h; exact h1 h; exact h2 h; exact h3 h)]
  by_cases a1 : c = 98
  · rw [if_pos a1, if_pos a1]
  rw [if_neg a1, if_neg a1]
  by_cases a2 : c = 102
  · rw [if_pos a2, if_pos a2]
  rw [if_neg a2, if_neg a2]
  by_cases a3 : c = 110
  · rw [if_pos a3, if_pos a3]
  rw [if_neg a3, if_neg a3]
  by_cases a4 : c = 114
  · rw [if_pos a4, if_pos a4]
  rw [if_neg a4, if_neg a4]
  by_cases a5 : c = 116
  · rw [if_pos a5, if_pos a5]
  rw [if_neg a5, if_neg a5]
theorem digit_f (c : Int) (h0 : 0 ≤ c) (h1 : c ≤ 255) (k : Nat) : glossatorref03_digit.f (k + 2) c = some (dig c) := by
  unfold glossatorref03_digit.f dig
  simp only [glossatorref03_digit.j0, glossatorref03_digit.j1]
  by_cases a1 : c ≥ 48
  · rw [if_pos a1]
    by_cases a2 : c ≤ 57
    · rw [if_pos (decide_eq_true a2), if_pos ⟨a1, a2⟩]; congr 1; omega
    · rw [if_neg (by simpa using a2), if_neg (show ¬ (48 ≤ c ∧ c ≤ 57) by omega)]
      by_cases a3 : c ≥ 97
      · rw [if_pos a3, if_neg (show ¬ (65 ≤ c ∧ c ≤ 70) by omega)]
        by_cases a4 : c ≤ 102
        · rw [if_pos (decide_eq_true a4), if_pos ⟨a3, a4⟩]; congr 1; omega
        · rw [if_neg (by simpa using a4), if_pos (show c ≥ 65 by omega), if_neg (show ¬ c ≤ 70 by omega), if_neg (show ¬ (97 ≤ c ∧ c ≤ 102) by omega)]
      · rw [if_neg a3, if_neg (by decide), if_neg (show ¬ (97 ≤ c ∧ c ≤ 102) by omega)]
        by_cases a4 : c ≥ 65
        · rw [if_pos a4]
          by_cases a5 : c ≤ 70
          · rw [if_pos a5, if_pos ⟨a4, a5⟩]; congr 1; omega
          · rw [if_neg a5, if_neg (by omega)]
        · rw [if_neg a4, if_neg (by omega)]
  · rw [if_neg a1, if_neg (by decide), if_neg (show ¬ c ≥ 97 by omega), if_neg (by decide), if_neg (show ¬ c ≥ 65 by omega), if_neg (show ¬ (48 ≤ c ∧ c ≤ 57) by omega), if_neg (show ¬ (65 ≤ c ∧ c ≤ 70) by omega), if_neg (show ¬ (97 ≤ c ∧ c ≤ 102) by omega)]

/-- What 'four' tells where 'unit' tells this. -/
def fourV (r : Int × Nat × Int) : Int × Int × Int := (if r.2.2 = 0 then r.1 else 0, (r.2.1 : Int), r.2.2)
theorem four_l (s : ByteArray) (hs : s.size ≤ 140737488351232) (low : Bool) (n : Nat) : ∀ (i : Nat) (u : Int) (p k : Nat), i + n = 4 → 0 ≤ u → u < 16 ^ i → (low = true → i = 1 → u = 13) → p + i ≤ s.size →
    glossatorref03_four.l0 (k + n + 3) s p low u i = some (fourV (unitL s low n i u (p + i) 0)) := by
  induction n with
  | zero =>
    intro i u p k hi h0 h1 hl hp
    rw [glossatorref03_four.l0]
    rw [if_neg (by omega)]
    show _ = some (fourV (u, p + i, 0))
    have ew : wrap64 ((p : Int) + 4) = ((p + i : Nat) : Int) := by unfold wrap64; omega
    rw [ew]
    rfl
  | succ n ih =>
    intro i u p k hi h0 h1 hl hp
    have hu : u < 4096 := by
      have : i = 0 ∨ i = 1 ∨ i = 2 ∨ i = 3 := by omega
      rcases this with rfl | rfl | rfl | rfl <;> simp at h1 <;> omega
    have ew : wrap64 ((p : Int) + (i : Int)) = ((p + i : Nat) : Int) := by unfold wrap64; omega
    have ei : wrap64 ((i : Int) + 1) = ((i + 1 : Nat) : Int) := by unfold wrap64; omega
    rw [show k + (n + 1) + 3 = (k + n + 3) + 1 by omega]
    rw [glossatorref03_four.l0]
    rw [if_pos (by omega), ew, ei]
    by_cases hz : p + i < s.size
    · have hb := bt_byte s (p + i) hz
      have hb1 := byteAt_le s (p + i)
      rw [if_neg (by omega), if_pos (by omega), if_pos (by omega), hb]
      have hdg := digit_f _ hb1.1 hb1.2 (k + n + 1)
      rw [show (k + n + 1) + 2 = k + n + 3 by omega] at hdg
      rw [hdg, Option.bind_some]
      obtain ⟨c, hc⟩ : ∃ c, byteAt s (p + i) = c := ⟨_, rfl⟩
      rw [hc] at hb1 ⊢
      have hd := dig_le c
      obtain ⟨d, hdd⟩ : ∃ d, dig c = d := ⟨_, rfl⟩
      have hit : unitIs low i u c = true → unitL s low (n + 1) i u (p + i) 0 = unitL s low n ((i + 1 : Nat) : Int) (u * 16 + d) (p + (i + 1)) 0 := by
        intro h
        have hd0 : ¬ d < 0 := by
          intro h2
          unfold unitIs at h
          rw [hdd, if_pos h2] at h
          cases h
        simp only [unitL]
        rw [nx_hit hz hc h]
        dsimp only
        rw [hdd, show max d 0 = d by omega]
        rfl
      have miss : unitIs low i u c = false → fourV (unitL s low (n + 1) i u (p + i) 0) = (0, ((p + i : Nat) : Int), 4) := by
        intro h
        simp only [unitL]
        have e : nx s (unitIs low i u) (p + i) 0 = (0, p + i, 4) := by
          unfold nx
          rw [if_neg (by decide), if_pos hz, hc, h]
          rfl
        rw [e]
        dsimp only
        have := unitL_pass s low n (i + 1) (u * 16 + max (dig 0) 0) (p + i) (e := 4) (by decide)
        unfold fourV
        rw [this]
        rfl
      rw [hdd] at hd
      have go : unitIs low i u c = true → 0 ≤ d → (low = true → i = 0 → d = 13) →
          glossatorref03_four.l0 (k + n + 3) s p low (wrap64 ((wrap64 (16 * u)) + d)) ((i + 1 : Nat) : Int) = some (fourV (unitL s low (n + 1) i u (p + i) 0)) := by
        intro h hd0 hl2
        rw [hit h]
        have e : wrap64 ((wrap64 (16 * u)) + d) = u * 16 + d := by unfold wrap64; omega
        rw [e]
        refine ih (i + 1) (u * 16 + d) p k (by omega) (by omega) ?_ (fun a b => ?_) (by omega)
        · have : i = 0 ∨ i = 1 ∨ i = 2 ∨ i = 3 := by omega
          rcases this with rfl | rfl | rfl | rfl <;> simp at h1 ⊢ <;> omega
        · have : i = 0 := by omega
          subst this
          have := hl2 a rfl
          simp at h1
          omega
      have eu : unitIs low i u c = if d < 0 then false else if low = true ∧ (i : Int) = 0 then d == 13 else if (i : Int) = 1 ∧ u = 13 then low == decide (12 ≤ d) else true := by unfold unitIs; rw [hdd]
      rw [hdd]
      by_cases hlow : low = true
      · rw [if_pos hlow]
        by_cases d0 : d < 0
        · rw [if_pos d0, miss (by rw [eu, if_pos d0])]
        rw [if_neg d0]
        rw [if_neg d0] at eu
        by_cases i0 : (i : Int) = 0
        · rw [if_pos i0, if_neg (show ¬ (i : Int) = 1 by omega)]
          rw [if_pos ⟨hlow, i0⟩] at eu
          by_cases d13 : d = 13
          · rw [if_pos d13]; exact go (by rw [eu]; simpa using d13) (by omega) (fun _ _ => d13)
          · rw [if_neg d13, miss (by rw [eu]; simpa using d13)]
        · rw [if_neg i0]
          rw [if_neg (fun h => i0 h.2)] at eu
          by_cases i1 : (i : Int) = 1
          · rw [if_pos i1]
            have hu13 := hl hlow (by omega)
            rw [if_pos ⟨i1, hu13⟩] at eu
            by_cases d12 : d < 12
            · rw [if_pos d12, miss (by rw [eu, hlow, decide_eq_false (by omega)]; rfl)]
            · rw [if_neg d12]; exact go (by rw [eu, hlow, decide_eq_true (by omega)]; rfl) (by omega) (fun _ h => by omega)
          · rw [if_neg i1]
            rw [if_neg (fun h => i1 h.1)] at eu
            exact go eu (by omega) (fun _ h => by omega)
      · rw [if_neg hlow]
        replace hlow : low = false := by simpa using hlow
        by_cases d0 : d < 0
        · rw [if_pos d0, miss (by rw [eu, if_pos d0])]
        rw [if_neg d0]
        rw [if_neg d0, if_neg (by rw [hlow]; simp), hlow] at eu
        have hgo := fun h => go h (by omega) (fun h => by rw [hlow] at h; cases h)
        by_cases i1 : (i : Int) = 1
        · rw [if_pos i1]
          by_cases u13 : u = 13
          · rw [if_pos u13]
            rw [if_pos ⟨i1, u13⟩] at eu
            by_cases d12 : d ≥ 12
            · rw [if_pos d12, miss (by rw [hlow, eu, decide_eq_true (by omega)]; rfl)]
            · rw [if_neg d12]; exact hgo (by rw [hlow, eu, decide_eq_false (by omega)]; rfl)
          · rw [if_neg u13]
            rw [if_neg (fun h => u13 h.2)] at eu
            exact hgo (by rw [hlow, eu])
        · rw [if_neg i1]
          rw [if_neg (fun h => i1 h.1)] at eu
          exact hgo (by rw [hlow, eu])
    · have e : nx s (unitIs low i u) (p + i) 0 = (0, p + i, 3) := by unfold nx; rw [if_neg (by decide), if_neg hz]
      rw [if_pos (by omega)]
      simp only [unitL]
      rw [e]
      dsimp only
      have := unitL_pass s low n (i + 1) (u * 16 + max (dig 0) 0) (p + i) (e := 3) (by decide)
      unfold fourV
      rw [this]
      dsimp only
      rw [if_neg (by decide), show p + i = s.size by omega]
theorem four_f (s : ByteArray) (hs : s.size ≤ 140737488351232) (low : Bool) (p k : Nat) (hp : p ≤ s.size) : glossatorref03_four.f (k + 7) s p low = some (fourV (unitF s low p 0)) :=
  four_l s hs low 4 0 0 p k rfl (by decide) (by decide) (fun _ h => by cases h) hp

theorem escs : ∀ n : Nat, n < 256 → (escIs (n : Int) == ((n == 117) || plainV n != 0) && (plainV n == 0 || (plainV n == unl letterPairs n))) = true := by decide +kernel
theorem escs_v {c : Int} (h0 : 0 ≤ c) (h1 : c ≤ 255) (hc : c ≠ 117) : (plainV c = 0 → escIs c = false) ∧ (plainV c ≠ 0 → escIs c = true ∧ unl letterPairs c = plainV c) := by
  have h := escs c.toNat (by omega)
  rw [show ((c.toNat : Nat) : Int) = c by omega] at h
  have h2 : (c.toNat == 117) = false := by simp; omega
  rw [h2] at h
  simp only [Bool.and_eq_true, Bool.or_eq_true, beq_iff_eq, Bool.false_or] at h
  refine ⟨fun h3 => ?_, fun h3 => ⟨?_, ?_⟩⟩
  · rw [h.1, h3]; rfl
  · rw [h.1]; simpa using h3
  · rcases h.2 with h4 | h4
    · exact absurd h4 h3
    · exact h4.symm
/-- What the reference tells where the code's readers tell this. -/
def strV (r : List Int × Nat × Int) : ByteArray × Int × Int := (if r.2.2 = 0 then strOfNums r.1 else ⟨#[]⟩, (r.2.1 : Int), r.2.2)

theorem fourV_0 (u : Int) (q : Nat) : fourV (u, q, 0) = (u, (q : Int), 0) := rfl
theorem fourV_e (u : Int) (q : Nat) {e : Int} (h : e ≠ 0) : fourV (u, q, e) = (0, (q : Int), e) := by unfold fourV; rw [if_neg h]
theorem strV_0 (xs : List Int) (q : Nat) : strV (xs, q, 0) = (strOfNums xs, (q : Int), 0) := rfl
theorem strV_err (r : List Int × Nat × Int) (h : r.2.2 ≠ 0) : strV r = (⟨#[]⟩, (r.2.1 : Int), r.2.2) := by unfold strV; rw [if_neg h]
theorem wrap_nat (a b : Nat) (h : a + b ≤ 9223372036854775807) : wrap64 ((a : Int) + (b : Int)) = ((a + b : Nat) : Int) := by unfold wrap64; omega
theorem wrap_1 (a : Nat) (h : a + 1 ≤ 9223372036854775807) : wrap64 ((a : Int) + 1) = ((a + 1 : Nat) : Int) := wrap_nat a 1 h
theorem wrap_2 (a : Nat) (h : a + 2 ≤ 9223372036854775807) : wrap64 ((a : Int) + 2) = ((a + 2 : Nat) : Int) := wrap_nat a 2 h
theorem unit_low {s : ByteArray} {p : Nat} (h : (unitF s true p 0).2.2 = 0) : 56320 ≤ (unitF s true p 0).1 ∧ (unitF s true p 0).1 ≤ 57343 := by
  unfold unitF at h ⊢
  have u0 : unitL s true 4 0 0 p 0 = unitL s true 3 (0 + 1) (0 * 16 + max (dig (nx s (unitIs true 0 0) p 0).1) 0) (nx s (unitIs true 0 0) p 0).2.1 (nx s (unitIs true 0 0) p 0).2.2 := rfl
  rw [u0] at h ⊢
  have n0 := nx_ok ((unitL_ok s true 3 _ _ _ _).2 h).1
  rw [n0.2.2.2] at h ⊢
  dsimp only at h ⊢
  obtain ⟨c0, hc0⟩ : ∃ c, byteAt s p = c := ⟨_, rfl⟩
  rw [hc0] at n0 h ⊢
  have i0 := n0.2.2.1
  clear u0 n0
  have d0 : dig c0 = 13 := by
    unfold unitIs at i0
    split at i0
    · cases i0
    · rw [if_pos ⟨rfl, rfl⟩] at i0; simpa using i0
  rw [d0] at h ⊢
  have e0 : (0 : Int) * 16 + max 13 0 = 13 := by decide
  rw [e0] at h ⊢
  have u1 : unitL s true 3 (0 + 1) 13 (p + 1) 0 = unitL s true 2 (0 + 1 + 1) (13 * 16 + max (dig (nx s (unitIs true (0 + 1) 13) (p + 1) 0).1) 0) (nx s (unitIs true (0 + 1) 13) (p + 1) 0).2.1 (nx s (unitIs true (0 + 1) 13) (p + 1) 0).2.2 := rfl
  rw [u1] at h ⊢
  have n1 := nx_ok ((unitL_ok s true 2 _ _ _ _).2 h).1
  rw [n1.2.2.2] at h ⊢
  dsimp only at h ⊢
  obtain ⟨c1, hc1⟩ : ∃ c, byteAt s (p + 1) = c := ⟨_, rfl⟩
  rw [hc1] at n1 h ⊢
  have i1 := n1.2.2.1
  clear u1 n1
  have d1 : 12 ≤ dig c1 := by
    unfold unitIs at i1
    split at i1
    · cases i1
    · rw [if_neg (by decide), if_pos (by decide)] at i1; simpa using i1
  have d1' := dig_le c1
  obtain ⟨x, hx⟩ : ∃ x, dig c1 = x := ⟨_, rfl⟩
  rw [hx] at d1 d1' h ⊢
  obtain ⟨u, hu⟩ : ∃ u, 13 * 16 + max x 0 = u := ⟨_, rfl⟩
  rw [hu] at h ⊢
  have u2 : unitL s true 2 (0 + 1 + 1) u (p + 1 + 1) 0 = unitL s true 1 (0 + 1 + 1 + 1) (u * 16 + max (dig (nx s (unitIs true (0 + 1 + 1) u) (p + 1 + 1) 0).1) 0) (nx s (unitIs true (0 + 1 + 1) u) (p + 1 + 1) 0).2.1 (nx s (unitIs true (0 + 1 + 1) u) (p + 1 + 1) 0).2.2 := rfl
  rw [u2]
  have d2 := dig_le (nx s (unitIs true (0 + 1 + 1) u) (p + 1 + 1) 0).1
  obtain ⟨y, hy⟩ : ∃ x, dig (nx s (unitIs true (0 + 1 + 1) u) (p + 1 + 1) 0).1 = x := ⟨_, rfl⟩
  rw [hy] at d2 ⊢
  obtain ⟨q, hq⟩ : ∃ q, nx s (unitIs true (0 + 1 + 1) u) (p + 1 + 1) 0 = q := ⟨_, rfl⟩
  rw [hq]
  obtain ⟨v, hv⟩ : ∃ v, u * 16 + max y 0 = v := ⟨_, rfl⟩
  rw [hv]
  have u3 : unitL s true 1 (0 + 1 + 1 + 1) v q.2.1 q.2.2 = (v * 16 + max (dig (nx s (unitIs true (0 + 1 + 1 + 1) v) q.2.1 q.2.2).1) 0, (nx s (unitIs true (0 + 1 + 1 + 1) v) q.2.1 q.2.2).2) := rfl
  rw [u3]
  have d3 := dig_le (nx s (unitIs true (0 + 1 + 1 + 1) v) q.2.1 q.2.2).1
  obtain ⟨z, hz⟩ : ∃ x, dig (nx s (unitIs true (0 + 1 + 1 + 1) v) q.2.1 q.2.2).1 = x := ⟨_, rfl⟩
  rw [hz] at d3 ⊢
  dsimp only
  omega

/-- escape, behind its 'u' and its four digits. -/
theorem escF_u {s : ByteArray} {p : Nat} (hp : p < s.size) (hb : byteAt s p = 117) : escF s p 0 =
    (let a := unitF s false (p + 1) 0
    if a.1 / 1024 = 54 then
      let b := nx s (fun c => c == 92) a.2.1 a.2.2
      let c := nx s (fun c => c == 117) b.2.1 b.2.2
      let d := unitF s true c.2.1 c.2.2
      (encL (65536 + a.1 % 1024 * 1024 + d.1 % 1024), d.2.1, d.2.2)
    else (encL a.1, a.2.1, a.2.2)) := by
  unfold escF
  rw [nx_hit (is := escIs) hp hb (by decide)]
  dsimp only
  rw [if_neg (by decide)]
theorem escape_f (s : ByteArray) (hs : s.size ≤ 140737488351232) (p k : Nat) (hp : p ≤ s.size) : glossatorref03_escape.f (k + 12) s p = some (strV (escF s p 0)) := by
  unfold glossatorref03_escape.f
  by_cases hz : p < s.size
  rotate_left
  · have e : nx s escIs p 0 = (0, p, 3) := by unfold nx; rw [if_neg (by decide), if_neg hz]
    have e2 : (escF s p 0).2 = (p, 3) := by unfold escF; rw [e]; rfl
    rw [if_pos (by omega), strV_err _ (by rw [e2]; show (3 : Int) ≠ 0; decide), e2, show p = s.size by omega]
  have hb1 := byteAt_le s p
  rw [if_neg (by omega), if_pos (by omega), if_pos (by omega), bt_byte s p hz, wrap_1 p (by omega)]
  by_cases hc : byteAt s p = 117
  rotate_left
  · rw [if_neg hc, show k + 12 = (k + 11) + 1 from rfl, plain_f, Option.bind_some]
    have hv := escs_v hb1.1 hb1.2 hc
    by_cases h0 : plainV (byteAt s p) = 0
    · have e : nx s escIs p 0 = (0, p, 4) := by unfold nx; rw [if_neg (by decide), if_pos hz, hv.1 h0]; rfl
      have e2 : (escF s p 0).2 = (p, 4) := by unfold escF; rw [e]; rfl
      rw [if_pos h0, strV_err _ (by rw [e2]; show (4 : Int) ≠ 0; decide), e2]
    · obtain ⟨h1, h2⟩ := hv.2 h0
      have e2 : escF s p 0 = ([plainV (byteAt s p)], p + 1, 0) := by
        unfold escF
        rw [nx_hit (is := escIs) hz rfl h1]
        dsimp only
        rw [if_pos hc, h2]
      rw [if_neg h0, e2]
      rfl
  rw [if_pos hc, show k + 12 = (k + 5) + 7 from rfl, four_f s hs false (p + 1) (k + 5) (by omega), Option.bind_some, escF_u hz hc]
  have ha1 := unitF_at s false (p + 1) 0 (by omega)
  have ha2 := unitF_bound s false (p + 1) 0
  obtain ⟨a, ha⟩ : ∃ a, unitF s false (p + 1) 0 = a := ⟨_, rfl⟩
  rw [ha] at ha1 ha2 ⊢
  obtain ⟨u, q, e⟩ := a
  dsimp only at ha1 ha2
  by_cases he : e = 0
  rotate_left
  · rw [fourV_e _ _ he]
    dsimp only
    rw [if_neg he]
    have e2 : ∀ t : List Int × Nat × Int, t.2 = (q, e) → some ((⟨#[]⟩ : ByteArray), (q : Int), e) = some (strV t) := fun t ht => by rw [strV_err t (by rw [ht]; exact he), ht]
    refine e2 _ ?_
    split
    · rw [nx_pass s _ q he, nx_pass s _ q he]
      exact unitL_pass s true 4 0 0 q he
    · rfl
  subst he
  rw [fourV_0]
  dsimp only
  rw [if_pos rfl]
  have henc : ∀ c : Int, enc c = strOfNums (encL c) := fun c => rfl
  by_cases hu1 : u < 55296
  · rw [if_pos hu1, if_neg (by omega)]
    rw [show k + 5 + 7 = (k + 11) + 1 from rfl]
    rw [glossatorref03_escape.j0]
    rw [if_pos rfl]
    rfl
  rw [if_neg hu1]
  by_cases hu2 : u > 56319
  · rw [decide_eq_true hu2, if_neg (by omega)]
    rw [show k + 5 + 7 = (k + 11) + 1 from rfl]
    rw [glossatorref03_escape.j0]
    rw [if_pos rfl]
    rfl
  rw [decide_eq_false hu2, if_pos (by omega), show k + 5 + 7 = (k + 11) + 1 from rfl]
  rw [glossatorref03_escape.j0]
  rw [if_neg (by decide), show k + 11 = (k + 10) + 1 from rfl]
  rw [glossatorref03_escape.l0]
  have x92 : bt (⟨#[92, 117]⟩ : ByteArray) 0 = 92 := by decide
  have x117 : bt (⟨#[92, 117]⟩ : ByteArray) 1 = 117 := by decide
  have xs : ((⟨#[92, 117]⟩ : ByteArray).size : Int) = 2 := by decide
  have w0 : wrap64 ((q : Int) + 0) = (q : Int) := by unfold wrap64; omega
  have w1 : wrap64 ((q : Int) + wrap64 (0 + 1)) = ((q + 1 : Nat) : Int) := by unfold wrap64; omega
  have w2 : wrap64 ((0 : Int) + 1) = 1 := by unfold wrap64; decide
  have w3 : wrap64 ((1 : Int) + 1) = 2 := by unfold wrap64; decide
  rw [if_pos (by decide), w0, xs]
  by_cases hq : q < s.size
  rotate_left
  · have e1 : nx s (fun c => c == 92) q 0 = (0, q, 3) := by unfold nx; rw [if_neg (by decide), if_neg hq]
    rw [if_pos (by omega), e1]
    dsimp only
    rw [nx_pass s _ q (by decide)]
    have := unitL_pass s true 4 0 0 q (e := 3) (by decide)
    rw [strV_err _ (by show (unitF s true q 3).2.2 ≠ 0; rw [show (unitF s true q 3).2 = (q, 3) from this]; show (3 : Int) ≠ 0; decide)]
    rw [show (unitF s true q 3).2 = (q, 3) from this, show q = s.size by omega]
  rw [if_neg (by omega), if_pos (by omega), if_pos (by omega), if_pos (by decide), if_pos (by decide), bt_byte s q hq, x92, w2]
  by_cases hb : byteAt s q = 92
  rotate_left
  · have e1 : nx s (fun c => c == 92) q 0 = (0, q, 4) := by unfold nx; rw [if_neg (by decide), if_pos hq, if_neg (by simpa using hb)]
    rw [if_neg hb, e1]
    dsimp only
    rw [nx_pass s _ q (by decide)]
    have := unitL_pass s true 4 0 0 q (e := 4) (by decide)
    rw [strV_err _ (by show (unitF s true q 4).2.2 ≠ 0; rw [show (unitF s true q 4).2 = (q, 4) from this]; show (4 : Int) ≠ 0; decide)]
    rw [show (unitF s true q 4).2 = (q, 4) from this]
  rw [if_pos hb, nx_hit (is := fun c => c == 92) hq hb (by decide), show k + 10 = (k + 9) + 1 from rfl]
  dsimp only
  rw [glossatorref03_escape.l0]
  rw [if_pos (by decide), xs, wrap_1 q (by omega)]
  by_cases hq1 : q + 1 < s.size
  rotate_left
  · have e1 : nx s (fun c => c == 117) (q + 1) 0 = (0, q + 1, 3) := by unfold nx; rw [if_neg (by decide), if_neg hq1]
    rw [if_pos (by omega), e1]
    dsimp only
    have := unitL_pass s true 4 0 0 (q + 1) (e := 3) (by decide)
    rw [strV_err _ (by show (unitF s true (q + 1) 3).2.2 ≠ 0; rw [show (unitF s true (q + 1) 3).2 = (q + 1, 3) from this]; show (3 : Int) ≠ 0; decide)]
    rw [show (unitF s true (q + 1) 3).2 = (q + 1, 3) from this, show q + 1 = s.size by omega]
  rw [if_neg (by omega), if_pos (by omega), if_pos (by omega), if_pos (by decide), if_pos (by decide), bt_byte s (q + 1) hq1, x117]
  by_cases hb2 : byteAt s (q + 1) = 117
  rotate_left
  · have e1 : nx s (fun c => c == 117) (q + 1) 0 = (0, q + 1, 4) := by unfold nx; rw [if_neg (by decide), if_pos hq1, if_neg (by simpa using hb2)]
    rw [if_neg hb2, e1]
    dsimp only
    have := unitL_pass s true 4 0 0 (q + 1) (e := 4) (by decide)
    rw [strV_err _ (by show (unitF s true (q + 1) 4).2.2 ≠ 0; rw [show (unitF s true (q + 1) 4).2 = (q + 1, 4) from this]; show (4 : Int) ≠ 0; decide)]
    rw [show (unitF s true (q + 1) 4).2 = (q + 1, 4) from this]
  rw [if_pos hb2, nx_hit (is := fun c => c == 117) hq1 hb2 (by decide), show k + 9 = (k + 8) + 1 from rfl]
  dsimp only
  rw [glossatorref03_escape.l0]
  rw [w3, if_neg (by decide), wrap_2 q (by omega), show k + 8 = (k + 1) + 7 from rfl, four_f s hs true (q + 2) (k + 1) (by omega), Option.bind_some]
  have hd1 := unit_low (s := s) (p := q + 2)
  show _ = some (strV (encL (65536 + u % 1024 * 1024 + (unitF s true (q + 2) 0).1 % 1024), (unitF s true (q + 2) 0).2.1, (unitF s true (q + 2) 0).2.2))
  obtain ⟨d, hd⟩ : ∃ a, unitF s true (q + 2) 0 = a := ⟨_, rfl⟩
  rw [hd] at hd1 ⊢
  obtain ⟨v, q2, e2⟩ := d
  dsimp only at hd1
  by_cases h2 : e2 = 0
  rotate_left
  · rw [fourV_e _ _ h2, strV_err _ h2]
    dsimp only
    rw [if_neg h2]
  subst h2
  have := hd1 rfl
  rw [fourV_0, strV_0]
  dsimp only
  rw [if_pos rfl]
  have ev : wrap64 ((wrap64 ((wrap64 (65536 + (wrap64 ((wrap64 (u - 55296)) * 1024)))) + v)) - 56320) = 65536 + u % 1024 * 1024 + v % 1024 := by
    have : wrap64 (u - 55296) = u - 55296 := by unfold wrap64; omega
    rw [this]
    have : wrap64 ((u - 55296) * 1024) = (u - 55296) * 1024 := by unfold wrap64; omega
    rw [this]
    have : wrap64 (65536 + (u - 55296) * 1024) = 65536 + (u - 55296) * 1024 := by unfold wrap64; omega
    rw [this]
    unfold wrap64; omega
  rw [ev]
  rfl

theorem escF_byte (s : ByteArray) (p : Nat) (h : (escF s p 0).2.2 = 0) : ∀ x ∈ (escF s p 0).1, 0 ≤ x ∧ x ≤ 255 := by
  unfold escF at h ⊢
  by_cases hc : (nx s escIs p 0).1 ≠ 117
  · rw [if_pos hc] at h ⊢
    have h2 := nx_ok h
    rw [h2.2.2.2] at hc ⊢
    have := unl_le h2.2.2.1 hc
    intro x hx
    dsimp only at hx
    rw [List.mem_singleton] at hx
    subst hx
    omega
  · rw [if_neg hc]
    dsimp only
    split
    · exact encL_byte _
    · exact encL_byte _
theorem bytes_str (xs : List Int) (h : ∀ x ∈ xs, 0 ≤ x ∧ x ≤ 255) : Go.Proofs.YtlbokaekhjjabaaW.PrintWords.bytesOf (strOfNums xs) = xs := by
  unfold Go.Proofs.YtlbokaekhjjabaaW.PrintWords.bytesOf
  rw [str_data, List.map_map]
  conv => rhs; rw [← List.map_id xs]
  refine List.map_congr_left fun x hx => ?_
  exact byteOf_toNat (h x hx).1 (h x hx).2
theorem scan_l (s : ByteArray) (hs : s.size ≤ 140737488351232) (m : Nat) : ∀ (p k : Nat) (out : List Int), s.size - p < m → p ≤ s.size → out.length ≤ p →
    glossatorref03_Scan.l0 (k + m + 13) s out p = some (strV (scnF s p 0 out)) := by
  induction m with
  | zero => intro p k out h; omega
  | succ m ih =>
    intro p k out hm hp ho
    rw [show k + (m + 1) + 13 = (k + m + 13) + 1 by omega]
    rw [glossatorref03_Scan.l0]
    by_cases hz : p < s.size
    rotate_left
    · have e : nx s ge32 p 0 = (0, p, 3) := by unfold nx; rw [if_neg (by decide), if_neg hz]
      rw [if_neg (by omega), scnF_step, e]
      unfold behind
      dsimp only
      rw [if_pos (by decide), strV_err _ (by show (3 : Int) ≠ 0; decide), show p = s.size by omega]
    rw [if_pos (by omega), if_pos (by omega), bt_byte s p hz]
    obtain ⟨c, hc⟩ : ∃ c, byteAt s p = c := ⟨_, rfl⟩
    rw [hc]
    by_cases h34 : c = 34
    · subst h34
      rw [if_pos rfl, scnF_step, nx_hit (is := ge32) hz hc (by decide)]
      unfold behind
      dsimp only
      rw [if_neg (by decide), if_pos rfl, wrap_1 p (by omega)]
      rfl
    rw [if_neg h34]
    by_cases h32 : c < 32
    · have e : nx s ge32 p 0 = (0, p, 4) := by unfold nx; rw [if_neg (by decide), if_pos hz, hc, if_neg (by unfold ge32; simpa using h32)]
      rw [if_pos h32, scnF_step, e]
      unfold behind
      dsimp only
      rw [if_pos (by decide), strV_err _ (by show (4 : Int) ≠ 0; decide)]
    rw [if_neg h32]
    have hst : scnF s p 0 out = if c = 92 then scnF s (escF s (p + 1) 0).2.1 (escF s (p + 1) 0).2.2 (out ++ (escF s (p + 1) 0).1)
        else scnF s (p + (plainN s p).1) (plainN s p).2 (out ++ Go.Proofs.Ytlbokaekhjjabaa.bytesOf s p (plainN s p).1) := by
      rw [scnF_step, nx_hit (is := ge32) hz hc (by unfold ge32; exact decide_eq_true (by omega))]
      unfold behind
      dsimp only
      rw [if_neg (by decide), if_neg h34]
    by_cases h92 : c = 92
    · rw [if_pos h92, hst, if_pos h92, wrap_1 p (by omega), show k + m + 13 = (k + m + 1) + 12 by omega, escape_f s hs (p + 1) _ (by omega), Option.bind_some]
      have ok := escF_ok s (p + 1) 0 (by omega)
      have hb := escF_byte s (p + 1)
      obtain ⟨a, ha⟩ : ∃ a, escF s (p + 1) 0 = a := ⟨_, rfl⟩
      rw [ha] at ok hb ⊢
      obtain ⟨xs, q, e⟩ := a
      dsimp only at ok hb ⊢
      by_cases he : e = 0
      · subst he
        have o2 := ok.2.2.2 rfl
        have ev : strV (xs, q, 0) = (strOfNums xs, (q : Int), 0) := rfl
        rw [ev]
        dsimp only
        rw [if_pos rfl, str_size, if_pos (by omega), bytes_str xs (hb rfl), show (k + m + 1) + 12 = k + m + 13 by omega]
        exact ih q k (out ++ xs) (by omega) (by omega) (by rw [List.length_append]; omega)
      · rw [strV_err _ he]
        dsimp only
        rw [if_neg he, scnF_pass s q _ he, strV_err _ he]
    · rw [if_neg h92, hst, if_neg h92, if_pos (by omega), Int.toNat_natCast]
      show (glossatorref02_Point.f (sub s p)).bind _ = _
      have hz2 := sub_size s p
      have hpf : glossatorref02_Point.f (sub s p) = some (pt (sub s p)) := by unfold glossatorref02_Point.f; rw [if_pos (by omega)]
      have hcf : glossatorref02_Check.f (sub s p) = some (chk (sub s p)) := by unfold glossatorref02_Check.f; rw [if_pos (by omega)]
      rw [hpf, Option.bind_some]
      have ok := plainN_ok s p hz
      by_cases h0 : (pt (sub s p)).2 = 0
      · rw [if_pos h0]
        show (glossatorref02_Check.f (sub s p)).bind _ = _
        rw [hcf, Option.bind_some]
        have e1 : plainN s p = ((chk (sub s p)).1.toNat, (chk (sub s p)).2) := by unfold plainN; rw [if_pos h0]
        rw [e1] at ok ⊢
        dsimp only at ok ⊢
        have hne : (chk (sub s p)).2 ≠ 0 := by
          intro h
          have hl : (sub s p).data.toList ≠ [] := by
            intro h2
            have := congrArg List.length h2
            rw [data_len, hz2] at this
            simp at this; omega
          exact whole_pt (chk_whole h) hl h0
        rw [scnF_pass s _ _ hne, strV_err _ hne]
        have hpos : 0 ≤ (chk (sub s p)).1 ∧ (chk (sub s p)).1 ≤ s.size := by
          obtain ⟨j, h1, h2, _⟩ := chkL_bound (sub s p).data.toList st0 0
          rw [data_len, hz2] at h1
          unfold chk; rw [h2]; omega
        dsimp only
        have e3 : wrap64 ((p : Int) + (chk (sub s p)).1) = ((p + (chk (sub s p)).1.toNat : Nat) : Int) := by unfold wrap64; omega
        rw [e3]
      · rw [if_neg h0]
        have hn : ∃ n : Nat, (pt (sub s p)).2 = n := by
          obtain ⟨x, t, _, h2, _⟩ := enc_ptL h0
          exact ⟨x.length, h2⟩
        obtain ⟨n, hn⟩ := hn
        have e1 : plainN s p = (n, 0) := by unfold plainN; rw [if_neg h0, hn]; rfl
        rw [e1] at ok ⊢
        dsimp only at ok ⊢
        have ok2 := ok.2.1 rfl
        rw [hn, wrap_nat p n (by omega), if_pos (by omega), if_pos (by omega), Int.toNat_natCast]
        have hl := bytesOf_len s p n (by omega)
        have hx : (s.extract p (p + n)).size = n := by rw [ByteArray.size_extract]; omega
        rw [hx, if_pos (by omega)]
        exact ih (p + n) k (out ++ Go.Proofs.Ytlbokaekhjjabaa.bytesOf s p n) (by omega) (by omega) (by rw [List.length_append, hl]; omega)
theorem refScan_f (s : ByteArray) (hs : s.size ≤ 140737488351232) : ∃ k, glossatorref03_Scan.f k s = some (strV (scanF s)) := by
  refine ⟨s.size + 1 + 13, ?_⟩
  unfold glossatorref03_Scan.f
  by_cases hz : s.toList = []
  · have h0 : s.size = 0 := by
      have := ne_nil s
      refine Classical.byContradiction fun h => (this (by omega)).2 hz
    rw [if_pos hz]
    have e : nx s (fun c => c == 34) 0 0 = (0, 0, 3) := by unfold nx; rw [if_neg (by decide), if_neg (by omega)]
    have e2 : scanF s = ([], 0, 3) := by
      show scnF s (nx s (fun c => c == 34) 0 0).2.1 (nx s (fun c => c == 34) 0 0).2.2 [] = _
      rw [e, scnF_pass s _ _ (by decide)]
    rw [e2]; rfl
  · have h0 : 0 < s.size := by
      refine Classical.byContradiction fun h => hz ?_
      have : s = ByteArray.empty := by
        refine ByteArray.ext ?_
        exact Array.eq_empty_of_size_eq_zero (by have : s.data.size = s.size := rfl; omega)
      rw [this]; decide +kernel
    rw [if_neg hz, if_pos (by omega)]
    have hb : bt s 0 = byteAt s 0 := bt_byte s 0 h0
    rw [hb]
    by_cases h34 : byteAt s 0 = 34
    · have e2 : scanF s = scnF s 1 0 [] := by
        show scnF s (nx s (fun c => c == 34) 0 0).2.1 (nx s (fun c => c == 34) 0 0).2.2 [] = _
        rw [nx_hit (is := fun c => c == 34) h0 h34 (by decide)]
      rw [if_pos h34, e2]
      have := scan_l s hs (s.size + 1) 1 0 [] (by omega) (by omega) (by simp)
      rw [Nat.zero_add] at this
      exact this
    · have e : nx s (fun c => c == 34) 0 0 = (0, 0, 4) := by unfold nx; rw [if_neg (by decide), if_pos h0, if_neg (by simpa using h34)]
      have e2 : scanF s = ([], 0, 4) := by
        show scnF s (nx s (fun c => c == 34) 0 0).2.1 (nx s (fun c => c == 34) 0 0).2.2 [] = _
        rw [e, scnF_pass s _ _ (by decide)]
      rw [if_neg h34, e2]; rfl
end Go.Proofs.Ytlbokaekhjjabaa.Pure

-- Written by a program of this session (joint.sh) out of the translation. Not trusted: Lean checks it.
namespace Go.Proofs.Ytlbokaekhjjabaa.T
open Go.RowKit Go.Proofs.YtlbokaekhjjabaaW.PrintWords Go.Proofs.YtlbokaekhjjabaaW.PrintLast Go.Proofs.YtlbokaekhjjabaaW.PrintMore
attribute [local go_sem] max2_int min2_int max_two min_two max_three min_three max_four min_four   -- for this text's walks alone
set_option linter.unusedVariables false
set_option linter.unusedSimpArgs false

/-! ### glossatorref03_Scan: function 38 -/
def glossatorref03_Scan.f (a0 : ByteArray) : Option (ByteArray × Int × Int) := if a0.size ≤ 140737488351232 then some (Pure.strV (scanF a0)) else none
theorem glossatorref03_Scan.calls (a0 : ByteArray) (r1 : ByteArray) (r2 r3 : Int) (w : World) (h : glossatorref03_Scan.f a0 = some (r1, r2, r3)) :
    Calls Try.prog 38 #[.string a0] w fun e w' => e = .returned (.tuple #[.string r1, .int .i64 r2, .int .i64 r3]) ∧ Below w.heap.size w w' := by
  unfold glossatorref03_Scan.f at h
  split at h
  · rename_i hs
    have h' := Option.some.inj h
    obtain ⟨k, hk⟩ := Pure.refScan_f a0 hs
    exact S.glossatorref03_Scan.calls k a0 r1 r2 r3 w (by rw [← h']; exact hk)
  · cases h

end Go.Proofs.Ytlbokaekhjjabaa.T

-- Written by a program of this session (joint.sh) out of the translation. Not trusted: Lean checks it.
namespace Go.Proofs.Ytlbokaekhjjabaa.T
open Go.RowKit Go.Proofs.YtlbokaekhjjabaaW.PrintWords Go.Proofs.YtlbokaekhjjabaaW.PrintLast Go.Proofs.YtlbokaekhjjabaaW.PrintMore
attribute [local go_sem] max2_int min2_int max_two min_two max_three min_three max_four min_four   -- for this text's walks alone
set_option linter.unusedVariables false
set_option linter.unusedSimpArgs false

/-! ### glossatorref14_Skip: function 63 -/
def glossatorref14_Skip.l0 : Nat → ByteArray → Int → Option (Int)
  | 0, _, _ => none
  | k + 1, x0, x1 => if x1 < (x0.size : Int) then (if 0 ≤ x1 then (if (bt x0 x1) = 9 then (glossatorref14_Skip.l0 k x0 (wrap64 (x1 + 1))) else (if (bt x0 x1) = 10 then (glossatorref14_Skip.l0 k x0 (wrap64 (x1 + 1))) else (if (bt x0 x1) = 13 then (glossatorref14_Skip.l0 k x0 (wrap64 (x1 + 1))) else (if (bt x0 x1) = 32 then (glossatorref14_Skip.l0 k x0 (wrap64 (x1 + 1))) else (some x1))))) else (none)) else (some x1)
def glossatorref14_Skip.f (k : Nat) (a0 : ByteArray) (a1 : Int) : Option (Int) := glossatorref14_Skip.l0 k a0 a1
theorem glossatorref14_Skip.mono_l : ∀ k, (∀ y0 y1, LeO (glossatorref14_Skip.l0 k y0 y1) (glossatorref14_Skip.l0 (k + 1) y0 y1))
  | 0 => fun _ _ r h => by simp [glossatorref14_Skip.l0] at h
  | k + 1 => by
    have ih0 := glossatorref14_Skip.mono_l k
    · intro y0 y1
      unfold glossatorref14_Skip.l0
      repeat' first
      | (with_reducible exact ih0 _ _)
      | (with_reducible exact LeO.refl _)
      | (with_reducible exact LeO.none _)
      | (with_reducible refine LeO.ite ?_ ?_)
      | (with_reducible refine LeO.bind ?_ (fun _ => ?_))
      | exact ih0 _ _
      | exact LeO.none _
      | refine LeO.ite ?_ ?_
      | refine LeO.bind ?_ (fun _ => ?_)
theorem glossatorref14_Skip.mono : ∀ a0 a1 k, LeO (glossatorref14_Skip.f k a0 a1) (glossatorref14_Skip.f (k + 1) a0 a1) := by
  intro a0 a1 k
  have ih0 := glossatorref14_Skip.mono_l k
  unfold glossatorref14_Skip.f
  repeat' first
      | (with_reducible exact ih0 _ _)
      | (with_reducible exact LeO.refl _)
      | (with_reducible exact LeO.none _)
      | (with_reducible refine LeO.ite ?_ ?_)
      | (with_reducible refine LeO.bind ?_ (fun _ => ?_))
      | exact ih0 _ _
      | exact LeO.none _
      | refine LeO.ite ?_ ?_
      | refine LeO.bind ?_ (fun _ => ?_)
set_option maxHeartbeats 8000000 in
set_option maxRecDepth 100000 in
theorem glossatorref14_Skip.calls (k : Nat) (a0 : ByteArray) (a1 : Int) (r : Int) (w : World) (h : glossatorref14_Skip.f k a0 a1 = some r) :
    Calls Try.prog 63 #[.string a0, .int .i64 a1] w fun e w' => e = .returned (.int .i64 r) ∧ Drawn0 w w' := by
  have H : (glossatorref14_Skip.l0 k a0 a1) = some r := h
  clear h
  have H' := Aside0.mk H
  clear H
  go_enter Try.func63, Try.ntmps63
  go_wp2
  go_loopg [1] k (fun kq v1 w' => ∃ (x1_1 : Int), v1 = .int .i64 x1_1 ∧ Aside0 (glossatorref14_Skip.l0 kq a0 x1_1 = some r) ∧ Aside0 (kq ≤ k) ∧ Drawn0 w w')
  case atStart => exact ⟨(a1), (by first | rfl | (simp; done) | (simp [*]; done)), H', ⟨Nat.le_refl _⟩, by repeat (first | exact Drawn0.refl _ | apply Drawn0.step)⟩
  case round =>
    clear H'
    try clear p2
    obtain ⟨x1_1, rfl, HA, HK1, ⟨m1, rfl⟩⟩ := hrel
    cases gk with
    | zero => exact absurd HA.out (by simp [glossatorref14_Skip.l0])
    | succ k1 =>
      have H := HA.out
      clear HA
      simp only [glossatorref14_Skip.l0] at H
      by_cases c3 : x1_1 < (a0.size : Int)
      · rw [if_pos c3] at H
        have c3b0 : decide (x1_1 < (a0.size : Int)) = true := decide_eq_true c3
        clear c3
        by_cases c4 : 0 ≤ x1_1
        · rw [if_pos c4] at H
          have c4b0 : decide (0 ≤ x1_1) = true := decide_eq_true c4
          clear c4
          by_cases c6 : (bt a0 x1_1) = 9
          · rw [if_pos c6] at H
            have c6b0 : ((bt a0 x1_1) == 9) = true := beq_iff_eq.mpr c6
            have c6b1 : ((bt a0 x1_1) != 9) = false := bne_eq_false_iff_eq.mpr c6
            clear c6
            have H' := Aside0.mk H
            clear H
            have p5 : 0 ≤ (x1_1 : Int) := of_decide_eq_true (by first | (with_reducible assumption) | assumption)
            have q5 : x1_1 < (a0.size : Int) := of_decide_eq_true (by first | (with_reducible assumption) | assumption)
            have hx5 := bt_at a0 x1_1
            replace p5 := eq_true p5
            replace q5 := eq_true q5
            go_wp2
            go_roundg k1
            case measure => have := HK1.out; omega
            case rel => exact ⟨(wrap64 (x1_1 + 1)), (by first | rfl | (simp; done) | (simp [*]; done)), H', ⟨by have := HK1.out; omega⟩, by repeat (first | exact Drawn0.refl _ | apply Drawn0.step)⟩
          · rw [if_neg c6] at H
            have c6b0 : ((bt a0 x1_1) == 9) = false := beq_eq_false_iff_ne.mpr c6
            have c6b1 : ((bt a0 x1_1) != 9) = true := bne_iff_ne.mpr c6
            by_cases c8 : (bt a0 x1_1) = 10
            · rw [if_pos c8] at H
              have c8b0 : ((bt a0 x1_1) == 10) = true := beq_iff_eq.mpr c8
              have c8b1 : ((bt a0 x1_1) != 10) = false := bne_eq_false_iff_eq.mpr c8
              clear c8
              have H' := Aside0.mk H
              clear H
              have p5 : 0 ≤ (x1_1 : Int) := of_decide_eq_true (by first | (with_reducible assumption) | assumption)
              have q5 : x1_1 < (a0.size : Int) := of_decide_eq_true (by first | (with_reducible assumption) | assumption)
              have hx5 := bt_at a0 x1_1
              replace p5 := eq_true p5
              replace q5 := eq_true q5
              have p7 : 0 ≤ (x1_1 : Int) := of_decide_eq_true (by first | (with_reducible assumption) | assumption)
              have q7 : x1_1 < (a0.size : Int) := of_decide_eq_true (by first | (with_reducible assumption) | assumption)
              have hx7 := bt_at a0 x1_1
              replace p7 := eq_true p7
              replace q7 := eq_true q7
              go_wp2
              go_roundg k1
              case measure => have := HK1.out; omega
              case rel => exact ⟨(wrap64 (x1_1 + 1)), (by first | rfl | (simp; done) | (simp [*]; done)), H', ⟨by have := HK1.out; omega⟩, by repeat (first | exact Drawn0.refl _ | apply Drawn0.step)⟩
            · rw [if_neg c8] at H
              have c8b0 : ((bt a0 x1_1) == 10) = false := beq_eq_false_iff_ne.mpr c8
              have c8b1 : ((bt a0 x1_1) != 10) = true := bne_iff_ne.mpr c8
              by_cases c10 : (bt a0 x1_1) = 13
              · rw [if_pos c10] at H
                have c10b0 : ((bt a0 x1_1) == 13) = true := beq_iff_eq.mpr c10
                have c10b1 : ((bt a0 x1_1) != 13) = false := bne_eq_false_iff_eq.mpr c10
                clear c10
                have H' := Aside0.mk H
                clear H
                have p5 : 0 ≤ (x1_1 : Int) := of_decide_eq_true (by first | (with_reducible assumption) | assumption)
                have q5 : x1_1 < (a0.size : Int) := of_decide_eq_true (by first | (with_reducible assumption) | assumption)
                have hx5 := bt_at a0 x1_1
                replace p5 := eq_true p5
                replace q5 := eq_true q5
                have p7 : 0 ≤ (x1_1 : Int) := of_decide_eq_true (by first | (with_reducible assumption) | assumption)
                have q7 : x1_1 < (a0.size : Int) := of_decide_eq_true (by first | (with_reducible assumption) | assumption)
                have hx7 := bt_at a0 x1_1
                replace p7 := eq_true p7
                replace q7 := eq_true q7
                have p9 : 0 ≤ (x1_1 : Int) := of_decide_eq_true (by first | (with_reducible assumption) | assumption)
                have q9 : x1_1 < (a0.size : Int) := of_decide_eq_true (by first | (with_reducible assumption) | assumption)
                have hx9 := bt_at a0 x1_1
                replace p9 := eq_true p9
                replace q9 := eq_true q9
                go_wp2
                go_roundg k1
                case measure => have := HK1.out; omega
                case rel => exact ⟨(wrap64 (x1_1 + 1)), (by first | rfl | (simp; done) | (simp [*]; done)), H', ⟨by have := HK1.out; omega⟩, by repeat (first | exact Drawn0.refl _ | apply Drawn0.step)⟩
              · rw [if_neg c10] at H
                have c10b0 : ((bt a0 x1_1) == 13) = false := beq_eq_false_iff_ne.mpr c10
                have c10b1 : ((bt a0 x1_1) != 13) = true := bne_iff_ne.mpr c10
                by_cases c12 : (bt a0 x1_1) = 32
                · rw [if_pos c12] at H
                  have c12b0 : ((bt a0 x1_1) == 32) = true := beq_iff_eq.mpr c12
                  have c12b1 : ((bt a0 x1_1) != 32) = false := bne_eq_false_iff_eq.mpr c12
                  clear c12
                  have H' := Aside0.mk H
                  clear H
                  have p5 : 0 ≤ (x1_1 : Int) := of_decide_eq_true (by first | (with_reducible assumption) | assumption)
                  have q5 : x1_1 < (a0.size : Int) := of_decide_eq_true (by first | (with_reducible assumption) | assumption)
                  have hx5 := bt_at a0 x1_1
                  replace p5 := eq_true p5
                  replace q5 := eq_true q5
                  have p7 : 0 ≤ (x1_1 : Int) := of_decide_eq_true (by first | (with_reducible assumption) | assumption)
                  have q7 : x1_1 < (a0.size : Int) := of_decide_eq_true (by first | (with_reducible assumption) | assumption)
                  have hx7 := bt_at a0 x1_1
                  replace p7 := eq_true p7
                  replace q7 := eq_true q7
                  have p9 : 0 ≤ (x1_1 : Int) := of_decide_eq_true (by first | (with_reducible assumption) | assumption)
                  have q9 : x1_1 < (a0.size : Int) := of_decide_eq_true (by first | (with_reducible assumption) | assumption)
                  have hx9 := bt_at a0 x1_1
                  replace p9 := eq_true p9
                  replace q9 := eq_true q9
                  have p11 : 0 ≤ (x1_1 : Int) := of_decide_eq_true (by first | (with_reducible assumption) | assumption)
                  have q11 : x1_1 < (a0.size : Int) := of_decide_eq_true (by first | (with_reducible assumption) | assumption)
                  have hx11 := bt_at a0 x1_1
                  replace p11 := eq_true p11
                  replace q11 := eq_true q11
                  go_wp2
                  go_roundg k1
                  case measure => have := HK1.out; omega
                  case rel => exact ⟨(wrap64 (x1_1 + 1)), (by first | rfl | (simp; done) | (simp [*]; done)), H', ⟨by have := HK1.out; omega⟩, by repeat (first | exact Drawn0.refl _ | apply Drawn0.step)⟩
                · rw [if_neg c12] at H
                  have c12b0 : ((bt a0 x1_1) == 32) = false := beq_eq_false_iff_ne.mpr c12
                  have c12b1 : ((bt a0 x1_1) != 32) = true := bne_iff_ne.mpr c12
                  obtain rfl := Option.some.inj H
                  have p5 : 0 ≤ (x1_1 : Int) := of_decide_eq_true (by first | (with_reducible assumption) | assumption)
                  have q5 : x1_1 < (a0.size : Int) := of_decide_eq_true (by first | (with_reducible assumption) | assumption)
                  have hx5 := bt_at a0 x1_1
                  replace p5 := eq_true p5
                  replace q5 := eq_true q5
                  have p7 : 0 ≤ (x1_1 : Int) := of_decide_eq_true (by first | (with_reducible assumption) | assumption)
                  have q7 : x1_1 < (a0.size : Int) := of_decide_eq_true (by first | (with_reducible assumption) | assumption)
                  have hx7 := bt_at a0 x1_1
                  replace p7 := eq_true p7
                  replace q7 := eq_true q7
                  have p9 : 0 ≤ (x1_1 : Int) := of_decide_eq_true (by first | (with_reducible assumption) | assumption)
                  have q9 : x1_1 < (a0.size : Int) := of_decide_eq_true (by first | (with_reducible assumption) | assumption)
                  have hx9 := bt_at a0 x1_1
                  replace p9 := eq_true p9
                  replace q9 := eq_true q9
                  have p11 : 0 ≤ (x1_1 : Int) := of_decide_eq_true (by first | (with_reducible assumption) | assumption)
                  have q11 : x1_1 < (a0.size : Int) := of_decide_eq_true (by first | (with_reducible assumption) | assumption)
                  have hx11 := bt_at a0 x1_1
                  replace p11 := eq_true p11
                  replace q11 := eq_true q11
                  go_wp2
                  go_ret
                  exact ⟨by first | rfl | (simp; done) | (simp [*]; done), by repeat (first | exact Drawn0.refl _ | apply Drawn0.step)⟩
        · rw [if_neg c4] at H
          exact absurd H (by simp)
      · rw [if_neg c3] at H
        have c3b0 : decide (x1_1 < (a0.size : Int)) = false := decide_eq_false c3
        clear c3
        obtain rfl := Option.some.inj H
        go_wp2
        go_ret
        exact ⟨by first | rfl | (simp; done) | (simp [*]; done), by repeat (first | exact Drawn0.refl _ | apply Drawn0.step)⟩

end Go.Proofs.Ytlbokaekhjjabaa.T

-- Written by a program of this session (joint.sh) out of the translation. Not trusted: Lean checks it.
namespace Go.Proofs.Ytlbokaekhjjabaa.T
open Go.RowKit Go.Proofs.YtlbokaekhjjabaaW.PrintWords Go.Proofs.YtlbokaekhjjabaaW.PrintLast Go.Proofs.YtlbokaekhjjabaaW.PrintMore
attribute [local go_sem] max2_int min2_int max_two min_two max_three min_three max_four min_four   -- for this text's walks alone
set_option linter.unusedVariables false
set_option linter.unusedSimpArgs false

/-! ### glossatorref14_Kind: function 64 -/
def glossatorref14_Kind.j0 : Nat → Int → Int → Bool → Option (Int)
  | 0, _, _, _ => none
  | k + 1, x0, x3, x4 => if x4 = true then (some x0) else (if x3 = 34 then (some 83) else (if x3 = 45 then (some 78) else (if x3 = 48 then (some 78) else (if x3 = 49 then (some 78) else (if x3 = 50 then (some 78) else (if x3 = 51 then (some 78) else (if x3 = 52 then (some 78) else (if x3 = 53 then (some 78) else (if x3 = 54 then (some 78) else (if x3 = 55 then (some 78) else (if x3 = 56 then (some 78) else (if x3 = 57 then (some 78) else (some 63)))))))))))))
def glossatorref14_Kind.f (k : Nat) (a0 : Int) : Option (Int) := if a0 = 91 then (glossatorref14_Kind.j0 k a0 a0 (a0 == 91)) else (if a0 = 93 then (glossatorref14_Kind.j0 k a0 a0 (a0 == 93)) else (if a0 = 123 then (glossatorref14_Kind.j0 k a0 a0 (a0 == 123)) else (if a0 = 125 then (glossatorref14_Kind.j0 k a0 a0 (a0 == 125)) else (if a0 = 58 then (glossatorref14_Kind.j0 k a0 a0 (a0 == 58)) else (if a0 = 44 then (glossatorref14_Kind.j0 k a0 a0 (a0 == 44)) else (if a0 = 110 then (glossatorref14_Kind.j0 k a0 a0 (a0 == 110)) else (if a0 = 116 then (glossatorref14_Kind.j0 k a0 a0 (a0 == 116)) else (glossatorref14_Kind.j0 k a0 a0 (a0 == 102)))))))))
theorem glossatorref14_Kind.mono_l : ∀ k, (∀ y0 y1 y2, LeO (glossatorref14_Kind.j0 k y0 y1 y2) (glossatorref14_Kind.j0 (k + 1) y0 y1 y2))
  | 0 => fun _ _ _ r h => by simp [glossatorref14_Kind.j0] at h
  | k + 1 => by
    have ih0 := glossatorref14_Kind.mono_l k
    · intro y0 y1 y2
      unfold glossatorref14_Kind.j0
      repeat' first
      | (with_reducible exact ih0 _ _ _)
      | (with_reducible exact LeO.refl _)
      | (with_reducible exact LeO.none _)
      | (with_reducible refine LeO.ite ?_ ?_)
      | (with_reducible refine LeO.bind ?_ (fun _ => ?_))
      | exact ih0 _ _ _
      | exact LeO.none _
      | refine LeO.ite ?_ ?_
      | refine LeO.bind ?_ (fun _ => ?_)
theorem glossatorref14_Kind.mono : ∀ a0 k, LeO (glossatorref14_Kind.f k a0) (glossatorref14_Kind.f (k + 1) a0) := by
  intro a0 k
  have ih0 := glossatorref14_Kind.mono_l k
  unfold glossatorref14_Kind.f
  repeat' first
      | (with_reducible exact ih0 _ _ _)
      | (with_reducible exact LeO.refl _)
      | (with_reducible exact LeO.none _)
      | (with_reducible refine LeO.ite ?_ ?_)
      | (with_reducible refine LeO.bind ?_ (fun _ => ?_))
      | exact ih0 _ _ _
      | exact LeO.none _
      | refine LeO.ite ?_ ?_
      | refine LeO.bind ?_ (fun _ => ?_)
set_option maxHeartbeats 8000000 in
set_option maxRecDepth 100000 in
theorem glossatorref14_Kind.calls (k : Nat) (a0 : Int) (r : Int) (w : World) (h : glossatorref14_Kind.f k a0 = some r) :
    Calls Try.prog 64 #[.int .u8 a0] w fun e w' => e = .returned (.int .u8 r) ∧ Drawn0 w w' := by
  have H : (if a0 = 91 then (glossatorref14_Kind.j0 k a0 a0 (a0 == 91)) else (if a0 = 93 then (glossatorref14_Kind.j0 k a0 a0 (a0 == 93)) else (if a0 = 123 then (glossatorref14_Kind.j0 k a0 a0 (a0 == 123)) else (if a0 = 125 then (glossatorref14_Kind.j0 k a0 a0 (a0 == 125)) else (if a0 = 58 then (glossatorref14_Kind.j0 k a0 a0 (a0 == 58)) else (if a0 = 44 then (glossatorref14_Kind.j0 k a0 a0 (a0 == 44)) else (if a0 = 110 then (glossatorref14_Kind.j0 k a0 a0 (a0 == 110)) else (if a0 = 116 then (glossatorref14_Kind.j0 k a0 a0 (a0 == 116)) else (glossatorref14_Kind.j0 k a0 a0 (a0 == 102)))))))))) = some r := h
  clear h
  have HC2 := Aside0.mk H
  clear H
  go_enter Try.func64, Try.ntmps64
  go_upto_if 4 with (fail)
  go_cut [4] (fun v4 wc => ∃ (kq : Nat) (x4_1 : Bool), v4 = .bool x4_1 ∧ Aside0 (glossatorref14_Kind.j0 kq a0 a0 x4_1 = some r) ∧ Aside0 (kq ≤ k) ∧ Drawn0 w wc)
  case first =>
    have H := HC2.out
    clear HC2
    by_cases c3 : a0 = 91
    · rw [if_pos c3] at H
      have c3b0 : (a0 == 91) = true := beq_iff_eq.mpr c3
      have c3b1 : (a0 != 91) = false := bne_eq_false_iff_eq.mpr c3
      clear c3
      (first | rw [c3b0] | (simp only [i64_w, i32_w]; rw [c3b0]) | skip)
      have H' := Aside0.mk H
      clear H
      go_wp2
      go_meet
      case rel => exact ⟨_, ((a0 == 91)), (by first | rfl | (simp; done) | (simp [*]; done)), H', ⟨by first | omega | exact Nat.le_refl _⟩, by repeat (first | exact Drawn0.refl _ | apply Drawn0.step)⟩
    · rw [if_neg c3] at H
      have c3b0 : (a0 == 91) = false := beq_eq_false_iff_ne.mpr c3
      have c3b1 : (a0 != 91) = true := bne_iff_ne.mpr c3
      (first | rw [c3b0] | (simp only [i64_w, i32_w]; rw [c3b0]) | skip)
      by_cases c4 : a0 = 93
      · rw [if_pos c4] at H
        have c4b0 : (a0 == 93) = true := beq_iff_eq.mpr c4
        have c4b1 : (a0 != 93) = false := bne_eq_false_iff_eq.mpr c4
        clear c4
        have H' := Aside0.mk H
        clear H
        go_wp2
        go_meet
        case rel => exact ⟨_, ((a0 == 93)), (by first | rfl | (simp; done) | (simp [*]; done)), H', ⟨by first | omega | exact Nat.le_refl _⟩, by repeat (first | exact Drawn0.refl _ | apply Drawn0.step)⟩
      · rw [if_neg c4] at H
        have c4b0 : (a0 == 93) = false := beq_eq_false_iff_ne.mpr c4
        have c4b1 : (a0 != 93) = true := bne_iff_ne.mpr c4
        by_cases c5 : a0 = 123
        · rw [if_pos c5] at H
          have c5b0 : (a0 == 123) = true := beq_iff_eq.mpr c5
          have c5b1 : (a0 != 123) = false := bne_eq_false_iff_eq.mpr c5
          clear c5
          have H' := Aside0.mk H
          clear H
          go_wp2
          go_meet
          case rel => exact ⟨_, ((a0 == 123)), (by first | rfl | (simp; done) | (simp [*]; done)), H', ⟨by first | omega | exact Nat.le_refl _⟩, by repeat (first | exact Drawn0.refl _ | apply Drawn0.step)⟩
        · rw [if_neg c5] at H
          have c5b0 : (a0 == 123) = false := beq_eq_false_iff_ne.mpr c5
          have c5b1 : (a0 != 123) = true := bne_iff_ne.mpr c5
          by_cases c6 : a0 = 125
          · rw [if_pos c6] at H
            have c6b0 : (a0 == 125) = true := beq_iff_eq.mpr c6
            have c6b1 : (a0 != 125) = false := bne_eq_false_iff_eq.mpr c6
            clear c6
            have H' := Aside0.mk H
            clear H
            go_wp2
            go_meet
            case rel => exact ⟨_, ((a0 == 125)), (by first | rfl | (simp; done) | (simp [*]; done)), H', ⟨by first | omega | exact Nat.le_refl _⟩, by repeat (first | exact Drawn0.refl _ | apply Drawn0.step)⟩
          · rw [if_neg c6] at H
            have c6b0 : (a0 == 125) = false := beq_eq_false_iff_ne.mpr c6
            have c6b1 : (a0 != 125) = true := bne_iff_ne.mpr c6
            by_cases c7 : a0 = 58
            · rw [if_pos c7] at H
              have c7b0 : (a0 == 58) = true := beq_iff_eq.mpr c7
              have c7b1 : (a0 != 58) = false := bne_eq_false_iff_eq.mpr c7
              clear c7
              have H' := Aside0.mk H
              clear H
              go_wp2
              go_meet
              case rel => exact ⟨_, ((a0 == 58)), (by first | rfl | (simp; done) | (simp [*]; done)), H', ⟨by first | omega | exact Nat.le_refl _⟩, by repeat (first | exact Drawn0.refl _ | apply Drawn0.step)⟩
            · rw [if_neg c7] at H
              have c7b0 : (a0 == 58) = false := beq_eq_false_iff_ne.mpr c7
              have c7b1 : (a0 != 58) = true := bne_iff_ne.mpr c7
              by_cases c8 : a0 = 44
              · rw [if_pos c8] at H
                have c8b0 : (a0 == 44) = true := beq_iff_eq.mpr c8
                have c8b1 : (a0 != 44) = false := bne_eq_false_iff_eq.mpr c8
                clear c8
                have H' := Aside0.mk H
                clear H
                go_wp2
                go_meet
                case rel => exact ⟨_, ((a0 == 44)), (by first | rfl | (simp; done) | (simp [*]; done)), H', ⟨by first | omega | exact Nat.le_refl _⟩, by repeat (first | exact Drawn0.refl _ | apply Drawn0.step)⟩
              · rw [if_neg c8] at H
                have c8b0 : (a0 == 44) = false := beq_eq_false_iff_ne.mpr c8
                have c8b1 : (a0 != 44) = true := bne_iff_ne.mpr c8
                by_cases c9 : a0 = 110
                · rw [if_pos c9] at H
                  have c9b0 : (a0 == 110) = true := beq_iff_eq.mpr c9
                  have c9b1 : (a0 != 110) = false := bne_eq_false_iff_eq.mpr c9
                  clear c9
                  have H' := Aside0.mk H
                  clear H
                  go_wp2
                  go_meet
                  case rel => exact ⟨_, ((a0 == 110)), (by first | rfl | (simp; done) | (simp [*]; done)), H', ⟨by first | omega | exact Nat.le_refl _⟩, by repeat (first | exact Drawn0.refl _ | apply Drawn0.step)⟩
                · rw [if_neg c9] at H
                  have c9b0 : (a0 == 110) = false := beq_eq_false_iff_ne.mpr c9
                  have c9b1 : (a0 != 110) = true := bne_iff_ne.mpr c9
                  by_cases c10 : a0 = 116
                  · rw [if_pos c10] at H
                    have c10b0 : (a0 == 116) = true := beq_iff_eq.mpr c10
                    have c10b1 : (a0 != 116) = false := bne_eq_false_iff_eq.mpr c10
                    clear c10
                    have H' := Aside0.mk H
                    clear H
                    go_wp2
                    go_meet
                    case rel => exact ⟨_, ((a0 == 116)), (by first | rfl | (simp; done) | (simp [*]; done)), H', ⟨by first | omega | exact Nat.le_refl _⟩, by repeat (first | exact Drawn0.refl _ | apply Drawn0.step)⟩
                  · rw [if_neg c10] at H
                    have c10b0 : (a0 == 116) = false := beq_eq_false_iff_ne.mpr c10
                    have c10b1 : (a0 != 116) = true := bne_iff_ne.mpr c10
                    have H' := Aside0.mk H
                    clear H
                    go_wp2
                    go_meet
                    case rel => exact ⟨_, ((a0 == 102)), (by first | rfl | (simp; done) | (simp [*]; done)), H', ⟨by first | omega | exact Nat.le_refl _⟩, by repeat (first | exact Drawn0.refl _ | apply Drawn0.step)⟩
  case rest =>
    clear HC2
    try clear c1
    try clear p2
    try clear c3
    try clear c3b0
    try clear c3b1
    try clear c4
    try clear c4b0
    try clear c4b1
    try clear c5
    try clear c5b0
    try clear c5b1
    try clear c6
    try clear c6b0
    try clear c6b1
    try clear c7
    try clear c7b0
    try clear c7b1
    try clear c8
    try clear c8b0
    try clear c8b1
    try clear c9
    try clear c9b0
    try clear c9b1
    try clear c10
    try clear c10b0
    try clear c10b1
    obtain ⟨kq, x4_1, rfl, HA, HJ1, ⟨mc1, rfl⟩⟩ := hcut
    cases kq with
    | zero => exact absurd HA.out (by simp [glossatorref14_Kind.j0])
    | succ kj1 =>
      have H := HA.out
      clear HA
      simp only [glossatorref14_Kind.j0] at H
      by_cases c11 : x4_1 = true
      · subst c11
        have H1 : (some a0) = some r := by rw [if_pos rfl] at H; exact H
        clear H
        have H := H1
        clear H1
        obtain rfl := Option.some.inj H
        go_wp2
        go_ret
        exact ⟨by first | rfl | (simp; done) | (simp [*]; done), by repeat (first | exact Drawn0.refl _ | apply Drawn0.step)⟩
      · replace c11 := Bool.eq_false_iff.mpr c11
        subst c11
        have H1 : (if a0 = 34 then (some 83) else (if a0 = 45 then (some 78) else (if a0 = 48 then (some 78) else (if a0 = 49 then (some 78) else (if a0 = 50 then (some 78) else (if a0 = 51 then (some 78) else (if a0 = 52 then (some 78) else (if a0 = 53 then (some 78) else (if a0 = 54 then (some 78) else (if a0 = 55 then (some 78) else (if a0 = 56 then (some 78) else (if a0 = 57 then (some 78) else (some 63))))))))))))) = some r := by rw [if_neg (show ¬ (false = true) by decide)] at H; exact H
        clear H
        have H := H1
        clear H1
        by_cases c12 : a0 = 34
        · rw [if_pos c12] at H
          have c12b0 : (a0 == 34) = true := beq_iff_eq.mpr c12
          have c12b1 : (a0 != 34) = false := bne_eq_false_iff_eq.mpr c12
          clear c12
          obtain rfl := Option.some.inj H
          go_wp2
          go_ret
          exact ⟨by first | rfl | (simp; done) | (simp [*]; done), by repeat (first | exact Drawn0.refl _ | apply Drawn0.step)⟩
        · rw [if_neg c12] at H
          have c12b0 : (a0 == 34) = false := beq_eq_false_iff_ne.mpr c12
          have c12b1 : (a0 != 34) = true := bne_iff_ne.mpr c12
          by_cases c13 : a0 = 45
          · rw [if_pos c13] at H
            have c13b0 : (a0 == 45) = true := beq_iff_eq.mpr c13
            have c13b1 : (a0 != 45) = false := bne_eq_false_iff_eq.mpr c13
            clear c13
            obtain rfl := Option.some.inj H
            go_wp2
            go_ret
            exact ⟨by first | rfl | (simp; done) | (simp [*]; done), by repeat (first | exact Drawn0.refl _ | apply Drawn0.step)⟩
          · rw [if_neg c13] at H
            have c13b0 : (a0 == 45) = false := beq_eq_false_iff_ne.mpr c13
            have c13b1 : (a0 != 45) = true := bne_iff_ne.mpr c13
            by_cases c14 : a0 = 48
            · rw [if_pos c14] at H
              have c14b0 : (a0 == 48) = true := beq_iff_eq.mpr c14
              have c14b1 : (a0 != 48) = false := bne_eq_false_iff_eq.mpr c14
              clear c14
              obtain rfl := Option.some.inj H
              go_wp2
              go_ret
              exact ⟨by first | rfl | (simp; done) | (simp [*]; done), by repeat (first | exact Drawn0.refl _ | apply Drawn0.step)⟩
            · rw [if_neg c14] at H
              have c14b0 : (a0 == 48) = false := beq_eq_false_iff_ne.mpr c14
              have c14b1 : (a0 != 48) = true := bne_iff_ne.mpr c14
              by_cases c15 : a0 = 49
              · rw [if_pos c15] at H
                have c15b0 : (a0 == 49) = true := beq_iff_eq.mpr c15
                have c15b1 : (a0 != 49) = false := bne_eq_false_iff_eq.mpr c15
                clear c15
                obtain rfl := Option.some.inj H
                go_wp2
                go_ret
                exact ⟨by first | rfl | (simp; done) | (simp [*]; done), by repeat (first | exact Drawn0.refl _ | apply Drawn0.step)⟩
              · rw [if_neg c15] at H
                have c15b0 : (a0 == 49) = false := beq_eq_false_iff_ne.mpr c15
                have c15b1 : (a0 != 49) = true := bne_iff_ne.mpr c15
                by_cases c16 : a0 = 50
                · rw [if_pos c16] at H
                  have c16b0 : (a0 == 50) = true := beq_iff_eq.mpr c16
                  have c16b1 : (a0 != 50) = false := bne_eq_false_iff_eq.mpr c16
                  clear c16
                  obtain rfl := Option.some.inj H
                  go_wp2
                  go_ret
                  exact ⟨by first | rfl | (simp; done) | (simp [*]; done), by repeat (first | exact Drawn0.refl _ | apply Drawn0.step)⟩
                · rw [if_neg c16] at H
                  have c16b0 : (a0 == 50) = false := beq_eq_false_iff_ne.mpr c16
                  have c16b1 : (a0 != 50) = true := bne_iff_ne.mpr c16
                  by_cases c17 : a0 = 51
                  · rw [if_pos c17] at H
                    have c17b0 : (a0 == 51) = true := beq_iff_eq.mpr c17
                    have c17b1 : (a0 != 51) = false := bne_eq_false_iff_eq.mpr c17
                    clear c17
                    obtain rfl := Option.some.inj H
                    go_wp2
                    go_ret
                    exact ⟨by first | rfl | (simp; done) | (simp [*]; done), by repeat (first | exact Drawn0.refl _ | apply Drawn0.step)⟩
                  · rw [if_neg c17] at H
                    have c17b0 : (a0 == 51) = false := beq_eq_false_iff_ne.mpr c17
                    have c17b1 : (a0 != 51) = true := bne_iff_ne.mpr c17
                    by_cases c18 : a0 = 52
                    · rw [if_pos c18] at H
                      have c18b0 : (a0 == 52) = true := beq_iff_eq.mpr c18
                      have c18b1 : (a0 != 52) = false := bne_eq_false_iff_eq.mpr c18
                      clear c18
                      obtain rfl := Option.some.inj H
                      go_wp2
                      go_ret
                      exact ⟨by first | rfl | (simp; done) | (simp [*]; done), by repeat (first | exact Drawn0.refl _ | apply Drawn0.step)⟩
                    · rw [if_neg c18] at H
                      have c18b0 : (a0 == 52) = false := beq_eq_false_iff_ne.mpr c18
                      have c18b1 : (a0 != 52) = true := bne_iff_ne.mpr c18
                      by_cases c19 : a0 = 53
                      · rw [if_pos c19] at H
                        have c19b0 : (a0 == 53) = true := beq_iff_eq.mpr c19
                        have c19b1 : (a0 != 53) = false := bne_eq_false_iff_eq.mpr c19
                        clear c19
                        obtain rfl := Option.some.inj H
                        go_wp2
                        go_ret
                        exact ⟨by first | rfl | (simp; done) | (simp [*]; done), by repeat (first | exact Drawn0.refl _ | apply Drawn0.step)⟩
                      · rw [if_neg c19] at H
                        have c19b0 : (a0 == 53) = false := beq_eq_false_iff_ne.mpr c19
                        have c19b1 : (a0 != 53) = true := bne_iff_ne.mpr c19
                        by_cases c20 : a0 = 54
                        · rw [if_pos c20] at H
                          have c20b0 : (a0 == 54) = true := beq_iff_eq.mpr c20
                          have c20b1 : (a0 != 54) = false := bne_eq_false_iff_eq.mpr c20
                          clear c20
                          obtain rfl := Option.some.inj H
                          go_wp2
                          go_ret
                          exact ⟨by first | rfl | (simp; done) | (simp [*]; done), by repeat (first | exact Drawn0.refl _ | apply Drawn0.step)⟩
                        · rw [if_neg c20] at H
                          have c20b0 : (a0 == 54) = false := beq_eq_false_iff_ne.mpr c20
                          have c20b1 : (a0 != 54) = true := bne_iff_ne.mpr c20
                          by_cases c21 : a0 = 55
                          · rw [if_pos c21] at H
                            have c21b0 : (a0 == 55) = true := beq_iff_eq.mpr c21
                            have c21b1 : (a0 != 55) = false := bne_eq_false_iff_eq.mpr c21
                            clear c21
                            obtain rfl := Option.some.inj H
                            go_wp2
                            go_ret
                            exact ⟨by first | rfl | (simp; done) | (simp [*]; done), by repeat (first | exact Drawn0.refl _ | apply Drawn0.step)⟩
                          · rw [if_neg c21] at H
                            have c21b0 : (a0 == 55) = false := beq_eq_false_iff_ne.mpr c21
                            have c21b1 : (a0 != 55) = true := bne_iff_ne.mpr c21
                            by_cases c22 : a0 = 56
                            · rw [if_pos c22] at H
                              have c22b0 : (a0 == 56) = true := beq_iff_eq.mpr c22
                              have c22b1 : (a0 != 56) = false := bne_eq_false_iff_eq.mpr c22
                              clear c22
                              obtain rfl := Option.some.inj H
                              go_wp2
                              go_ret
                              exact ⟨by first | rfl | (simp; done) | (simp [*]; done), by repeat (first | exact Drawn0.refl _ | apply Drawn0.step)⟩
                            · rw [if_neg c22] at H
                              have c22b0 : (a0 == 56) = false := beq_eq_false_iff_ne.mpr c22
                              have c22b1 : (a0 != 56) = true := bne_iff_ne.mpr c22
                              by_cases c23 : a0 = 57
                              · rw [if_pos c23] at H
                                have c23b0 : (a0 == 57) = true := beq_iff_eq.mpr c23
                                have c23b1 : (a0 != 57) = false := bne_eq_false_iff_eq.mpr c23
                                clear c23
                                obtain rfl := Option.some.inj H
                                go_wp2
                                go_ret
                                exact ⟨by first | rfl | (simp; done) | (simp [*]; done), by repeat (first | exact Drawn0.refl _ | apply Drawn0.step)⟩
                              · rw [if_neg c23] at H
                                have c23b0 : (a0 == 57) = false := beq_eq_false_iff_ne.mpr c23
                                have c23b1 : (a0 != 57) = true := bne_iff_ne.mpr c23
                                obtain rfl := Option.some.inj H
                                go_wp2
                                go_ret
                                exact ⟨by first | rfl | (simp; done) | (simp [*]; done), by repeat (first | exact Drawn0.refl _ | apply Drawn0.step)⟩

end Go.Proofs.Ytlbokaekhjjabaa.T

-- Written by a program of this session (joint.sh) out of the translation. Not trusted: Lean checks it.
namespace Go.Proofs.Ytlbokaekhjjabaa.T
open Go.RowKit Go.Proofs.YtlbokaekhjjabaaW.PrintWords Go.Proofs.YtlbokaekhjjabaaW.PrintLast Go.Proofs.YtlbokaekhjjabaaW.PrintMore
attribute [local go_sem] max2_int min2_int max_two min_two max_three min_three max_four min_four   -- for this text's walks alone
set_option linter.unusedVariables false
set_option linter.unusedSimpArgs false

/-! ### glossatorref07_run: function 76 -/
def glossatorref07_run.l0 : Nat → ByteArray → Int → Int → Option (Int)
  | 0, _, _, _ => none
  | k + 1, x0, x1, x5 => if (wrap64 (x1 + x5)) < (x0.size : Int) then (if 0 ≤ (wrap64 (x1 + x5)) then (if (bt x0 (wrap64 (x1 + x5))) ≥ 48 then (if (bt x0 (wrap64 (x1 + x5))) ≤ 57 then (glossatorref07_run.l0 k x0 x1 (wrap64 (x5 + 1))) else (some x5)) else (some x5)) else (none)) else (some x5)
def glossatorref07_run.f (k : Nat) (a0 : ByteArray) (a1 : Int) : Option (Int) := glossatorref07_run.l0 k a0 a1 0
theorem glossatorref07_run.mono_l : ∀ k, (∀ y0 y1 y2, LeO (glossatorref07_run.l0 k y0 y1 y2) (glossatorref07_run.l0 (k + 1) y0 y1 y2))
  | 0 => fun _ _ _ r h => by simp [glossatorref07_run.l0] at h
  | k + 1 => by
    have ih0 := glossatorref07_run.mono_l k
    · intro y0 y1 y2
      unfold glossatorref07_run.l0
      repeat' first
      | (with_reducible exact ih0 _ _ _)
      | (with_reducible exact LeO.refl _)
      | (with_reducible exact LeO.none _)
      | (with_reducible refine LeO.ite ?_ ?_)
      | (with_reducible refine LeO.bind ?_ (fun _ => ?_))
      | exact ih0 _ _ _
      | exact LeO.none _
      | refine LeO.ite ?_ ?_
      | refine LeO.bind ?_ (fun _ => ?_)
theorem glossatorref07_run.mono : ∀ a0 a1 k, LeO (glossatorref07_run.f k a0 a1) (glossatorref07_run.f (k + 1) a0 a1) := by
  intro a0 a1 k
  have ih0 := glossatorref07_run.mono_l k
  unfold glossatorref07_run.f
  repeat' first
      | (with_reducible exact ih0 _ _ _)
      | (with_reducible exact LeO.refl _)
      | (with_reducible exact LeO.none _)
      | (with_reducible refine LeO.ite ?_ ?_)
      | (with_reducible refine LeO.bind ?_ (fun _ => ?_))
      | exact ih0 _ _ _
      | exact LeO.none _
      | refine LeO.ite ?_ ?_
      | refine LeO.bind ?_ (fun _ => ?_)
set_option maxHeartbeats 8000000 in
set_option maxRecDepth 100000 in
theorem glossatorref07_run.calls (k : Nat) (a0 : ByteArray) (a1 : Int) (r : Int) (w : World) (h : glossatorref07_run.f k a0 a1 = some r) :
    Calls Try.prog 76 #[.string a0, .int .i64 a1] w fun e w' => e = .returned (.int .i64 r) ∧ Drawn0 w w' := by
  have H : (glossatorref07_run.l0 k a0 a1 0) = some r := h
  clear h
  have H' := Aside0.mk H
  clear H
  go_enter Try.func76, Try.ntmps76
  go_wp2
  go_loopg [5] k (fun kq v5 w' => ∃ (x5_1 : Int), v5 = .int .i64 x5_1 ∧ Aside0 (glossatorref07_run.l0 kq a0 a1 x5_1 = some r) ∧ Aside0 (kq ≤ k) ∧ Drawn0 w w')
  case atStart => exact ⟨(0), (by first | rfl | (simp; done) | (simp [*]; done)), H', ⟨Nat.le_refl _⟩, by repeat (first | exact Drawn0.refl _ | apply Drawn0.step)⟩
  case round =>
    clear H'
    try clear p2
    obtain ⟨x5_1, rfl, HA, HK1, ⟨m1, rfl⟩⟩ := hrel
    cases gk with
    | zero => exact absurd HA.out (by simp [glossatorref07_run.l0])
    | succ k1 =>
      have H := HA.out
      clear HA
      simp only [glossatorref07_run.l0] at H
      by_cases c3 : (wrap64 (a1 + x5_1)) < (a0.size : Int)
      · rw [if_pos c3] at H
        have c3b0 : decide ((wrap64 (a1 + x5_1)) < (a0.size : Int)) = true := decide_eq_true c3
        clear c3
        obtain ⟨ji4, hji4⟩ : ∃ j_ : Int, (wrap64 (a1 + x5_1)) = j_ := ⟨_, rfl⟩
        replace H : (if 0 ≤ (ji4) then (if (bt a0 (ji4)) ≥ 48 then (if (bt a0 (ji4)) ≤ 57 then (glossatorref07_run.l0 k1 a0 a1 (wrap64 (x5_1 + 1))) else (some x5_1)) else (some x5_1)) else (none)) = some r := by first | (rw [hji4] at H; exact H) | (simp only [hji4] at H ⊢; exact H)
        (try rw [hji4] at c3b0)
        have hji4w : (IntKind.i64.wrap (a1 + x5_1)) = ji4 := (i64_w _).trans hji4
        by_cases c5 : 0 ≤ (ji4)
        · rw [if_pos c5] at H
          have c5b0 : decide (0 ≤ (ji4)) = true := decide_eq_true c5
          clear c5
          by_cases c7 : (bt a0 (ji4)) ≥ 48
          · rw [if_pos c7] at H
            have c7b0 : decide (48 ≤ (bt a0 (ji4))) = true := decide_eq_true c7
            clear c7
            by_cases c9 : (bt a0 (ji4)) ≤ 57
            · rw [if_pos c9] at H
              have c9b0 : decide ((bt a0 (ji4)) ≤ 57) = true := decide_eq_true c9
              clear c9
              have H' := Aside0.mk H
              clear H
              have p6 : 0 ≤ ((ji4) : Int) := of_decide_eq_true (by first | (with_reducible assumption) | assumption)
              have q6 : (ji4) < (a0.size : Int) := of_decide_eq_true (by first | (with_reducible assumption) | assumption)
              have hx6 := bt_at a0 (ji4)
              replace p6 := eq_true p6
              replace q6 := eq_true q6
              have p8 : 0 ≤ ((ji4) : Int) := of_decide_eq_true (by first | (with_reducible assumption) | assumption)
              have q8 : (ji4) < (a0.size : Int) := of_decide_eq_true (by first | (with_reducible assumption) | assumption)
              have hx8 := bt_at a0 (ji4)
              replace p8 := eq_true p8
              replace q8 := eq_true q8
              go_wp2
              go_roundg k1
              case measure => have := HK1.out; omega
              case rel => exact ⟨(wrap64 (x5_1 + 1)), (by first | rfl | (simp; done) | (simp [*]; done)), H', ⟨by have := HK1.out; omega⟩, by repeat (first | exact Drawn0.refl _ | apply Drawn0.step)⟩
            · rw [if_neg c9] at H
              have c9b0 : decide ((bt a0 (ji4)) ≤ 57) = false := decide_eq_false c9
              clear c9
              obtain rfl := Option.some.inj H
              have p6 : 0 ≤ ((ji4) : Int) := of_decide_eq_true (by first | (with_reducible assumption) | assumption)
              have q6 : (ji4) < (a0.size : Int) := of_decide_eq_true (by first | (with_reducible assumption) | assumption)
              have hx6 := bt_at a0 (ji4)
              replace p6 := eq_true p6
              replace q6 := eq_true q6
              have p8 : 0 ≤ ((ji4) : Int) := of_decide_eq_true (by first | (with_reducible assumption) | assumption)
              have q8 : (ji4) < (a0.size : Int) := of_decide_eq_true (by first | (with_reducible assumption) | assumption)
              have hx8 := bt_at a0 (ji4)
              replace p8 := eq_true p8
              replace q8 := eq_true q8
              go_wp2
              go_ret
              exact ⟨by first | rfl | (simp; done) | (simp only [← hji4] <;> (first | rfl | simp)) | (simp [*]; done), by repeat (first | exact Drawn0.refl _ | apply Drawn0.step)⟩
          · rw [if_neg c7] at H
            have c7b0 : decide (48 ≤ (bt a0 (ji4))) = false := decide_eq_false c7
            clear c7
            obtain rfl := Option.some.inj H
            have p6 : 0 ≤ ((ji4) : Int) := of_decide_eq_true (by first | (with_reducible assumption) | assumption)
            have q6 : (ji4) < (a0.size : Int) := of_decide_eq_true (by first | (with_reducible assumption) | assumption)
            have hx6 := bt_at a0 (ji4)
            replace p6 := eq_true p6
            replace q6 := eq_true q6
            go_wp2
            go_ret
            exact ⟨by first | rfl | (simp; done) | (simp only [← hji4] <;> (first | rfl | simp)) | (simp [*]; done), by repeat (first | exact Drawn0.refl _ | apply Drawn0.step)⟩
        · rw [if_neg c5] at H
          exact absurd H (by simp)
      · rw [if_neg c3] at H
        have c3b0 : decide ((wrap64 (a1 + x5_1)) < (a0.size : Int)) = false := decide_eq_false c3
        clear c3
        obtain rfl := Option.some.inj H
        go_wp2
        go_ret
        exact ⟨by first | rfl | (simp; done) | (simp [*]; done), by repeat (first | exact Drawn0.refl _ | apply Drawn0.step)⟩

end Go.Proofs.Ytlbokaekhjjabaa.T

-- Written by a program of this session (joint.sh) out of the translation. Not trusted: Lean checks it.
namespace Go.Proofs.Ytlbokaekhjjabaa.T
open Go.RowKit Go.Proofs.YtlbokaekhjjabaaW.PrintWords Go.Proofs.YtlbokaekhjjabaaW.PrintLast Go.Proofs.YtlbokaekhjjabaaW.PrintMore
attribute [local go_sem] max2_int min2_int max_two min_two max_three min_three max_four min_four   -- for this text's walks alone
set_option linter.unusedVariables false
set_option linter.unusedSimpArgs false

/-! ### glossatorref07_bad: function 77 -/
def glossatorref07_bad.f (a0 : ByteArray) (a1 : Int) : Option (Int × Int) := if a1 ≥ (a0.size : Int) then (some ((a0.size : Int), 3)) else (some (a1, 4))
set_option maxHeartbeats 8000000 in
set_option maxRecDepth 100000 in
theorem glossatorref07_bad.calls (a0 : ByteArray) (a1 : Int) (r1 : Int) (r2 : Int) (w : World) (h : glossatorref07_bad.f a0 a1 = some (r1, r2)) :
    Calls Try.prog 77 #[.string a0, .int .i64 a1] w fun e w' => e = .returned (.tuple #[.int .i64 r1, .int .i64 r2]) ∧ Drawn0 w w' := by
  have H : (if a1 ≥ (a0.size : Int) then (some ((a0.size : Int), 3)) else (some (a1, 4))) = some (r1, r2) := h
  clear h
  by_cases c3 : a1 ≥ (a0.size : Int)
  · rw [if_pos c3] at H
    have c3b0 : decide ((a0.size : Int) ≤ a1) = true := decide_eq_true c3
    clear c3
    simp only [Option.some.injEq, Prod.mk.injEq] at H
    obtain ⟨rfl, rfl⟩ := H
    go_enter Try.func77, Try.ntmps77
    go_wp2
    go_ret2
    exact ⟨by first | rfl | (simp; done) | (simp [*]; done), by repeat (first | exact Drawn0.refl _ | apply Drawn0.step)⟩
  · rw [if_neg c3] at H
    have c3b0 : decide ((a0.size : Int) ≤ a1) = false := decide_eq_false c3
    clear c3
    simp only [Option.some.injEq, Prod.mk.injEq] at H
    obtain ⟨rfl, rfl⟩ := H
    go_enter Try.func77, Try.ntmps77
    go_wp2
    go_ret2
    exact ⟨by first | rfl | (simp; done) | (simp [*]; done), by repeat (first | exact Drawn0.refl _ | apply Drawn0.step)⟩

end Go.Proofs.Ytlbokaekhjjabaa.T
