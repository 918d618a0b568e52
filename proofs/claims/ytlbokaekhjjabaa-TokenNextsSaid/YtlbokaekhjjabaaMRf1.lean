import Derived.BigQuiet
import Derived.Test.YtlbokaekhjjabaaRows
import Derived.WalkKit
import Derived.ProofKit
import Derived.OpenShut
import Derived.ShutString
import Derived.ChangeOld
import Derived.Below
import Derived.SizedLaws
import Derived.Test.YtlbokaekhjjabaaMTk0
import Derived.Test.YtlbokaekhjjabaaMTk1
import Derived.Test.YtlbokaekhjjabaaMTk2
import Derived.Test.YtlbokaekhjjabaaMTk3
import Derived.Test.YtlbokaekhjjabaaMRf0
-- Written by a program of this session (joint.sh) out of the translation. Not trusted: Lean checks it.
namespace Go.Proofs.Ytlbokaekhjjabaa.T
open Go.RowKit Go.Proofs.YtlbokaekhjjabaaW.PrintWords Go.Proofs.YtlbokaekhjjabaaW.PrintLast Go.Proofs.YtlbokaekhjjabaaW.PrintMore
attribute [local go_sem] max2_int min2_int max_two min_two max_three min_three max_four min_four   -- for this text's walks alone
set_option linter.unusedVariables false
set_option linter.unusedSimpArgs false

/-! ### glossatorref07_Scan: function 65 -/
mutual
def glossatorref07_Scan.j0 : Nat → ByteArray → Int → Bool → Option (Int × Int)
  | 0, _, _, _ => none
  | k + 1, x0, x4, x12 => if x12 = true then (glossatorref07_Scan.j1 k x0 1) else (glossatorref07_Scan.j1 k x0 x4)
def glossatorref07_Scan.j1 : Nat → ByteArray → Int → Option (Int × Int)
  | 0, _, _ => none
  | k + 1, x0, x4 => (glossatorref07_run.f k x0 x4).bind fun t130 => (if t130 = 0 then ((glossatorref07_bad.f x0 x4).bind fun bt131 => (some (bt131.1, bt131.2))) else (if 0 ≤ x4 then (if x4 < (x0.size : Int) then (if (bt x0 x4) = 48 then (glossatorref07_Scan.j2 k x0 x4 1) else (glossatorref07_Scan.j2 k x0 x4 t130)) else (none)) else (none)))
def glossatorref07_Scan.j2 : Nat → ByteArray → Int → Int → Option (Int × Int)
  | 0, _, _, _ => none
  | k + 1, x0, x4, x5 => if (wrap64 (x4 + x5)) < (x0.size : Int) then (if 0 ≤ (wrap64 (x4 + x5)) then (glossatorref07_Scan.j3 k x0 (wrap64 (x4 + x5)) ((bt x0 (wrap64 (x4 + x5))) == 46)) else (none)) else (glossatorref07_Scan.j3 k x0 (wrap64 (x4 + x5)) false)
def glossatorref07_Scan.j3 : Nat → ByteArray → Int → Bool → Option (Int × Int)
  | 0, _, _, _ => none
  | k + 1, x0, x4, x39 => if x39 = true then ((glossatorref07_run.f k x0 (wrap64 (x4 + 1))).bind fun t133 => (if t133 = 0 then ((glossatorref07_bad.f x0 (wrap64 (x4 + 1))).bind fun bt134 => (some (bt134.1, bt134.2))) else (glossatorref07_Scan.j4 k x0 (wrap64 ((wrap64 (x4 + 1)) + t133))))) else (glossatorref07_Scan.j4 k x0 x4)
def glossatorref07_Scan.j4 : Nat → ByteArray → Int → Option (Int × Int)
  | 0, _, _ => none
  | k + 1, x0, x4 => if x4 < (x0.size : Int) then (if 0 ≤ x4 then (if (bt x0 x4) = 101 then (glossatorref07_Scan.j5 k x0 x4 true) else (glossatorref07_Scan.j5 k x0 x4 ((bt x0 x4) == 69))) else (none)) else (glossatorref07_Scan.j5 k x0 x4 false)
def glossatorref07_Scan.j5 : Nat → ByteArray → Int → Bool → Option (Int × Int)
  | 0, _, _, _ => none
  | k + 1, x0, x4, x71 => if x71 = true then (if (wrap64 (x4 + 1)) < (x0.size : Int) then (if 0 ≤ (wrap64 (x4 + 1)) then (if (bt x0 (wrap64 (x4 + 1))) = 43 then (glossatorref07_Scan.j6 k x0 (wrap64 (x4 + 1)) true) else (glossatorref07_Scan.j6 k x0 (wrap64 (x4 + 1)) ((bt x0 (wrap64 (x4 + 1))) == 45))) else (none)) else (glossatorref07_Scan.j6 k x0 (wrap64 (x4 + 1)) false)) else (some (x4, 0))
def glossatorref07_Scan.j6 : Nat → ByteArray → Int → Bool → Option (Int × Int)
  | 0, _, _, _ => none
  | k + 1, x0, x4, x89 => if x89 = true then (glossatorref07_Scan.j7 k x0 (wrap64 (x4 + 1))) else (glossatorref07_Scan.j7 k x0 x4)
def glossatorref07_Scan.j7 : Nat → ByteArray → Int → Option (Int × Int)
  | 0, _, _ => none
  | k + 1, x0, x4 => (glossatorref07_run.f k x0 x4).bind fun t136 => (if t136 = 0 then ((glossatorref07_bad.f x0 x4).bind fun bt137 => (some (bt137.1, bt137.2))) else (some (wrap64 (x4 + t136), 0)))
end
def glossatorref07_Scan.f (k : Nat) (a0 : ByteArray) : Option (Int × Int) := if a0.toList = ([] : List UInt8) then (glossatorref07_Scan.j0 k a0 0 false) else (if 0 < (a0.size : Int) then (glossatorref07_Scan.j0 k a0 0 ((bt a0 0) == 45)) else (none))
theorem glossatorref07_Scan.mono_l : ∀ k, (∀ y0 y1 y2, LeO (glossatorref07_Scan.j0 k y0 y1 y2) (glossatorref07_Scan.j0 (k + 1) y0 y1 y2)) ∧ (∀ y0 y1, LeO (glossatorref07_Scan.j1 k y0 y1) (glossatorref07_Scan.j1 (k + 1) y0 y1)) ∧ (∀ y0 y1 y2, LeO (glossatorref07_Scan.j2 k y0 y1 y2) (glossatorref07_Scan.j2 (k + 1) y0 y1 y2)) ∧ (∀ y0 y1 y2, LeO (glossatorref07_Scan.j3 k y0 y1 y2) (glossatorref07_Scan.j3 (k + 1) y0 y1 y2)) ∧ (∀ y0 y1, LeO (glossatorref07_Scan.j4 k y0 y1) (glossatorref07_Scan.j4 (k + 1) y0 y1)) ∧ (∀ y0 y1 y2, LeO (glossatorref07_Scan.j5 k y0 y1 y2) (glossatorref07_Scan.j5 (k + 1) y0 y1 y2)) ∧ (∀ y0 y1 y2, LeO (glossatorref07_Scan.j6 k y0 y1 y2) (glossatorref07_Scan.j6 (k + 1) y0 y1 y2)) ∧ (∀ y0 y1, LeO (glossatorref07_Scan.j7 k y0 y1) (glossatorref07_Scan.j7 (k + 1) y0 y1))
  | 0 => ⟨fun _ _ _ r h => by simp [glossatorref07_Scan.j0] at h, fun _ _ r h => by simp [glossatorref07_Scan.j1] at h, fun _ _ _ r h => by simp [glossatorref07_Scan.j2] at h, fun _ _ _ r h => by simp [glossatorref07_Scan.j3] at h, fun _ _ r h => by simp [glossatorref07_Scan.j4] at h, fun _ _ _ r h => by simp [glossatorref07_Scan.j5] at h, fun _ _ _ r h => by simp [glossatorref07_Scan.j6] at h, fun _ _ r h => by simp [glossatorref07_Scan.j7] at h⟩
  | k + 1 => by
    obtain ⟨ih0, ih1, ih2, ih3, ih4, ih5, ih6, ih7⟩ := glossatorref07_Scan.mono_l k
    refine ⟨?_, ?_, ?_, ?_, ?_, ?_, ?_, ?_⟩
    · intro y0 y1 y2
      unfold glossatorref07_Scan.j0
      repeat' first
      | (with_reducible exact ih0 _ _ _)
      | (with_reducible exact ih1 _ _)
      | (with_reducible exact ih2 _ _ _)
      | (with_reducible exact ih3 _ _ _)
      | (with_reducible exact ih4 _ _)
      | (with_reducible exact ih5 _ _ _)
      | (with_reducible exact ih6 _ _ _)
      | (with_reducible exact ih7 _ _)
      | (with_reducible exact glossatorref07_run.mono _ _ _)
      | (with_reducible exact LeO.refl _)
      | (with_reducible exact LeO.none _)
      | (with_reducible refine LeO.ite ?_ ?_)
      | (with_reducible refine LeO.bind ?_ (fun _ => ?_))
      | exact ih0 _ _ _
      | exact ih1 _ _
      | exact ih2 _ _ _
      | exact ih3 _ _ _
      | exact ih4 _ _
      | exact ih5 _ _ _
      | exact ih6 _ _ _
      | exact ih7 _ _
      | exact glossatorref07_run.mono _ _ _
      | exact LeO.none _
      | refine LeO.ite ?_ ?_
      | refine LeO.bind ?_ (fun _ => ?_)
    · intro y0 y1
      unfold glossatorref07_Scan.j1
      repeat' first
      | (with_reducible exact ih0 _ _ _)
      | (with_reducible exact ih1 _ _)
      | (with_reducible exact ih2 _ _ _)
      | (with_reducible exact ih3 _ _ _)
      | (with_reducible exact ih4 _ _)
      | (with_reducible exact ih5 _ _ _)
      | (with_reducible exact ih6 _ _ _)
      | (with_reducible exact ih7 _ _)
      | (with_reducible exact glossatorref07_run.mono _ _ _)
      | (with_reducible exact LeO.refl _)
      | (with_reducible exact LeO.none _)
      | (with_reducible refine LeO.ite ?_ ?_)
      | (with_reducible refine LeO.bind ?_ (fun _ => ?_))
      | exact ih0 _ _ _
      | exact ih1 _ _
      | exact ih2 _ _ _
      | exact ih3 _ _ _
      | exact ih4 _ _
      | exact ih5 _ _ _
      | exact ih6 _ _ _
      | exact ih7 _ _
      | exact glossatorref07_run.mono _ _ _
      | exact LeO.none _
      | refine LeO.ite ?_ ?_
      | refine LeO.bind ?_ (fun _ => ?_)
    · intro y0 y1 y2
      unfold glossatorref07_Scan.j2
      repeat' first
      | (with_reducible exact ih0 _ _ _)
      | (with_reducible exact ih1 _ _)
      | (with_reducible exact ih2 _ _ _)
      | (with_reducible exact ih3 _ _ _)
      | (with_reducible exact ih4 _ _)
      | (with_reducible exact ih5 _ _ _)
      | (with_reducible exact ih6 _ _ _)
      | (with_reducible exact ih7 _ _)
      | (with_reducible exact glossatorref07_run.mono _ _ _)
      | (with_reducible exact LeO.refl _)
      | (with_reducible exact LeO.none _)
      | (with_reducible refine LeO.ite ?_ ?_)
      | (with_reducible refine LeO.bind ?_ (fun _ => ?_))
      | exact ih0 _ _ _
      | exact ih1 _ _
      | exact ih2 _ _ _
      | exact ih3 _ _ _
      | exact ih4 _ _
      | exact ih5 _ _ _
      | exact ih6 _ _ _
      | exact ih7 _ _
      | exact glossatorref07_run.mono _ _ _
      | exact LeO.none _
      | refine LeO.ite ?_ ?_
      | refine LeO.bind ?_ (fun _ => ?_)
    · intro y0 y1 y2
      unfold glossatorref07_Scan.j3
      repeat' first
      | (with_reducible exact ih0 _ _ _)
      | (with_reducible exact ih1 _ _)
      | (with_reducible exact ih2 _ _ _)
      | (with_reducible exact ih3 _ _ _)
      | (with_reducible exact ih4 _ _)
      | (with_reducible exact ih5 _ _ _)
      | (with_reducible exact ih6 _ _ _)
      | (with_reducible exact ih7 _ _)
      | (with_reducible exact glossatorref07_run.mono _ _ _)
      | (with_reducible exact LeO.refl _)
      | (with_reducible exact LeO.none _)
      | (with_reducible refine LeO.ite ?_ ?_)
      | (with_reducible refine LeO.bind ?_ (fun _ => ?_))
      | exact ih0 _ _ _
      | exact ih1 _ _
      | exact ih2 _ _ _
      | exact ih3 _ _ _
      | exact ih4 _ _
      | exact ih5 _ _ _
      | exact ih6 _ _ _
      | exact ih7 _ _
      | exact glossatorref07_run.mono _ _ _
      | exact LeO.none _
      | refine LeO.ite ?_ ?_
      | refine LeO.bind ?_ (fun _ => ?_)
    · intro y0 y1
      unfold glossatorref07_Scan.j4
      repeat' first
      | (with_reducible exact ih0 _ _ _)
      | (with_reducible exact ih1 _ _)
      | (with_reducible exact ih2 _ _ _)
      | (with_reducible exact ih3 _ _ _)
      | (with_reducible exact ih4 _ _)
      | (with_reducible exact ih5 _ _ _)
      | (with_reducible exact ih6 _ _ _)
      | (with_reducible exact ih7 _ _)
      | (with_reducible exact glossatorref07_run.mono _ _ _)
      | (with_reducible exact LeO.refl _)
      | (with_reducible exact LeO.none _)
      | (with_reducible refine LeO.ite ?_ ?_)
      | (with_reducible refine LeO.bind ?_ (fun _ => ?_))
      | exact ih0 _ _ _
      | exact ih1 _ _
      | exact ih2 _ _ _
      | exact ih3 _ _ _
      | exact ih4 _ _
      | exact ih5 _ _ _
      | exact ih6 _ _ _
      | exact ih7 _ _
      | exact glossatorref07_run.mono _ _ _
      | exact LeO.none _
      | refine LeO.ite ?_ ?_
      | refine LeO.bind ?_ (fun _ => ?_)
    · intro y0 y1 y2
      unfold glossatorref07_Scan.j5
      repeat' first
      | (with_reducible exact ih0 _ _ _)
      | (with_reducible exact ih1 _ _)
      | (with_reducible exact ih2 _ _ _)
      | (with_reducible exact ih3 _ _ _)
      | (with_reducible exact ih4 _ _)
      | (with_reducible exact ih5 _ _ _)
      | (with_reducible exact ih6 _ _ _)
      | (with_reducible exact ih7 _ _)
      | (with_reducible exact glossatorref07_run.mono _ _ _)
      | (with_reducible exact LeO.refl _)
      | (with_reducible exact LeO.none _)
      | (with_reducible refine LeO.ite ?_ ?_)
      | (with_reducible refine LeO.bind ?_ (fun _ => ?_))
      | exact ih0 _ _ _
      | exact ih1 _ _
      | exact ih2 _ _ _
      | exact ih3 _ _ _
      | exact ih4 _ _
      | exact ih5 _ _ _
      | exact ih6 _ _ _
      | exact ih7 _ _
      | exact glossatorref07_run.mono _ _ _
      | exact LeO.none _
      | refine LeO.ite ?_ ?_
      | refine LeO.bind ?_ (fun _ => ?_)
    · intro y0 y1 y2
      unfold glossatorref07_Scan.j6
      repeat' first
      | (with_reducible exact ih0 _ _ _)
      | (with_reducible exact ih1 _ _)
      | (with_reducible exact ih2 _ _ _)
      | (with_reducible exact ih3 _ _ _)
      | (with_reducible exact ih4 _ _)
      | (with_reducible exact ih5 _ _ _)
      | (with_reducible exact ih6 _ _ _)
      | (with_reducible exact ih7 _ _)
      | (with_reducible exact glossatorref07_run.mono _ _ _)
      | (with_reducible exact LeO.refl _)
      | (with_reducible exact LeO.none _)
      | (with_reducible refine LeO.ite ?_ ?_)
      | (with_reducible refine LeO.bind ?_ (fun _ => ?_))
      | exact ih0 _ _ _
      | exact ih1 _ _
      | exact ih2 _ _ _
      | exact ih3 _ _ _
      | exact ih4 _ _
      | exact ih5 _ _ _
      | exact ih6 _ _ _
      | exact ih7 _ _
      | exact glossatorref07_run.mono _ _ _
      | exact LeO.none _
      | refine LeO.ite ?_ ?_
      | refine LeO.bind ?_ (fun _ => ?_)
    · intro y0 y1
      unfold glossatorref07_Scan.j7
      repeat' first
      | (with_reducible exact ih0 _ _ _)
      | (with_reducible exact ih1 _ _)
      | (with_reducible exact ih2 _ _ _)
      | (with_reducible exact ih3 _ _ _)
      | (with_reducible exact ih4 _ _)
      | (with_reducible exact ih5 _ _ _)
      | (with_reducible exact ih6 _ _ _)
      | (with_reducible exact ih7 _ _)
      | (with_reducible exact glossatorref07_run.mono _ _ _)
      | (with_reducible exact LeO.refl _)
      | (with_reducible exact LeO.none _)
      | (with_reducible refine LeO.ite ?_ ?_)
      | (with_reducible refine LeO.bind ?_ (fun _ => ?_))
      | exact ih0 _ _ _
      | exact ih1 _ _
      | exact ih2 _ _ _
      | exact ih3 _ _ _
      | exact ih4 _ _
      | exact ih5 _ _ _
      | exact ih6 _ _ _
      | exact ih7 _ _
      | exact glossatorref07_run.mono _ _ _
      | exact LeO.none _
      | refine LeO.ite ?_ ?_
      | refine LeO.bind ?_ (fun _ => ?_)
theorem glossatorref07_Scan.mono : ∀ a0 k, LeO (glossatorref07_Scan.f k a0) (glossatorref07_Scan.f (k + 1) a0) := by
  intro a0 k
  obtain ⟨ih0, ih1, ih2, ih3, ih4, ih5, ih6, ih7⟩ := glossatorref07_Scan.mono_l k
  unfold glossatorref07_Scan.f
  repeat' first
      | (with_reducible exact ih0 _ _ _)
      | (with_reducible exact ih1 _ _)
      | (with_reducible exact ih2 _ _ _)
      | (with_reducible exact ih3 _ _ _)
      | (with_reducible exact ih4 _ _)
      | (with_reducible exact ih5 _ _ _)
      | (with_reducible exact ih6 _ _ _)
      | (with_reducible exact ih7 _ _)
      | (with_reducible exact glossatorref07_run.mono _ _ _)
      | (with_reducible exact LeO.refl _)
      | (with_reducible exact LeO.none _)
      | (with_reducible refine LeO.ite ?_ ?_)
      | (with_reducible refine LeO.bind ?_ (fun _ => ?_))
      | exact ih0 _ _ _
      | exact ih1 _ _
      | exact ih2 _ _ _
      | exact ih3 _ _ _
      | exact ih4 _ _
      | exact ih5 _ _ _
      | exact ih6 _ _ _
      | exact ih7 _ _
      | exact glossatorref07_run.mono _ _ _
      | exact LeO.none _
      | refine LeO.ite ?_ ?_
      | refine LeO.bind ?_ (fun _ => ?_)
set_option maxHeartbeats 8000000 in
set_option maxRecDepth 100000 in
theorem glossatorref07_Scan.calls (k : Nat) (a0 : ByteArray) (r1 : Int) (r2 : Int) (w : World) (h : glossatorref07_Scan.f k a0 = some (r1, r2)) :
    Calls Try.prog 65 #[.string a0] w fun e w' => e = .returned (.tuple #[.int .i64 r1, .int .i64 r2]) ∧ Drawn0 w w' := by
  have H : (if a0.toList = ([] : List UInt8) then (glossatorref07_Scan.j0 k a0 0 false) else (if 0 < (a0.size : Int) then (glossatorref07_Scan.j0 k a0 0 ((bt a0 0) == 45)) else (none))) = some (r1, r2) := h
  clear h
  have HC2 := Aside0.mk H
  clear H
  go_enter Try.func65, Try.ntmps65
  go_upto_region 2 with (fail)
  go_cut [12] (fun v12 wc => ∃ (kq : Nat) (x12_1 : Bool), v12 = .bool x12_1 ∧ Aside0 (glossatorref07_Scan.j0 kq a0 0 x12_1 = some (r1, r2)) ∧ Aside0 (kq ≤ k) ∧ Drawn0 w wc)
  case first =>
    have H := HC2.out
    clear HC2
    by_cases c3 : a0.toList = ([] : List UInt8)
    · rw [if_pos c3] at H
      have c3b0 : (a0.toList == ([] : List UInt8)) = true := beq_iff_eq.mpr c3
      have c3b1 : (a0.toList != ([] : List UInt8)) = false := bne_eq_false_iff_eq.mpr c3
      clear c3
      (first | rw [c3b0] | (simp only [i64_w, i32_w]; rw [c3b0]) | skip)
      have H' := Aside0.mk H
      clear H
      go_wp2
      go_meet
      case rel => exact ⟨_, (false), (by first | rfl | (simp; done) | (simp [*]; done)), (by first | exact H' | (rw [hji35]; exact H')), ⟨by first | omega | exact Nat.le_refl _⟩, by repeat (first | exact Drawn0.refl _ | apply Drawn0.step)⟩
    · rw [if_neg c3] at H
      have c3b0 : (a0.toList == ([] : List UInt8)) = false := beq_eq_false_iff_ne.mpr c3
      have c3b1 : (a0.toList != ([] : List UInt8)) = true := bne_iff_ne.mpr c3
      (first | rw [c3b0] | (simp only [i64_w, i32_w]; rw [c3b0]) | skip)
      by_cases c4 : 0 < (a0.size : Int)
      · rw [if_pos c4] at H
        have c4b0 : decide (0 < (a0.size : Int)) = true := decide_eq_true c4
        have c4b1 : decide (0 < a0.size) = true := decide_eq_true (by omega)
        clear c4
        have H' := Aside0.mk H
        clear H
        have p5 : 0 ≤ (0 : Int) := (by omega)
        have q5 : 0 < a0.size := (by have : (0 : Int) < (a0.size : Int) := of_decide_eq_true (by first | (with_reducible assumption) | assumption); omega)
        have hx5 : ∀ h : 0 < a0.size, ((a0[0]'h).toNat : Int) = bt a0 0 := bt_at a0 0
        clear p5
        have qi5 : (0 < (a0.size : Int)) = True := eq_true (of_decide_eq_true (by first | (with_reducible assumption) | assumption))
        replace q5 := eq_true q5
        go_wp2
        go_meet
        case rel => exact ⟨_, (((bt a0 0) == 45)), (by first | rfl | (simp; done) | (simp [*]; done)), (by first | exact H' | (rw [hji35]; exact H')), ⟨by first | omega | exact Nat.le_refl _⟩, by repeat (first | exact Drawn0.refl _ | apply Drawn0.step)⟩
      · rw [if_neg c4] at H
        exact absurd H (by simp)
  case rest =>
    clear HC2
    try clear p2
    try clear c3
    try clear c3b0
    try clear c3b1
    try clear c4
    try clear c4b0
    try clear c4b1
    try clear p5
    try clear q5
    try clear hx5
    try clear qi5
    try clear p5
    try clear q5
    obtain ⟨kq, x12_1, rfl, HA, HJ1, ⟨mc1, rfl⟩⟩ := hcut
    cases kq with
    | zero => exact absurd HA.out (by simp [glossatorref07_Scan.j0])
    | succ kj1 =>
      have H := HA.out
      clear HA
      simp only [glossatorref07_Scan.j0] at H
      have HC6 := Aside0.mk H
      clear H
      go_upto_if 12 with (fail)
      go_cut [4] (fun v4 wc => ∃ (kq : Nat) (x4_5 : Int), v4 = .int .i64 x4_5 ∧ Aside0 (glossatorref07_Scan.j1 kq a0 x4_5 = some (r1, r2)) ∧ Aside0 (kq ≤ kj1) ∧ Drawn0 w wc)
      case first =>
        have H := HC6.out
        clear HC6
        by_cases c7 : x12_1 = true
        · subst c7
          have H1 : (glossatorref07_Scan.j1 kj1 a0 1) = some (r1, r2) := by rw [if_pos rfl] at H; exact H
          clear H
          have H := H1
          clear H1
          have H' := Aside0.mk H
          clear H
          go_wp2
          go_meet
          case rel => exact ⟨_, (1), (by first | rfl | (simp; done) | (simp [*]; done)), (by first | exact H' | (rw [hji35]; exact H')), ⟨by have := HJ1.out; first | omega | exact Nat.le_refl _⟩, by repeat (first | exact Drawn0.refl _ | apply Drawn0.step)⟩
        · replace c7 := Bool.eq_false_iff.mpr c7
          subst c7
          have H1 : (glossatorref07_Scan.j1 kj1 a0 0) = some (r1, r2) := by rw [if_neg (show ¬ (false = true) by decide)] at H; exact H
          clear H
          have H := H1
          clear H1
          have H' := Aside0.mk H
          clear H
          go_wp2
          go_meet
          case rel => exact ⟨_, (0), (by first | rfl | (simp; done) | (simp [*]; done)), (by first | exact H' | (rw [hji35]; exact H')), ⟨by have := HJ1.out; first | omega | exact Nat.le_refl _⟩, by repeat (first | exact Drawn0.refl _ | apply Drawn0.step)⟩
      case rest =>
        clear HC6
        try clear c1
        try clear p2
        try clear c3
        try clear c3b0
        try clear c3b1
        try clear c4
        try clear c4b0
        try clear c4b1
        try clear p5
        try clear q5
        try clear hx5
        try clear qi5
        try clear c6
        try clear c7
        try clear p2
        try clear p5
        try clear q5
        obtain ⟨kq, x4_5, rfl, HA, HJ5, ⟨mc5, rfl⟩⟩ := hcut
        cases kq with
        | zero => exact absurd HA.out (by simp [glossatorref07_Scan.j1])
        | succ kj5 =>
          have H := HA.out
          clear HA
          simp only [glossatorref07_Scan.j1] at H
          replace H := Option.bind_eq_some_iff.mp H
          obtain ⟨t130, A80, H⟩ := H
          replace H : (if t130 = 0 then ((glossatorref07_bad.f a0 x4_5).bind fun bt131 => (some (bt131.1, bt131.2))) else (if 0 ≤ x4_5 then (if x4_5 < (a0.size : Int) then (if (bt a0 x4_5) = 48 then (glossatorref07_Scan.j2 kj5 a0 x4_5 1) else (glossatorref07_Scan.j2 kj5 a0 x4_5 t130)) else (none)) else (none))) = some (r1, r2) := H
          have A8 := Aside0.mk A80
          clear A80
          by_cases c9 : t130 = 0
          · rw [if_pos c9] at H
            have c9b0 : (t130 == 0) = true := beq_iff_eq.mpr c9
            have c9b1 : (t130 != 0) = false := bne_eq_false_iff_eq.mpr c9
            clear c9
            replace H := Option.bind_eq_some_iff.mp H
            obtain ⟨⟨t131, t132⟩, A100, H⟩ := H
            replace H : (some (t131, t132)) = some (r1, r2) := H
            have A10 := Aside0.mk A100
            clear A100
            simp only [Option.some.injEq, Prod.mk.injEq] at H
            obtain ⟨rfl, rfl⟩ := H
            go_wp2_with (first | ((with_reducible refine gate_callee (f := 76) rfl ?_); refine goesL_ (some 15) rfl rfl Try.func76 (by kernel_rfl) rfl #[.string a0, .int .i64 x4_5] rfl (by (try simp only [List.map_toArray, List.map_cons, List.map_nil]); first | done | rfl | (simp only [List.length_drop, List.length_take]; rfl)) ?_; (with_reducible refine (glossatorref07_run.calls kj5 a0 x4_5 t130 _ A8.out).mono ?_); rintro e w' ⟨rfl, ⟨nd, rfl⟩⟩; refine ⟨_, rfl, ?_⟩) | ((with_reducible refine gate_callee (f := 77) rfl ?_); refine goesL_ (some 20) rfl rfl Try.func77 (by kernel_rfl) rfl #[.string a0, .int .i64 x4_5] rfl (by (try simp only [List.map_toArray, List.map_cons, List.map_nil]); first | done | rfl | (simp only [List.length_drop, List.length_take]; rfl)) ?_; (with_reducible refine (glossatorref07_bad.calls a0 x4_5 t131 t132 _ A10.out).mono ?_); rintro e w' ⟨rfl, ⟨nd, rfl⟩⟩; refine ⟨_, rfl, ?_⟩))
            go_ret2
            exact ⟨by first | rfl | (simp; done) | (simp [*]; done), by repeat (first | exact Drawn0.refl _ | apply Drawn0.step)⟩
          · rw [if_neg c9] at H
            have c9b0 : (t130 == 0) = false := beq_eq_false_iff_ne.mpr c9
            have c9b1 : (t130 != 0) = true := bne_iff_ne.mpr c9
            by_cases c11 : 0 ≤ x4_5
            · rw [if_pos c11] at H
              have c11b0 : decide (0 ≤ x4_5) = true := decide_eq_true c11
              clear c11
              by_cases c12 : x4_5 < (a0.size : Int)
              · rw [if_pos c12] at H
                have c12b0 : decide (x4_5 < (a0.size : Int)) = true := decide_eq_true c12
                clear c12
                have HC14 := Aside0.mk H
                clear H
                go_upto_if 26 with (first | ((with_reducible refine gate_callee (f := 76) rfl ?_); refine goesL_ (some 15) rfl rfl Try.func76 (by kernel_rfl) rfl #[.string a0, .int .i64 x4_5] rfl (by (try simp only [List.map_toArray, List.map_cons, List.map_nil]); first | done | rfl | (simp only [List.length_drop, List.length_take]; rfl)) ?_; (with_reducible refine (glossatorref07_run.calls kj5 a0 x4_5 t130 _ A8.out).mono ?_); rintro e w' ⟨rfl, ⟨nd, rfl⟩⟩; refine ⟨_, rfl, ?_⟩; have p13 : 0 ≤ (x4_5 : Int) := of_decide_eq_true (by first | (with_reducible assumption) | assumption); have q13 : x4_5 < (a0.size : Int) := of_decide_eq_true (by first | (with_reducible assumption) | assumption); have hx13 := bt_at a0 x4_5; replace p13 := eq_true p13; replace q13 := eq_true q13))
                (try simp only [Act.put, List.setIfInBounds_toArray, List.set_cons_zero, List.set_cons_succ])
                go_cut [5] (fun v5 wc => ∃ (kq : Nat) (x5_13 : Int), v5 = .int .i64 x5_13 ∧ Aside0 (glossatorref07_Scan.j2 kq a0 x4_5 x5_13 = some (r1, r2)) ∧ Aside0 (kq ≤ kj5) ∧ Drawn0 w wc)
                case first =>
                  have H := HC14.out
                  clear HC14
                  by_cases c15 : (bt a0 x4_5) = 48
                  · rw [if_pos c15] at H
                    have c15b0 : ((bt a0 x4_5) == 48) = true := beq_iff_eq.mpr c15
                    have c15b1 : ((bt a0 x4_5) != 48) = false := bne_eq_false_iff_eq.mpr c15
                    clear c15
                    (first | rw [c15b0] | (simp only [i64_w, i32_w]; rw [c15b0]) | skip)
                    have H' := Aside0.mk H
                    clear H
                    go_wp2
                    go_meet
                    case rel => exact ⟨_, (1), (by first | rfl | (simp; done) | (simp [*]; done)), (by first | exact H' | (rw [hji35]; exact H')), ⟨by have := HJ1.out; have := HJ5.out; first | omega | exact Nat.le_refl _⟩, by repeat (first | exact Drawn0.refl _ | apply Drawn0.step)⟩
                  · rw [if_neg c15] at H
                    have c15b0 : ((bt a0 x4_5) == 48) = false := beq_eq_false_iff_ne.mpr c15
                    have c15b1 : ((bt a0 x4_5) != 48) = true := bne_iff_ne.mpr c15
                    (first | rw [c15b0] | (simp only [i64_w, i32_w]; rw [c15b0]) | skip)
                    have H' := Aside0.mk H
                    clear H
                    go_wp2
                    go_meet
                    case rel => exact ⟨_, (t130), (by first | rfl | (simp; done) | (simp [*]; done)), (by first | exact H' | (rw [hji35]; exact H')), ⟨by have := HJ1.out; have := HJ5.out; first | omega | exact Nat.le_refl _⟩, by repeat (first | exact Drawn0.refl _ | apply Drawn0.step)⟩
                case rest =>
                  clear HC14
                  try clear c1
                  try clear p1
                  try clear q1
                  try clear hx1
                  try clear p2
                  try clear c3
                  try clear c3b0
                  try clear c3b1
                  try clear c4
                  try clear c4b0
                  try clear c4b1
                  try clear c5
                  try clear p5
                  try clear q5
                  try clear hx5
                  try clear qi5
                  try clear c6
                  try clear c7
                  try clear c9
                  try clear c9b0
                  try clear c9b1
                  try clear c11
                  try clear c11b0
                  try clear c12
                  try clear c12b0
                  try clear p13
                  try clear q13
                  try clear hx13
                  try clear c15
                  try clear c15b0
                  try clear c15b1
                  try clear p13
                  try clear p2
                  try clear p5
                  try clear q13
                  try clear q5
                  obtain ⟨kq, x5_13, rfl, HA, HJ13, ⟨mc13, rfl⟩⟩ := hcut
                  cases kq with
                  | zero => exact absurd HA.out (by simp [glossatorref07_Scan.j2])
                  | succ kj13 =>
                    have H := HA.out
                    clear HA
                    simp only [glossatorref07_Scan.j2] at H
                    have HC16 := Aside0.mk H
                    clear H
                    go_upto_region 10 with (fail)
                    go_cut [39] (fun v39 wc => ∃ (kq : Nat) (x39_15 : Bool), v39 = .bool x39_15 ∧ Aside0 (glossatorref07_Scan.j3 kq a0 (wrap64 (x4_5 + x5_13)) x39_15 = some (r1, r2)) ∧ Aside0 (kq ≤ kj13) ∧ Drawn0 w wc)
                    case first =>
                      have H := HC16.out
                      clear HC16
                      by_cases c17 : (wrap64 (x4_5 + x5_13)) < (a0.size : Int)
                      · rw [if_pos c17] at H
                        have c17b0 : decide ((wrap64 (x4_5 + x5_13)) < (a0.size : Int)) = true := decide_eq_true c17
                        clear c17
                        (first | rw [c17b0] | (simp only [i64_w, i32_w]; rw [c17b0]) | skip)
                        obtain ⟨ji18, hji18⟩ : ∃ j_ : Int, (wrap64 (x4_5 + x5_13)) = j_ := ⟨_, rfl⟩
                        replace H : (if 0 ≤ (ji18) then (glossatorref07_Scan.j3 kj13 a0 ji18 ((bt a0 (ji18)) == 46)) else (none)) = some (r1, r2) := by first | (rw [hji18] at H; exact H) | (simp only [hji18] at H ⊢; exact H)
                        (try rw [hji18] at c17b0)
                        have hji18w : (IntKind.i64.wrap (x4_5 + x5_13)) = ji18 := (i64_w _).trans hji18
                        by_cases c19 : 0 ≤ (ji18)
                        · rw [if_pos c19] at H
                          have c19b0 : decide (0 ≤ (ji18)) = true := decide_eq_true c19
                          clear c19
                          have H' := Aside0.mk H
                          clear H
                          have p20 : 0 ≤ ((ji18) : Int) := of_decide_eq_true (by first | (with_reducible assumption) | assumption)
                          have q20 : (ji18) < (a0.size : Int) := of_decide_eq_true (by first | (with_reducible assumption) | assumption)
                          have hx20 := bt_at a0 (ji18)
                          replace p20 := eq_true p20
                          replace q20 := eq_true q20
                          go_wp2
                          go_meet
                          case rel => exact ⟨_, (((bt a0 (ji18)) == 46)), (by first | rfl | (simp; done) | (simp only [← hji18] <;> (first | rfl | simp)) | (simp [*]; done)), (by first | exact H' | (rw [hji18]; exact H')), ⟨by have := HJ1.out; have := HJ5.out; have := HJ13.out; first | omega | exact Nat.le_refl _⟩, by repeat (first | exact Drawn0.refl _ | apply Drawn0.step)⟩
                        · rw [if_neg c19] at H
                          exact absurd H (by simp)
                      · rw [if_neg c17] at H
                        have c17b0 : decide ((wrap64 (x4_5 + x5_13)) < (a0.size : Int)) = false := decide_eq_false c17
                        clear c17
                        (first | rw [c17b0] | (simp only [i64_w, i32_w]; rw [c17b0]) | skip)
                        have H' := Aside0.mk H
                        clear H
                        go_wp2
                        go_meet
                        case rel => exact ⟨_, (false), (by first | rfl | (simp; done) | (simp [*]; done)), (by first | exact H' | (rw [hji35]; exact H')), ⟨by have := HJ1.out; have := HJ5.out; have := HJ13.out; first | omega | exact Nat.le_refl _⟩, by repeat (first | exact Drawn0.refl _ | apply Drawn0.step)⟩
                    case rest =>
                      clear HC16
                      try clear c1
                      try clear p1
                      try clear q1
                      try clear hx1
                      try clear p2
                      try clear q2
                      try clear hx2
                      try clear c3
                      try clear c3b0
                      try clear c3b1
                      try clear c4
                      try clear c4b0
                      try clear c4b1
                      try clear c5
                      try clear p5
                      try clear q5
                      try clear hx5
                      try clear qi5
                      try clear c6
                      try clear p6
                      try clear c7
                      try clear c9
                      try clear c9b0
                      try clear c9b1
                      try clear c11
                      try clear c11b0
                      try clear c12
                      try clear c12b0
                      try clear c13
                      try clear p13
                      try clear q13
                      try clear hx13
                      try clear c15
                      try clear c15b0
                      try clear c15b1
                      try clear c17
                      try clear c17b0
                      try clear c19
                      try clear c19b0
                      try clear p20
                      try clear q20
                      try clear hx20
                      try clear p1
                      try clear p13
                      try clear p2
                      try clear p20
                      try clear p5
                      try clear q1
                      try clear q13
                      try clear q20
                      try clear q5
                      obtain ⟨kq, x39_15, rfl, HA, HJ15, ⟨mc15, rfl⟩⟩ := hcut
                      cases kq with
                      | zero => exact absurd HA.out (by simp [glossatorref07_Scan.j3])
                      | succ kj15 =>
                        have H := HA.out
                        clear HA
                        simp only [glossatorref07_Scan.j3] at H
                        have HC21 := Aside0.mk H
                        clear H
                        go_upto_if 39 with (fail)
                        go_cut [4] (fun v4 wc => ∃ (kq : Nat) (x4_20 : Int), v4 = .int .i64 x4_20 ∧ Aside0 (glossatorref07_Scan.j4 kq a0 x4_20 = some (r1, r2)) ∧ Aside0 (kq ≤ kj15) ∧ Drawn0 w wc)
                        case first =>
                          have H := HC21.out
                          clear HC21
                          by_cases c22 : x39_15 = true
                          · subst c22
                            have H1 : ((glossatorref07_run.f kj15 a0 (wrap64 ((wrap64 (x4_5 + x5_13)) + 1))).bind fun t133 => (if t133 = 0 then ((glossatorref07_bad.f a0 (wrap64 ((wrap64 (x4_5 + x5_13)) + 1))).bind fun bt134 => (some (bt134.1, bt134.2))) else (glossatorref07_Scan.j4 kj15 a0 (wrap64 ((wrap64 ((wrap64 (x4_5 + x5_13)) + 1)) + t133))))) = some (r1, r2) := by rw [if_pos rfl] at H; exact H
                            clear H
                            have H := H1
                            clear H1
                            replace H := Option.bind_eq_some_iff.mp H
                            obtain ⟨t133, A230, H⟩ := H
                            replace H : (if t133 = 0 then ((glossatorref07_bad.f a0 (wrap64 ((wrap64 (x4_5 + x5_13)) + 1))).bind fun bt134 => (some (bt134.1, bt134.2))) else (glossatorref07_Scan.j4 kj15 a0 (wrap64 ((wrap64 ((wrap64 (x4_5 + x5_13)) + 1)) + t133)))) = some (r1, r2) := H
                            have A23 := Aside0.mk A230
                            clear A230
                            by_cases c24 : t133 = 0
                            · rw [if_pos c24] at H
                              have c24b0 : (t133 == 0) = true := beq_iff_eq.mpr c24
                              have c24b1 : (t133 != 0) = false := bne_eq_false_iff_eq.mpr c24
                              clear c24
                              (first | rw [c24b0] | (simp only [i64_w, i32_w]; rw [c24b0]) | skip)
                              replace H := Option.bind_eq_some_iff.mp H
                              obtain ⟨⟨t134, t135⟩, A250, H⟩ := H
                              replace H : (some (t134, t135)) = some (r1, r2) := H
                              have A25 := Aside0.mk A250
                              clear A250
                              simp only [Option.some.injEq, Prod.mk.injEq] at H
                              obtain ⟨rfl, rfl⟩ := H
                              go_wp2_with (first | ((with_reducible refine gate_callee (f := 76) rfl ?_); refine goesL_ (some 43) rfl rfl Try.func76 (by kernel_rfl) rfl #[.string a0, .int .i64 (wrap64 ((wrap64 (x4_5 + x5_13)) + 1))] rfl (by (try simp only [List.map_toArray, List.map_cons, List.map_nil]); first | done | rfl | (simp only [List.length_drop, List.length_take]; rfl)) ?_; (with_reducible refine (glossatorref07_run.calls kj15 a0 (wrap64 ((wrap64 (x4_5 + x5_13)) + 1)) t133 _ A23.out).mono ?_); rintro e w' ⟨rfl, ⟨nd, rfl⟩⟩; refine ⟨_, rfl, ?_⟩) | ((with_reducible refine gate_callee (f := 77) rfl ?_); refine goesL_ (some 49) rfl rfl Try.func77 (by kernel_rfl) rfl #[.string a0, .int .i64 (wrap64 ((wrap64 (x4_5 + x5_13)) + 1))] rfl (by (try simp only [List.map_toArray, List.map_cons, List.map_nil]); first | done | rfl | (simp only [List.length_drop, List.length_take]; rfl)) ?_; (with_reducible refine (glossatorref07_bad.calls a0 (wrap64 ((wrap64 (x4_5 + x5_13)) + 1)) t134 t135 _ A25.out).mono ?_); rintro e w' ⟨rfl, ⟨nd, rfl⟩⟩; refine ⟨_, rfl, ?_⟩))
                              go_ret2
                              exact ⟨by first | rfl | (simp; done) | (simp [*]; done), by repeat (first | exact Drawn0.refl _ | apply Drawn0.step)⟩
                            · rw [if_neg c24] at H
                              have c24b0 : (t133 == 0) = false := beq_eq_false_iff_ne.mpr c24
                              have c24b1 : (t133 != 0) = true := bne_iff_ne.mpr c24
                              (first | rw [c24b0] | (simp only [i64_w, i32_w]; rw [c24b0]) | skip)
                              have H' := Aside0.mk H
                              clear H
                              go_wp2_with (first | ((with_reducible refine gate_callee (f := 76) rfl ?_); refine goesL_ (some 43) rfl rfl Try.func76 (by kernel_rfl) rfl #[.string a0, .int .i64 (wrap64 ((wrap64 (x4_5 + x5_13)) + 1))] rfl (by (try simp only [List.map_toArray, List.map_cons, List.map_nil]); first | done | rfl | (simp only [List.length_drop, List.length_take]; rfl)) ?_; (with_reducible refine (glossatorref07_run.calls kj15 a0 (wrap64 ((wrap64 (x4_5 + x5_13)) + 1)) t133 _ A23.out).mono ?_); rintro e w' ⟨rfl, ⟨nd, rfl⟩⟩; refine ⟨_, rfl, ?_⟩))
                              go_meet
                              case rel => exact ⟨_, (wrap64 ((wrap64 ((wrap64 (x4_5 + x5_13)) + 1)) + t133)), (by first | rfl | (simp; done) | (simp [*]; done)), (by first | exact H' | (rw [hji35]; exact H')), ⟨by have := HJ1.out; have := HJ5.out; have := HJ13.out; have := HJ15.out; first | omega | exact Nat.le_refl _⟩, by repeat (first | exact Drawn0.refl _ | apply Drawn0.step)⟩
                          · replace c22 := Bool.eq_false_iff.mpr c22
                            subst c22
                            have H1 : (glossatorref07_Scan.j4 kj15 a0 (wrap64 (x4_5 + x5_13))) = some (r1, r2) := by rw [if_neg (show ¬ (false = true) by decide)] at H; exact H
                            clear H
                            have H := H1
                            clear H1
                            have H' := Aside0.mk H
                            clear H
                            go_wp2
                            go_meet
                            case rel => exact ⟨_, ((wrap64 (x4_5 + x5_13))), (by first | rfl | (simp; done) | (simp [*]; done)), (by first | exact H' | (rw [hji35]; exact H')), ⟨by have := HJ1.out; have := HJ5.out; have := HJ13.out; have := HJ15.out; first | omega | exact Nat.le_refl _⟩, by repeat (first | exact Drawn0.refl _ | apply Drawn0.step)⟩
                        case rest =>
                          clear HC21
                          try clear c1
                          try clear p1
                          try clear q1
                          try clear hx1
                          try clear c2
                          try clear p2
                          try clear q2
                          try clear hx2
                          try clear c3
                          try clear c3b0
                          try clear c3b1
                          try clear c4
                          try clear c4b0
                          try clear c4b1
                          try clear c5
                          try clear p5
                          try clear q5
                          try clear hx5
                          try clear qi5
                          try clear c6
                          try clear p6
                          try clear c7
                          try clear c9
                          try clear c9b0
                          try clear c9b1
                          try clear c11
                          try clear c11b0
                          try clear c12
                          try clear c12b0
                          try clear c13
                          try clear p13
                          try clear q13
                          try clear hx13
                          try clear c15
                          try clear c15b0
                          try clear c15b1
                          try clear c17
                          try clear c17b0
                          try clear c19
                          try clear c19b0
                          try clear p20
                          try clear q20
                          try clear hx20
                          try clear c22
                          try clear c24
                          try clear c24b0
                          try clear c24b1
                          try clear p1
                          try clear p13
                          try clear p2
                          try clear p20
                          try clear p5
                          try clear p6
                          try clear q1
                          try clear q13
                          try clear q2
                          try clear q20
                          try clear q5
                          obtain ⟨kq, x4_20, rfl, HA, HJ20, ⟨mc20, rfl⟩⟩ := hcut
                          cases kq with
                          | zero => exact absurd HA.out (by simp [glossatorref07_Scan.j4])
                          | succ kj20 =>
                            have H := HA.out
                            clear HA
                            simp only [glossatorref07_Scan.j4] at H
                            have HC26 := Aside0.mk H
                            clear H
                            go_upto_region 15 with (fail)
                            go_cut [71] (fun v71 wc => ∃ (kq : Nat) (x71_25 : Bool), v71 = .bool x71_25 ∧ Aside0 (glossatorref07_Scan.j5 kq a0 x4_20 x71_25 = some (r1, r2)) ∧ Aside0 (kq ≤ kj20) ∧ Drawn0 w wc)
                            case first =>
                              have H := HC26.out
                              clear HC26
                              by_cases c27 : x4_20 < (a0.size : Int)
                              · rw [if_pos c27] at H
                                have c27b0 : decide (x4_20 < (a0.size : Int)) = true := decide_eq_true c27
                                clear c27
                                (first | rw [c27b0] | (simp only [i64_w, i32_w]; rw [c27b0]) | skip)
                                by_cases c28 : 0 ≤ x4_20
                                · rw [if_pos c28] at H
                                  have c28b0 : decide (0 ≤ x4_20) = true := decide_eq_true c28
                                  clear c28
                                  by_cases c30 : (bt a0 x4_20) = 101
                                  · rw [if_pos c30] at H
                                    have c30b0 : ((bt a0 x4_20) == 101) = true := beq_iff_eq.mpr c30
                                    have c30b1 : ((bt a0 x4_20) != 101) = false := bne_eq_false_iff_eq.mpr c30
                                    clear c30
                                    have H' := Aside0.mk H
                                    clear H
                                    have p29 : 0 ≤ (x4_20 : Int) := of_decide_eq_true (by first | (with_reducible assumption) | assumption)
                                    have q29 : x4_20 < (a0.size : Int) := of_decide_eq_true (by first | (with_reducible assumption) | assumption)
                                    have hx29 := bt_at a0 x4_20
                                    replace p29 := eq_true p29
                                    replace q29 := eq_true q29
                                    go_wp2
                                    go_meet
                                    case rel => exact ⟨_, (true), (by first | rfl | (simp; done) | (simp [*]; done)), (by first | exact H' | (rw [hji35]; exact H')), ⟨by have := HJ1.out; have := HJ5.out; have := HJ13.out; have := HJ15.out; have := HJ20.out; first | omega | exact Nat.le_refl _⟩, by repeat (first | exact Drawn0.refl _ | apply Drawn0.step)⟩
                                  · rw [if_neg c30] at H
                                    have c30b0 : ((bt a0 x4_20) == 101) = false := beq_eq_false_iff_ne.mpr c30
                                    have c30b1 : ((bt a0 x4_20) != 101) = true := bne_iff_ne.mpr c30
                                    have H' := Aside0.mk H
                                    clear H
                                    have p29 : 0 ≤ (x4_20 : Int) := of_decide_eq_true (by first | (with_reducible assumption) | assumption)
                                    have q29 : x4_20 < (a0.size : Int) := of_decide_eq_true (by first | (with_reducible assumption) | assumption)
                                    have hx29 := bt_at a0 x4_20
                                    replace p29 := eq_true p29
                                    replace q29 := eq_true q29
                                    have p31 : 0 ≤ (x4_20 : Int) := of_decide_eq_true (by first | (with_reducible assumption) | assumption)
                                    have q31 : x4_20 < (a0.size : Int) := of_decide_eq_true (by first | (with_reducible assumption) | assumption)
                                    have hx31 := bt_at a0 x4_20
                                    replace p31 := eq_true p31
                                    replace q31 := eq_true q31
                                    go_wp2
                                    go_meet
                                    case rel => exact ⟨_, (((bt a0 x4_20) == 69)), (by first | rfl | (simp; done) | (simp [*]; done)), (by first | exact H' | (rw [hji35]; exact H')), ⟨by have := HJ1.out; have := HJ5.out; have := HJ13.out; have := HJ15.out; have := HJ20.out; first | omega | exact Nat.le_refl _⟩, by repeat (first | exact Drawn0.refl _ | apply Drawn0.step)⟩
                                · rw [if_neg c28] at H
                                  exact absurd H (by simp)
                              · rw [if_neg c27] at H
                                have c27b0 : decide (x4_20 < (a0.size : Int)) = false := decide_eq_false c27
                                clear c27
                                (first | rw [c27b0] | (simp only [i64_w, i32_w]; rw [c27b0]) | skip)
                                have H' := Aside0.mk H
                                clear H
                                go_wp2
                                go_meet
                                case rel => exact ⟨_, (false), (by first | rfl | (simp; done) | (simp [*]; done)), (by first | exact H' | (rw [hji35]; exact H')), ⟨by have := HJ1.out; have := HJ5.out; have := HJ13.out; have := HJ15.out; have := HJ20.out; first | omega | exact Nat.le_refl _⟩, by repeat (first | exact Drawn0.refl _ | apply Drawn0.step)⟩
                            case rest =>
                              clear HC26
                              try clear c1
                              try clear p1
                              try clear q1
                              try clear hx1
                              try clear c2
                              try clear p2
                              try clear q2
                              try clear hx2
                              try clear c3
                              try clear c3b0
                              try clear c3b1
                              try clear p3
                              try clear q3
                              try clear hx3
                              try clear c4
                              try clear c4b0
                              try clear c4b1
                              try clear c5
                              try clear p5
                              try clear q5
                              try clear hx5
                              try clear qi5
                              try clear c6
                              try clear p6
                              try clear c7
                              try clear c9
                              try clear c9b0
                              try clear c9b1
                              try clear c11
                              try clear c11b0
                              try clear c12
                              try clear c12b0
                              try clear c13
                              try clear p13
                              try clear q13
                              try clear hx13
                              try clear c15
                              try clear c15b0
                              try clear c15b1
                              try clear c17
                              try clear c17b0
                              try clear c19
                              try clear c19b0
                              try clear c20
                              try clear p20
                              try clear q20
                              try clear hx20
                              try clear c22
                              try clear c24
                              try clear c24b0
                              try clear c24b1
                              try clear c27
                              try clear c27b0
                              try clear c28
                              try clear c28b0
                              try clear p29
                              try clear q29
                              try clear hx29
                              try clear c30
                              try clear c30b0
                              try clear c30b1
                              try clear p31
                              try clear q31
                              try clear hx31
                              try clear p1
                              try clear p13
                              try clear p2
                              try clear p20
                              try clear p29
                              try clear p31
                              try clear p5
                              try clear p6
                              try clear q1
                              try clear q13
                              try clear q2
                              try clear q20
                              try clear q29
                              try clear q31
                              try clear q5
                              obtain ⟨kq, x71_25, rfl, HA, HJ25, ⟨mc25, rfl⟩⟩ := hcut
                              cases kq with
                              | zero => exact absurd HA.out (by simp [glossatorref07_Scan.j5])
                              | succ kj25 =>
                                have H := HA.out
                                clear HA
                                simp only [glossatorref07_Scan.j5] at H
                                by_cases c32 : x71_25 = true
                                · subst c32
                                  have H1 : (if (wrap64 (x4_20 + 1)) < (a0.size : Int) then (if 0 ≤ (wrap64 (x4_20 + 1)) then (if (bt a0 (wrap64 (x4_20 + 1))) = 43 then (glossatorref07_Scan.j6 kj25 a0 (wrap64 (x4_20 + 1)) true) else (glossatorref07_Scan.j6 kj25 a0 (wrap64 (x4_20 + 1)) ((bt a0 (wrap64 (x4_20 + 1))) == 45))) else (none)) else (glossatorref07_Scan.j6 kj25 a0 (wrap64 (x4_20 + 1)) false)) = some (r1, r2) := by rw [if_pos rfl] at H; exact H
                                  clear H
                                  have H := H1
                                  clear H1
                                  have HC33 := Aside0.mk H
                                  clear H
                                  go_upto_region 17 with (fail)
                                  go_cut [89] (fun v89 wc => ∃ (kq : Nat) (x89_32 : Bool), v89 = .bool x89_32 ∧ Aside0 (glossatorref07_Scan.j6 kq a0 (wrap64 (x4_20 + 1)) x89_32 = some (r1, r2)) ∧ Aside0 (kq ≤ kj25) ∧ Drawn0 w wc)
                                  case first =>
                                    have H := HC33.out
                                    clear HC33
                                    by_cases c34 : (wrap64 (x4_20 + 1)) < (a0.size : Int)
                                    · rw [if_pos c34] at H
                                      have c34b0 : decide ((wrap64 (x4_20 + 1)) < (a0.size : Int)) = true := decide_eq_true c34
                                      clear c34
                                      (first | rw [c34b0] | (simp only [i64_w, i32_w]; rw [c34b0]) | skip)
                                      obtain ⟨ji35, hji35⟩ : ∃ j_ : Int, (wrap64 (x4_20 + 1)) = j_ := ⟨_, rfl⟩
                                      replace H : (if 0 ≤ (ji35) then (if (bt a0 (ji35)) = 43 then (glossatorref07_Scan.j6 kj25 a0 ji35 true) else (glossatorref07_Scan.j6 kj25 a0 ji35 ((bt a0 (ji35)) == 45))) else (none)) = some (r1, r2) := by first | (rw [hji35] at H; exact H) | (simp only [hji35] at H ⊢; exact H)
                                      (try rw [hji35] at c34b0)
                                      have hji35w : (IntKind.i64.wrap (x4_20 + 1)) = ji35 := (i64_w _).trans hji35
                                      by_cases c36 : 0 ≤ (ji35)
                                      · rw [if_pos c36] at H
                                        have c36b0 : decide (0 ≤ (ji35)) = true := decide_eq_true c36
                                        clear c36
                                        by_cases c38 : (bt a0 (ji35)) = 43
                                        · rw [if_pos c38] at H
                                          have c38b0 : ((bt a0 (ji35)) == 43) = true := beq_iff_eq.mpr c38
                                          have c38b1 : ((bt a0 (ji35)) != 43) = false := bne_eq_false_iff_eq.mpr c38
                                          clear c38
                                          have H' := Aside0.mk H
                                          clear H
                                          have p37 : 0 ≤ ((ji35) : Int) := of_decide_eq_true (by first | (with_reducible assumption) | assumption)
                                          have q37 : (ji35) < (a0.size : Int) := of_decide_eq_true (by first | (with_reducible assumption) | assumption)
                                          have hx37 := bt_at a0 (ji35)
                                          replace p37 := eq_true p37
                                          replace q37 := eq_true q37
                                          go_wp2
                                          go_meet
                                          case rel => exact ⟨_, (true), (by first | rfl | (simp; done) | (simp [*]; done)), (by first | exact H' | (rw [hji35]; exact H')), ⟨by have := HJ1.out; have := HJ5.out; have := HJ13.out; have := HJ15.out; have := HJ20.out; have := HJ25.out; first | omega | exact Nat.le_refl _⟩, by repeat (first | exact Drawn0.refl _ | apply Drawn0.step)⟩
                                        · rw [if_neg c38] at H
                                          have c38b0 : ((bt a0 (ji35)) == 43) = false := beq_eq_false_iff_ne.mpr c38
                                          have c38b1 : ((bt a0 (ji35)) != 43) = true := bne_iff_ne.mpr c38
                                          have H' := Aside0.mk H
                                          clear H
                                          have p37 : 0 ≤ ((ji35) : Int) := of_decide_eq_true (by first | (with_reducible assumption) | assumption)
                                          have q37 : (ji35) < (a0.size : Int) := of_decide_eq_true (by first | (with_reducible assumption) | assumption)
                                          have hx37 := bt_at a0 (ji35)
                                          replace p37 := eq_true p37
                                          replace q37 := eq_true q37
                                          have p39 : 0 ≤ ((ji35) : Int) := of_decide_eq_true (by first | (with_reducible assumption) | assumption)
                                          have q39 : (ji35) < (a0.size : Int) := of_decide_eq_true (by first | (with_reducible assumption) | assumption)
                                          have hx39 := bt_at a0 (ji35)
                                          replace p39 := eq_true p39
                                          replace q39 := eq_true q39
                                          go_wp2
                                          go_meet
                                          case rel => exact ⟨_, (((bt a0 (ji35)) == 45)), (by first | rfl | (simp; done) | (simp only [← hji35] <;> (first | rfl | simp)) | (simp [*]; done)), (by first | exact H' | (rw [hji35]; exact H')), ⟨by have := HJ1.out; have := HJ5.out; have := HJ13.out; have := HJ15.out; have := HJ20.out; have := HJ25.out; first | omega | exact Nat.le_refl _⟩, by repeat (first | exact Drawn0.refl _ | apply Drawn0.step)⟩
                                      · rw [if_neg c36] at H
                                        exact absurd H (by simp)
                                    · rw [if_neg c34] at H
                                      have c34b0 : decide ((wrap64 (x4_20 + 1)) < (a0.size : Int)) = false := decide_eq_false c34
                                      clear c34
                                      (first | rw [c34b0] | (simp only [i64_w, i32_w]; rw [c34b0]) | skip)
                                      have H' := Aside0.mk H
                                      clear H
                                      go_wp2
                                      go_meet
                                      case rel => exact ⟨_, (false), (by first | rfl | (simp; done) | (simp [*]; done)), (by first | exact H' | (rw [hji35]; exact H')), ⟨by have := HJ1.out; have := HJ5.out; have := HJ13.out; have := HJ15.out; have := HJ20.out; have := HJ25.out; first | omega | exact Nat.le_refl _⟩, by repeat (first | exact Drawn0.refl _ | apply Drawn0.step)⟩
                                  case rest =>
                                    clear HC33
                                    try clear c1
                                    try clear p1
                                    try clear q1
                                    try clear hx1
                                    try clear c2
                                    try clear p2
                                    try clear q2
                                    try clear hx2
                                    try clear c3
                                    try clear c3b0
                                    try clear c3b1
                                    try clear p3
                                    try clear q3
                                    try clear hx3
                                    try clear c4
                                    try clear c4b0
                                    try clear c4b1
                                    try clear c5
                                    try clear p5
                                    try clear q5
                                    try clear hx5
                                    try clear qi5
                                    try clear c6
                                    try clear p6
                                    try clear c7
                                    try clear c9
                                    try clear c9b0
                                    try clear c9b1
                                    try clear c11
                                    try clear c11b0
                                    try clear c12
                                    try clear c12b0
                                    try clear c13
                                    try clear p13
                                    try clear q13
                                    try clear hx13
                                    try clear c15
                                    try clear c15b0
                                    try clear c15b1
                                    try clear c17
                                    try clear c17b0
                                    try clear c19
                                    try clear c19b0
                                    try clear c20
                                    try clear p20
                                    try clear q20
                                    try clear hx20
                                    try clear c22
                                    try clear c24
                                    try clear c24b0
                                    try clear c24b1
                                    try clear c25
                                    try clear c27
                                    try clear c27b0
                                    try clear c28
                                    try clear c28b0
                                    try clear p29
                                    try clear q29
                                    try clear hx29
                                    try clear c30
                                    try clear c30b0
                                    try clear c30b1
                                    try clear p31
                                    try clear q31
                                    try clear hx31
                                    try clear c32
                                    try clear c34
                                    try clear c34b0
                                    try clear c36
                                    try clear c36b0
                                    try clear p37
                                    try clear q37
                                    try clear hx37
                                    try clear c38
                                    try clear c38b0
                                    try clear c38b1
                                    try clear p39
                                    try clear q39
                                    try clear hx39
                                    try clear p1
                                    try clear p13
                                    try clear p2
                                    try clear p20
                                    try clear p29
                                    try clear p3
                                    try clear p31
                                    try clear p37
                                    try clear p39
                                    try clear p5
                                    try clear p6
                                    try clear q1
                                    try clear q13
                                    try clear q2
                                    try clear q20
                                    try clear q29
                                    try clear q3
                                    try clear q31
                                    try clear q37
                                    try clear q39
                                    try clear q5
                                    obtain ⟨kq, x89_32, rfl, HA, HJ32, ⟨mc32, rfl⟩⟩ := hcut
                                    cases kq with
                                    | zero => exact absurd HA.out (by simp [glossatorref07_Scan.j6])
                                    | succ kj32 =>
                                      have H := HA.out
                                      clear HA
                                      simp only [glossatorref07_Scan.j6] at H
                                      have HC40 := Aside0.mk H
                                      clear H
                                      go_upto_if 89 with (fail)
                                      go_cut [4] (fun v4 wc => ∃ (kq : Nat) (x4_39 : Int), v4 = .int .i64 x4_39 ∧ Aside0 (glossatorref07_Scan.j7 kq a0 x4_39 = some (r1, r2)) ∧ Aside0 (kq ≤ kj32) ∧ Drawn0 w wc)
                                      case first =>
                                        have H := HC40.out
                                        clear HC40
                                        by_cases c41 : x89_32 = true
                                        · subst c41
                                          have H1 : (glossatorref07_Scan.j7 kj32 a0 (wrap64 ((wrap64 (x4_20 + 1)) + 1))) = some (r1, r2) := by rw [if_pos rfl] at H; exact H
                                          clear H
                                          have H := H1
                                          clear H1
                                          have H' := Aside0.mk H
                                          clear H
                                          go_wp2
                                          go_meet
                                          case rel => exact ⟨_, (wrap64 ((wrap64 (x4_20 + 1)) + 1)), (by first | rfl | (simp; done) | (simp [*]; done)), (by first | exact H' | (rw [hji35]; exact H')), ⟨by have := HJ1.out; have := HJ5.out; have := HJ13.out; have := HJ15.out; have := HJ20.out; have := HJ25.out; have := HJ32.out; first | omega | exact Nat.le_refl _⟩, by repeat (first | exact Drawn0.refl _ | apply Drawn0.step)⟩
                                        · replace c41 := Bool.eq_false_iff.mpr c41
                                          subst c41
                                          have H1 : (glossatorref07_Scan.j7 kj32 a0 (wrap64 (x4_20 + 1))) = some (r1, r2) := by rw [if_neg (show ¬ (false = true) by decide)] at H; exact H
                                          clear H
                                          have H := H1
                                          clear H1
                                          have H' := Aside0.mk H
                                          clear H
                                          go_wp2
                                          go_meet
                                          case rel => exact ⟨_, ((wrap64 (x4_20 + 1))), (by first | rfl | (simp; done) | (simp [*]; done)), (by first | exact H' | (rw [hji35]; exact H')), ⟨by have := HJ1.out; have := HJ5.out; have := HJ13.out; have := HJ15.out; have := HJ20.out; have := HJ25.out; have := HJ32.out; first | omega | exact Nat.le_refl _⟩, by repeat (first | exact Drawn0.refl _ | apply Drawn0.step)⟩
                                      case rest =>
                                        clear HC40
                                        try clear c1
                                        try clear p1
                                        try clear q1
                                        try clear hx1
                                        try clear c2
                                        try clear p2
                                        try clear q2
                                        try clear hx2
                                        try clear c3
                                        try clear c3b0
                                        try clear c3b1
                                        try clear p3
                                        try clear q3
                                        try clear hx3
                                        try clear c4
                                        try clear c4b0
                                        try clear c4b1
                                        try clear c5
                                        try clear p5
                                        try clear q5
                                        try clear hx5
                                        try clear qi5
                                        try clear c6
                                        try clear p6
                                        try clear c7
                                        try clear c9
                                        try clear c9b0
                                        try clear c9b1
                                        try clear c11
                                        try clear c11b0
                                        try clear c12
                                        try clear c12b0
                                        try clear c13
                                        try clear p13
                                        try clear q13
                                        try clear hx13
                                        try clear c15
                                        try clear c15b0
                                        try clear c15b1
                                        try clear c17
                                        try clear c17b0
                                        try clear c19
                                        try clear c19b0
                                        try clear c20
                                        try clear p20
                                        try clear q20
                                        try clear hx20
                                        try clear c22
                                        try clear c24
                                        try clear c24b0
                                        try clear c24b1
                                        try clear c25
                                        try clear c27
                                        try clear c27b0
                                        try clear c28
                                        try clear c28b0
                                        try clear p29
                                        try clear q29
                                        try clear hx29
                                        try clear c30
                                        try clear c30b0
                                        try clear c30b1
                                        try clear p31
                                        try clear q31
                                        try clear hx31
                                        try clear c32
                                        try clear c34
                                        try clear c34b0
                                        try clear c36
                                        try clear c36b0
                                        try clear p37
                                        try clear q37
                                        try clear hx37
                                        try clear c38
                                        try clear c38b0
                                        try clear c38b1
                                        try clear p39
                                        try clear q39
                                        try clear hx39
                                        try clear c41
                                        try clear p1
                                        try clear p13
                                        try clear p2
                                        try clear p20
                                        try clear p29
                                        try clear p3
                                        try clear p31
                                        try clear p37
                                        try clear p39
                                        try clear p5
                                        try clear p6
                                        try clear q1
                                        try clear q13
                                        try clear q2
                                        try clear q20
                                        try clear q29
                                        try clear q3
                                        try clear q31
                                        try clear q37
                                        try clear q39
                                        try clear q5
                                        obtain ⟨kq, x4_39, rfl, HA, HJ39, ⟨mc39, rfl⟩⟩ := hcut
                                        cases kq with
                                        | zero => exact absurd HA.out (by simp [glossatorref07_Scan.j7])
                                        | succ kj39 =>
                                          have H := HA.out
                                          clear HA
                                          simp only [glossatorref07_Scan.j7] at H
                                          replace H := Option.bind_eq_some_iff.mp H
                                          obtain ⟨t136, A420, H⟩ := H
                                          replace H : (if t136 = 0 then ((glossatorref07_bad.f a0 x4_39).bind fun bt137 => (some (bt137.1, bt137.2))) else (some (wrap64 (x4_39 + t136), 0))) = some (r1, r2) := H
                                          have A42 := Aside0.mk A420
                                          clear A420
                                          by_cases c43 : t136 = 0
                                          · rw [if_pos c43] at H
                                            have c43b0 : (t136 == 0) = true := beq_iff_eq.mpr c43
                                            have c43b1 : (t136 != 0) = false := bne_eq_false_iff_eq.mpr c43
                                            clear c43
                                            replace H := Option.bind_eq_some_iff.mp H
                                            obtain ⟨⟨t137, t138⟩, A440, H⟩ := H
                                            replace H : (some (t137, t138)) = some (r1, r2) := H
                                            have A44 := Aside0.mk A440
                                            clear A440
                                            simp only [Option.some.injEq, Prod.mk.injEq] at H
                                            obtain ⟨rfl, rfl⟩ := H
                                            go_wp2_with (first | ((with_reducible refine gate_callee (f := 76) rfl ?_); refine goesL_ (some 94) rfl rfl Try.func76 (by kernel_rfl) rfl #[.string a0, .int .i64 x4_39] rfl (by (try simp only [List.map_toArray, List.map_cons, List.map_nil]); first | done | rfl | (simp only [List.length_drop, List.length_take]; rfl)) ?_; (with_reducible refine (glossatorref07_run.calls kj39 a0 x4_39 t136 _ A42.out).mono ?_); rintro e w' ⟨rfl, ⟨nd, rfl⟩⟩; refine ⟨_, rfl, ?_⟩) | ((with_reducible refine gate_callee (f := 77) rfl ?_); refine goesL_ (some 99) rfl rfl Try.func77 (by kernel_rfl) rfl #[.string a0, .int .i64 x4_39] rfl (by (try simp only [List.map_toArray, List.map_cons, List.map_nil]); first | done | rfl | (simp only [List.length_drop, List.length_take]; rfl)) ?_; (with_reducible refine (glossatorref07_bad.calls a0 x4_39 t137 t138 _ A44.out).mono ?_); rintro e w' ⟨rfl, ⟨nd, rfl⟩⟩; refine ⟨_, rfl, ?_⟩))
                                            go_ret2
                                            exact ⟨by first | rfl | (simp; done) | (simp [*]; done), by repeat (first | exact Drawn0.refl _ | apply Drawn0.step)⟩
                                          · rw [if_neg c43] at H
                                            have c43b0 : (t136 == 0) = false := beq_eq_false_iff_ne.mpr c43
                                            have c43b1 : (t136 != 0) = true := bne_iff_ne.mpr c43
                                            simp only [Option.some.injEq, Prod.mk.injEq] at H
                                            obtain ⟨rfl, rfl⟩ := H
                                            go_wp2_with (first | ((with_reducible refine gate_callee (f := 76) rfl ?_); refine goesL_ (some 94) rfl rfl Try.func76 (by kernel_rfl) rfl #[.string a0, .int .i64 x4_39] rfl (by (try simp only [List.map_toArray, List.map_cons, List.map_nil]); first | done | rfl | (simp only [List.length_drop, List.length_take]; rfl)) ?_; (with_reducible refine (glossatorref07_run.calls kj39 a0 x4_39 t136 _ A42.out).mono ?_); rintro e w' ⟨rfl, ⟨nd, rfl⟩⟩; refine ⟨_, rfl, ?_⟩))
                                            go_ret2
                                            exact ⟨by first | rfl | (simp; done) | (simp [*]; done), by repeat (first | exact Drawn0.refl _ | apply Drawn0.step)⟩
                                · replace c32 := Bool.eq_false_iff.mpr c32
                                  subst c32
                                  have H1 : (some (x4_20, 0)) = some (r1, r2) := by rw [if_neg (show ¬ (false = true) by decide)] at H; exact H
                                  clear H
                                  have H := H1
                                  clear H1
                                  simp only [Option.some.injEq, Prod.mk.injEq] at H
                                  obtain ⟨rfl, rfl⟩ := H
                                  go_wp2
                                  go_ret2
                                  exact ⟨by first | rfl | (simp; done) | (simp [*]; done), by repeat (first | exact Drawn0.refl _ | apply Drawn0.step)⟩
              · rw [if_neg c12] at H
                exact absurd H (by simp)
            · rw [if_neg c11] at H
              exact absurd H (by simp)

end Go.Proofs.Ytlbokaekhjjabaa.T

-- Written by a program of this session (joint.sh) out of the translation. Not trusted: Lean checks it.
namespace Go.Proofs.Ytlbokaekhjjabaa.T
open Go.RowKit Go.Proofs.YtlbokaekhjjabaaW.PrintWords Go.Proofs.YtlbokaekhjjabaaW.PrintLast Go.Proofs.YtlbokaekhjjabaaW.PrintMore
attribute [local go_sem] max2_int min2_int max_two min_two max_three min_three max_four min_four   -- for this text's walks alone
set_option linter.unusedVariables false
set_option linter.unusedSimpArgs false

/-! ### glossatorref14_word: function 66 -/
def glossatorref14_word.f (a0 : Int) : Option (ByteArray) := if a0 = 110 then (some (⟨#[110, 117, 108, 108]⟩ : ByteArray)) else (if a0 = 116 then (some (⟨#[116, 114, 117, 101]⟩ : ByteArray)) else (if a0 = 102 then (some (⟨#[102, 97, 108, 115, 101]⟩ : ByteArray)) else (some (strOfNums (([a0] : List Int))))))
set_option maxHeartbeats 8000000 in
set_option maxRecDepth 100000 in
theorem glossatorref14_word.calls (a0 : Int) (r : ByteArray) (w : World) (h : glossatorref14_word.f a0 = some r) :
    Calls Try.prog 66 #[.int .u8 a0] w fun e w' => e = .returned (.string r) ∧ Below w.heap.size w w' := by
  have HB := Aside0.mk (Below.refl w.heap.size w)
  have H : (if a0 = 110 then (some (⟨#[110, 117, 108, 108]⟩ : ByteArray)) else (if a0 = 116 then (some (⟨#[116, 114, 117, 101]⟩ : ByteArray)) else (if a0 = 102 then (some (⟨#[102, 97, 108, 115, 101]⟩ : ByteArray)) else (some (strOfNums (([a0] : List Int))))))) = some r := h
  clear h
  by_cases c2 : a0 = 110
  · rw [if_pos c2] at H
    have c2b0 : (a0 == 110) = true := beq_iff_eq.mpr c2
    have c2b1 : (a0 != 110) = false := bne_eq_false_iff_eq.mpr c2
    clear c2
    obtain rfl := Option.some.inj H
    go_enter Try.func66, Try.ntmps66
    go_wp2
    go_ret
    exact ⟨by first | rfl | (simp [errW_none, errW_some] <;> rfl) | (simp [*, errW_none, errW_some] <;> rfl), by repeat (first | (with_reducible first | exact HB.out | apply below_alloc | apply pw_below_drewN | apply below_drew1) | exact HB.out)⟩
  · rw [if_neg c2] at H
    have c2b0 : (a0 == 110) = false := beq_eq_false_iff_ne.mpr c2
    have c2b1 : (a0 != 110) = true := bne_iff_ne.mpr c2
    by_cases c3 : a0 = 116
    · rw [if_pos c3] at H
      have c3b0 : (a0 == 116) = true := beq_iff_eq.mpr c3
      have c3b1 : (a0 != 116) = false := bne_eq_false_iff_eq.mpr c3
      clear c3
      obtain rfl := Option.some.inj H
      go_enter Try.func66, Try.ntmps66
      go_wp2
      go_ret
      exact ⟨by first | rfl | (simp [errW_none, errW_some] <;> rfl) | (simp [*, errW_none, errW_some] <;> rfl), by repeat (first | (with_reducible first | exact HB.out | apply below_alloc | apply pw_below_drewN | apply below_drew1) | exact HB.out)⟩
    · rw [if_neg c3] at H
      have c3b0 : (a0 == 116) = false := beq_eq_false_iff_ne.mpr c3
      have c3b1 : (a0 != 116) = true := bne_iff_ne.mpr c3
      by_cases c4 : a0 = 102
      · rw [if_pos c4] at H
        have c4b0 : (a0 == 102) = true := beq_iff_eq.mpr c4
        have c4b1 : (a0 != 102) = false := bne_eq_false_iff_eq.mpr c4
        clear c4
        obtain rfl := Option.some.inj H
        go_enter Try.func66, Try.ntmps66
        go_wp2
        go_ret
        exact ⟨by first | rfl | (simp [errW_none, errW_some] <;> rfl) | (simp [*, errW_none, errW_some] <;> rfl), by repeat (first | (with_reducible first | exact HB.out | apply below_alloc | apply pw_below_drewN | apply below_drew1) | exact HB.out)⟩
      · rw [if_neg c4] at H
        have c4b0 : (a0 == 102) = false := beq_eq_false_iff_ne.mpr c4
        have c4b1 : (a0 != 102) = true := bne_iff_ne.mpr c4
        obtain ⟨y139, hy139⟩ : ∃ y_ : List Int, y_ = (([a0] : List Int)) := ⟨_, rfl⟩
        replace H : (some (strOfNums y139)) = some r := by first | (rw [hy139]; with_reducible exact H) | (have H2_ := (Option.bind_some _ _).symm.trans H; rw [hy139]; with_reducible exact H2_) | (have H2_ := (Option.bind_some _ _).symm.trans H; with_reducible exact H2_) | with_reducible exact H | (rw [hy139]; exact H) | exact H
        have Ny139 := Aside0.mk hy139
        clear hy139
        obtain rfl := Option.some.inj H
        go_enter Try.func66, Try.ntmps66
        go_wp2_with (first | ((with_reducible refine gate_dst (N := 11) rfl ?_); refine Kd.R_lit (Kd.int .u8) _ 5 ?hg (N := 11) ?hd (xs := ([a0] : List Int)) (inner := [.int .u8 a0]) (ok := fun _ => True) (okp := fun _ => True) ?hr ?hp (fun _ hk => hk) trivial (Below.refl _ _) (Nat.le_refl _) (by simp) ?_; (case hd => rfl); (case hg => rfl); (case hr => first | (go_simp; done) | (go_simp; rfl)); (case hp => exact (Reps.one (show Kd.M (Kd.int .u8) _ _ _ a0 [.int .u8 a0] from rfl) (Reps.none _ _))); intro v140 w5 ho6 hb hg_ hnew_; clear hg_ hnew_; (first | rw [← Ny139.out] at ho6 | (simp only [Int.reduceToNat] at ho6; rw [← Ny139.out] at ho6)); have n0_ := Aside0.mk (Kd.R_lower ho6 (below_size (by repeat (first | (with_reducible first | exact HB.out | apply below_alloc | apply pw_below_drewN | apply below_drew1) | exact HB.out)))); have n1_ := Aside0.mk (below_step (by repeat (first | (with_reducible first | exact HB.out | apply below_alloc | apply pw_below_drewN | apply below_drew1) | exact HB.out)) hb); clear HB; have HO141 := n0_; have HB := n1_; clear n0_ n1_; clear hb ho6; have hcv7 := own_string (P := Try.prog) Try.underlying28 Try.underlying5 Try.underlying9 (Kd.own_of_R HO141.out)))
        go_ret
        exact ⟨by first | rfl | (simp [errW_none, errW_some] <;> rfl) | (simp [*, errW_none, errW_some] <;> rfl), by repeat (first | (with_reducible first | exact HB.out | apply below_alloc | apply pw_below_drewN | apply below_drew1) | exact HB.out)⟩

end Go.Proofs.Ytlbokaekhjjabaa.T

/-
  The contracts of what the reference's Next calls.
-/
namespace Go.Proofs.Ytlbokaekhjjabaa.PureT
open Go.RowKit Go.Proofs.Ytlbokaekhjjabaa Go.Proofs.Ytlbokaekhjjabaa.T Go.Proofs.YtlbokaekhjjabaaW.PrintWords Go.Proofs.YtlbokaekhjjabaaW.PrintLast Go.Proofs.YtlbokaekhjjabaaW.PrintMore
set_option linter.unusedVariables false

theorem skip6_l (s : ByteArray) (hs : s.size ≤ 140737488351232) (m : Nat) : ∀ (p k : Nat), s.size - p < m → glossatorref14_Skip.l0 (k + m) s p = some ((skipF s p : Nat) : Int) := by
  induction m with
  | zero => intro p k h; omega
  | succ m ih =>
    intro p k h
    rw [show k + (m + 1) = (k + m) + 1 from rfl, glossatorref14_Skip.l0, skipF]
    by_cases hp : p < s.size
    · rw [if_pos (by omega), if_pos (by omega), dif_pos hp, bt_at s p hp, wrap_1 p (by omega), ih (p + 1) k (by omega)]
      by_cases hb : blankB (byteAt s p) = true
      · rw [if_pos hb]
        rcases (blank_or _).mp hb with h | h | h | h <;> rw [h] <;> rfl
      · rw [if_neg hb]
        have hn := fun h => hb ((blank_or (byteAt s p)).mpr h)
        rw [if_neg (fun h => hn (.inl h)), if_neg (fun h => hn (.inr (.inl h))), if_neg (fun h => hn (.inr (.inr (.inl h)))), if_neg (fun h => hn (.inr (.inr (.inr h))))]
    · rw [if_neg (by omega), dif_neg hp]
/-- The reference's kind: '?' where the code's is none. -/
def kind6 (c : Int) : Int := if kindF c = 0 then 63 else kindF c
theorem kind6_f (c : Int) (k : Nat) : glossatorref14_Kind.f (k + 1) c = some (kind6 c) := by
  unfold glossatorref14_Kind.f
  simp only [glossatorref14_Kind.j0]
  have e : ∀ x : Int, c ≠ x → (c == x) = false := fun x h => by simpa using h
  by_cases h1 : c = 91
  · subst h1; rfl
  by_cases h2 : c = 93
  · subst h2; rfl
  by_cases h3 : c = 123
  · subst h3; rfl
  by_cases h4 : c = 125
  · subst h4; rfl
  by_cases h5 : c = 58
  · subst h5; rfl
  by_cases h6 : c = 44
  · subst h6; rfl
  by_cases h7 : c = 110
  · subst h7; rfl
  by_cases h8 : c = 116
  · subst h8; rfl
  by_cases h9 : c = 102
  · subst h9; rfl
  rw [if_neg h1, if_neg h2, if_neg h3, if_neg h4, if_neg h5, if_neg h6, if_neg h7, if_neg h8, e 102 h9, if_neg (by decide)]
  by_cases a1 : c = 34
  · subst a1; rfl
  rw [if_neg a1]
  by_cases a2 : c = 45
  · subst a2; rfl
  rw [if_neg a2]
  by_cases a3 : 48 ≤ c ∧ c ≤ 57
  · have hkf : kindF c = 78 := by unfold kindF; rw [if_neg a1, if_pos (Or.inr a3)]
    have hk : kind6 c = 78 := by unfold kind6; rw [hkf]; rfl
    rw [hk]
    have : c = 48 ∨ c = 49 ∨ c = 50 ∨ c = 51 ∨ c = 52 ∨ c = 53 ∨ c = 54 ∨ c = 55 ∨ c = 56 ∨ c = 57 := by omega
    rcases this with rfl | rfl | rfl | rfl | rfl | rfl | rfl | rfl | rfl | rfl <;> rfl
  · have hkf : kindF c = 0 := by unfold kindF; rw [if_neg a1, if_neg (show ¬ (c = 45 ∨ 48 ≤ c ∧ c ≤ 57) by omega), if_neg (show ¬ (c = 91 ∨ c = 93 ∨ c = 123 ∨ c = 125 ∨ c = 58 ∨ c = 44 ∨ c = 110 ∨ c = 116 ∨ c = 102) by omega)]
    have hk : kind6 c = 63 := by unfold kind6; rw [hkf]; rfl
    rw [hk, if_neg (by omega), if_neg (by omega), if_neg (by omega), if_neg (by omega), if_neg (by omega), if_neg (by omega), if_neg (by omega), if_neg (by omega), if_neg (by omega), if_neg (by omega)]
theorem word6_f (c : Int) : glossatorref14_word.f c = some (wordF c) := by
  unfold glossatorref14_word.f wordF
  by_cases h1 : c = 110
  · rw [if_pos h1, if_pos h1]
  rw [if_neg h1, if_neg h1]
  by_cases h2 : c = 116
  · rw [if_pos h2, if_pos h2]
  rw [if_neg h2, if_neg h2]
  by_cases h3 : c = 102
  · rw [if_pos h3, if_pos h3]
  rw [if_neg h3, if_neg h3]
  rfl
theorem skip6_any (s : ByteArray) (hs : s.size ≤ 140737488351232) (p : Nat) (w : World) : Calls Try.prog 63 #[.string s, .int .i64 p] w (Ret (.int .i64 (skipF s p : Nat)) w) :=
  (glossatorref14_Skip.calls (0 + (s.size + 1)) s p _ w (skip6_l s hs _ p 0 (by omega))).mono fun e w' ⟨h1, h2⟩ => ⟨h1, h2.below⟩
theorem kind6_any (c : Int) (w : World) : Calls Try.prog 64 #[.int .u8 c] w (Ret (.int .u8 (kind6 c)) w) :=
  (glossatorref14_Kind.calls 1 c _ w (kind6_f c 0)).mono fun e w' ⟨h1, h2⟩ => ⟨h1, h2.below⟩
theorem word6_any (c : Int) (w : World) : Calls Try.prog 66 #[.int .u8 c] w (Ret (.string (wordF c)) w) := glossatorref14_word.calls c _ w (word6_f c)
theorem scan38_any (s : ByteArray) (hs : s.size ≤ 140737488351232) (w : World) : Calls Try.prog 38 #[.string s] w (Ret (.tuple #[.string (Pure.strV (scanF s)).1, .int .i64 (Pure.strV (scanF s)).2.1, .int .i64 (Pure.strV (scanF s)).2.2]) w) :=
  glossatorref03_Scan.calls s _ _ _ w (by unfold glossatorref03_Scan.f; rw [if_pos hs])

/-! ### The reference's number is the code's -/
theorem dgB_iff (c : Int) : dgB c = true ↔ 48 ≤ c ∧ c ≤ 57 := by unfold dgB; simp
/-- How many digits stand there. -/
def runF (s : ByteArray) (p : Nat) : Nat := if h : p < s.size then (if dgB (byteAt s p) = true then runF s (p + 1) + 1 else 0) else 0
  termination_by s.size - p
theorem run_l (s : ByteArray) (hs : s.size ≤ 140737488351232) (p m : Nat) : ∀ (n k : Nat), s.size - (p + n) < m → p + n ≤ s.size + 1 → glossatorref07_run.l0 (k + m) s p n = some ((n + runF s (p + n) : Nat) : Int) := by
  induction m with
  | zero => intro n k h; omega
  | succ m ih =>
    intro n k h hn
    rw [show k + (m + 1) = (k + m) + 1 from rfl, glossatorref07_run.l0, wrap_nat p n (by omega), runF]
    by_cases hp : p + n < s.size
    · rw [if_pos (by omega), if_pos (by omega), dif_pos hp, bt_at s (p + n) hp, wrap_1 n (by omega)]
      by_cases hd : dgB (byteAt s (p + n)) = true
      · have := (dgB_iff _).mp hd
        rw [if_pos hd, if_pos this.1, if_pos this.2, ih (n + 1) k (by omega) (by omega)]
        congr 2
        rw [show p + (n + 1) = p + n + 1 from rfl]; omega
      · rw [if_neg hd]
        have hnd := fun h => hd ((dgB_iff (byteAt s (p + n))).mpr h)
        by_cases h48 : byteAt s (p + n) ≥ 48
        · rw [if_pos h48, if_neg (fun h => hnd ⟨h48, h⟩)]; rfl
        · rw [if_neg h48]; rfl
    · rw [if_neg (by omega), dif_neg hp]; rfl
theorem run_f (s : ByteArray) (hs : s.size ≤ 140737488351232) (p k : Nat) (hp : p ≤ s.size + 1) : glossatorref07_run.f (k + (s.size + 2)) s p = some ((runF s p : Nat) : Int) := by
  have h := run_l s hs p (s.size + 2) 0 k (by omega) (by omega)
  rw [Nat.zero_add, Nat.add_zero] at h
  exact h
theorem runF_le (s : ByteArray) (m : Nat) : ∀ p, s.size - p < m → p ≤ s.size → p + runF s p ≤ s.size := by
  induction m with
  | zero => intro p h; omega
  | succ m ih =>
    intro p h hp
    rw [runF]
    by_cases h1 : p < s.size
    · rw [dif_pos h1]
      by_cases hd : dgB (byteAt s p) = true
      · rw [if_pos hd]; have := ih (p + 1) (by omega) (by omega); omega
      · rw [if_neg hd]; omega
    · rw [dif_neg h1]; omega
theorem runF_at (s : ByteArray) (p : Nat) (hp : p ≤ s.size) : p + runF s p ≤ s.size := runF_le s _ p (Nat.lt_succ_self _) hp
/-- Behind the digits stands none. -/
theorem runF_stop (s : ByteArray) (m : Nat) : ∀ p, s.size - p < m → ¬ (p + runF s p < s.size ∧ dgB (byteAt s (p + runF s p)) = true) := by
  induction m with
  | zero => intro p h; omega
  | succ m ih =>
    intro p h
    rw [runF]
    by_cases h1 : p < s.size
    · rw [dif_pos h1]
      by_cases hd : dgB (byteAt s p) = true
      · rw [if_pos hd, show p + (runF s (p + 1) + 1) = p + 1 + runF s (p + 1) by omega]; exact ih (p + 1) (by omega)
      · rw [if_neg hd]; exact fun h => hd h.2
    · rw [dif_neg h1]; exact fun h => h1 (by omega)
theorem runF_end (s : ByteArray) (p : Nat) : ¬ (p + runF s p < s.size ∧ dgB (byteAt s (p + runF s p)) = true) := runF_stop s _ p (Nat.lt_succ_self _)
theorem runF_0 {s : ByteArray} {p : Nat} (h : runF s p = 0) : ¬ (p < s.size ∧ dgB (byteAt s p) = true) := by have := runF_end s p; rw [h] at this; exact this
theorem runF_pos {s : ByteArray} {p : Nat} (h : runF s p ≠ 0) : p < s.size ∧ dgB (byteAt s p) = true := by
  rw [runF] at h
  by_cases h1 : p < s.size
  · rw [dif_pos h1] at h
    by_cases hd : dgB (byteAt s p) = true
    · exact ⟨h1, hd⟩
    · rw [if_neg hd] at h; exact absurd rfl h
  · rw [dif_neg h1] at h; exact absurd rfl h
/-- Digits keep these states. -/
theorem go_run (s : ByteArray) (st : Int) (hst : st = 3 ∨ st = 5 ∨ st = 8) (m : Nat) : ∀ p, s.size - p < m → numGo s p st = numGo s (p + runF s p) st := by
  have keep : ∀ c, dgB c = true → nst st c = st := by
    intro c hc
    have h := (dgB_iff c).mp hc
    unfold nst
    rcases hst with rfl | rfl | rfl
    · rw [if_neg (by decide), if_pos (by decide), if_neg (by omega), if_neg (by omega), if_pos ⟨hc, by decide⟩]
    · rw [if_neg (by decide), if_pos (by decide), if_neg (by omega), if_neg (by omega), if_pos ⟨hc, by decide⟩]
    · rw [if_neg (by decide), if_neg (by decide), if_neg (by decide), if_pos (by decide), if_neg (by omega), if_pos hc]
  induction m with
  | zero => intro p h; omega
  | succ m ih =>
    intro p h
    rw [runF]
    by_cases h1 : p < s.size
    · rw [dif_pos h1]
      by_cases hd : dgB (byteAt s p) = true
      · rw [if_pos hd, show p + (runF s (p + 1) + 1) = p + 1 + runF s (p + 1) by omega, ← ih (p + 1) (by omega)]
        rw [numGo, dif_pos h1, keep _ hd, if_neg (by rcases hst with rfl | rfl | rfl <;> decide)]
      · rw [if_neg hd]; rfl
    · rw [dif_neg h1]; rfl
theorem go_digits (s : ByteArray) (st : Int) (hst : st = 3 ∨ st = 5 ∨ st = 8) (p : Nat) : numGo s p st = numGo s (p + runF s p) st := go_run s st hst _ p (Nat.lt_succ_self _)
/-- No digit where one must stand. -/
def badF (s : ByteArray) (p : Nat) : Nat × Int := if s.size ≤ p then (s.size, 3) else (p, 4)
theorem go_nine {s : ByteArray} {p : Nat} {st : Int} (hp : p < s.size) (h : nst st (byteAt s p) = 9) : numGo s p st = if endsB st = true then (p, 0) else (p, 4) := by rw [numGo, dif_pos hp, if_pos h]
theorem go_one {s : ByteArray} {p : Nat} {st st' : Int} (hp : p < s.size) (h : nst st (byteAt s p) = st') (h9 : st' ≠ 9) : numGo s p st = numGo s (p + 1) st' := by rw [numGo, dif_pos hp, h, if_neg h9]
theorem go_end {s : ByteArray} {p : Nat} {st : Int} (hp : ¬ p < s.size) : numGo s p st = if endsB st = true then (s.size, 0) else (s.size, 3) := by rw [numGo, dif_neg hp]
/-- The end of a number: behind an e. -/
def expF (s : ByteArray) (p : Nat) : Nat × Int := if runF s p = 0 then badF s p else (p + runF s p, 0)
theorem go_8 (s : ByteArray) (p : Nat) (hp : p ≤ s.size) : numGo s p 8 = (p + runF s p, 0) := by
  rw [go_digits s 8 (by decide)]
  have h1 := runF_end s p
  have h2 := runF_at s p hp
  obtain ⟨q, hq⟩ : ∃ q, p + runF s p = q := ⟨_, rfl⟩
  rw [hq] at h1 h2 ⊢
  by_cases h : q < s.size
  · rw [go_nine h (by
      have hd : ¬ dgB (byteAt s q) = true := fun hd => h1 ⟨h, hd⟩
      unfold nst
      rw [if_neg (by decide), if_neg (by decide), if_neg (by decide), if_pos (by decide), if_neg (by omega), if_neg hd])]
    rfl
  · rw [go_end h, show q = s.size by omega]; rfl
theorem go_7 (s : ByteArray) (p : Nat) (hp : p ≤ s.size) : numGo s p 7 = expF s p := by
  unfold expF
  by_cases hr : runF s p = 0
  · rw [if_pos hr]
    have h0 := runF_0 hr
    unfold badF
    by_cases h : p < s.size
    · have hd : ¬ dgB (byteAt s p) = true := fun hd => h0 ⟨h, hd⟩
      rw [if_neg (by omega), go_nine h (by
        unfold nst
        rw [if_neg (by decide), if_neg (by decide), if_neg (by decide), if_pos (by decide), if_neg (by omega), if_neg hd])]
      rfl
    · rw [if_pos (by omega), go_end h]; rfl
  · rw [if_neg hr]
    obtain ⟨h, hd⟩ := runF_pos hr
    rw [go_one (st' := 8) h (by
      unfold nst
      rw [if_neg (by decide), if_neg (by decide), if_neg (by decide), if_pos (by decide), if_neg (by omega), if_pos hd]) (by decide), go_8 s (p + 1) (by omega)]
    have : runF s p = runF s (p + 1) + 1 := by rw [runF, dif_pos h, if_pos hd]
    rw [this]; congr 1; omega
/-- Where the digits of an e begin: behind a sign. -/
def signF (s : ByteArray) (p : Nat) : Nat := if p < s.size ∧ (byteAt s p = 43 ∨ byteAt s p = 45) then p + 1 else p
theorem go_6 (s : ByteArray) (p : Nat) (hp : p ≤ s.size) : numGo s p 6 = expF s (signF s p) := by
  unfold signF
  by_cases hg : p < s.size ∧ (byteAt s p = 43 ∨ byteAt s p = 45)
  · rw [if_pos hg, go_one (st' := 7) hg.1 (by
      unfold nst
      rw [if_neg (by decide), if_neg (by decide), if_neg (by decide), if_pos (by decide), if_pos ⟨hg.2, rfl⟩]) (by decide), go_7 s (p + 1) (by omega)]
  · rw [if_neg hg, ← go_7 s p hp]
    by_cases h : p < s.size
    · have hn : ¬ (byteAt s p = 43 ∨ byteAt s p = 45) := fun h' => hg ⟨h, h'⟩
      have e6 : nst 6 (byteAt s p) = if dgB (byteAt s p) = true then 8 else 9 := by
        unfold nst
        rw [if_neg (by decide), if_neg (by decide), if_neg (by decide), if_pos (by decide), if_neg (fun h => hn h.1)]
      have e7 : nst 7 (byteAt s p) = if dgB (byteAt s p) = true then 8 else 9 := by
        unfold nst
        rw [if_neg (by decide), if_neg (by decide), if_neg (by decide), if_pos (by decide), if_neg (fun h => hn h.1)]
      by_cases hd : dgB (byteAt s p) = true
      · rw [if_pos hd] at e6 e7
        rw [go_one h e6 (by decide), go_one h e7 (by decide)]
      · rw [if_neg hd] at e6 e7
        rw [go_nine h e6, go_nine h e7]
        rfl
    · rw [go_end h, go_end h]; rfl
/-- Behind the whole part and the part behind the point. -/
def eF (s : ByteArray) (p : Nat) : Nat × Int := if p < s.size ∧ (byteAt s p = 101 ∨ byteAt s p = 69) then expF s (signF s (p + 1)) else (p, 0)
theorem go_5 (s : ByteArray) (p : Nat) (hp : p ≤ s.size) (h0 : ¬ (p < s.size ∧ dgB (byteAt s p) = true)) : numGo s p 5 = eF s p := by
  unfold eF
  by_cases h : p < s.size
  · have hd : ¬ dgB (byteAt s p) = true := fun hd => h0 ⟨h, hd⟩
    by_cases he : byteAt s p = 101 ∨ byteAt s p = 69
    · rw [if_pos ⟨h, he⟩, go_one (st' := 6) h (by
        unfold nst
        rw [if_neg (by decide), if_pos (by decide), if_neg (by omega), if_pos he]) (by decide), go_6 s (p + 1) (by omega)]
    · rw [if_neg (fun h => he h.2), go_nine h (by
        unfold nst
        rw [if_neg (by decide), if_pos (by decide), if_neg (by omega), if_neg he, if_neg (fun h => hd h.1)])]
      rfl
  · rw [if_neg (fun h' => h h'.1), go_end h, show p = s.size by omega]; rfl
/-- Behind the whole part. -/
def dotF (s : ByteArray) (p : Nat) : Nat × Int := if p < s.size ∧ byteAt s p = 46 then (if runF s (p + 1) = 0 then badF s (p + 1) else eF s (p + 1 + runF s (p + 1))) else eF s p
theorem go_4 (s : ByteArray) (p : Nat) (hp : p ≤ s.size) : numGo s p 4 = if runF s p = 0 then badF s p else eF s (p + runF s p) := by
  by_cases hr : runF s p = 0
  · rw [if_pos hr]
    have h0 := runF_0 hr
    unfold badF
    by_cases h : p < s.size
    · have hd : ¬ dgB (byteAt s p) = true := fun hd => h0 ⟨h, hd⟩
      rw [if_neg (by omega), go_nine h (by
        unfold nst
        rw [if_neg (by decide), if_neg (by decide), if_pos (by decide), if_neg hd])]
      rfl
    · rw [if_pos (by omega), go_end h]; rfl
  · rw [if_neg hr]
    obtain ⟨h, hd⟩ := runF_pos hr
    rw [go_one (st' := 5) h (by
      unfold nst
      rw [if_neg (by decide), if_neg (by decide), if_pos (by decide), if_pos hd]) (by decide), go_digits s 5 (by decide)]
    have e : runF s p = runF s (p + 1) + 1 := by rw [runF, dif_pos h, if_pos hd]
    have h1 := runF_at s (p + 1) (by omega)
    rw [go_5 s _ h1 (runF_end s (p + 1)), e]
    congr 1; omega
theorem go_23 (s : ByteArray) (st : Int) (hst : st = 2 ∨ st = 3) (p : Nat) (hp : p ≤ s.size) (h0 : st = 3 → ¬ (p < s.size ∧ dgB (byteAt s p) = true)) : numGo s p st = dotF s p := by
  have e1 : ¬ (st = 0 ∨ st = 1) := by omega
  have e2 : st = 2 ∨ st = 3 ∨ st = 5 := by omega
  unfold dotF
  by_cases h : p < s.size
  · by_cases hd : byteAt s p = 46
    · rw [if_pos ⟨h, hd⟩, go_one (st' := 4) h (by
        unfold nst
        rw [if_neg e1, if_pos e2, if_pos ⟨hd, by omega⟩]) (by decide), go_4 s (p + 1) (by omega)]
    · rw [if_neg (fun h' => hd h'.2)]
      unfold eF
      by_cases he : byteAt s p = 101 ∨ byteAt s p = 69
      · rw [if_pos ⟨h, he⟩, go_one (st' := 6) h (by
          unfold nst
          rw [if_neg e1, if_pos e2, if_neg (fun h => hd h.1), if_pos he]) (by decide), go_6 s (p + 1) (by omega)]
      · rw [if_neg (fun h => he h.2), go_nine h (by
          unfold nst
          rw [if_neg e1, if_pos e2, if_neg (fun h => hd h.1), if_neg he, if_neg (fun h' => by rcases hst with h2 | h2; exact h'.2 h2; exact h0 h2 ⟨h, h'.1⟩)])]
        rw [if_pos (by rcases hst with rfl | rfl <;> rfl)]
  · rw [if_neg (fun h' => h h'.1)]
    unfold eF
    rw [if_neg (fun h' => h h'.1), go_end h, if_pos (by rcases hst with rfl | rfl <;> rfl), show p = s.size by omega]
/-- From a first digit on. -/
def wholeF (s : ByteArray) (p : Nat) : Nat × Int := if runF s p = 0 then badF s p else if byteAt s p = 48 then dotF s (p + 1) else dotF s (p + runF s p)
theorem go_01 (s : ByteArray) (st : Int) (hst : st = 0 ∨ st = 1) (p : Nat) (hp : p ≤ s.size) (h0 : st = 0 → ¬ (p < s.size ∧ byteAt s p = 45)) : numGo s p st = wholeF s p := by
  unfold wholeF
  by_cases hr : runF s p = 0
  · rw [if_pos hr]
    have hd0 := runF_0 hr
    unfold badF
    by_cases h : p < s.size
    · have hd : ¬ dgB (byteAt s p) = true := fun hd => hd0 ⟨h, hd⟩
      rw [if_neg (by omega), go_nine h (by
        unfold nst
        rw [if_pos hst, if_neg (fun h' => h0 h'.2 ⟨h, h'.1⟩), if_neg (fun h' => hd (by rw [h']; rfl)), if_neg hd])]
      rw [if_neg (by rcases hst with rfl | rfl <;> decide)]
    · rw [if_pos (by omega), go_end h, if_neg (by rcases hst with rfl | rfl <;> decide)]
  · rw [if_neg hr]
    obtain ⟨h, hd⟩ := runF_pos hr
    have hd' := (dgB_iff _).mp hd
    by_cases h48 : byteAt s p = 48
    · rw [if_pos h48, go_one (st' := 2) h (by
        unfold nst
        rw [if_pos hst, if_neg (by omega), if_pos h48]) (by decide), go_23 s 2 (.inl rfl) (p + 1) (by omega) (fun h => by cases h)]
    · rw [if_neg h48, go_one (st' := 3) h (by
        unfold nst
        rw [if_pos hst, if_neg (by omega), if_neg h48, if_pos hd]) (by decide), go_digits s 3 (by decide)]
      have e : runF s p = runF s (p + 1) + 1 := by rw [runF, dif_pos h, if_pos hd]
      have h1 := runF_at s (p + 1) (by omega)
      rw [go_23 s 3 (.inr rfl) _ h1 (fun _ => runF_end s (p + 1)), e]
      congr 1; omega
theorem numF_whole (s : ByteArray) : numF s = if 0 < s.size ∧ byteAt s 0 = 45 then wholeF s 1 else wholeF s 0 := by
  unfold numF
  by_cases h : 0 < s.size ∧ byteAt s 0 = 45
  · rw [if_pos h, go_one (st' := 1) h.1 (by
      unfold nst
      rw [if_pos (by decide), if_pos ⟨h.2, rfl⟩]) (by decide), go_01 s 1 (.inr rfl) 1 (by omega) (fun h => by cases h)]
  · rw [if_neg h, go_01 s 0 (.inl rfl) 0 (Nat.zero_le _) (fun _ => h)]

theorem toList_nil (s : ByteArray) : s.toList = ([] : List UInt8) ↔ s.size = 0 := by
  constructor
  · intro hz
    refine Classical.byContradiction fun h => (ne_nil s (by omega)).2 hz
  · intro h
    have : s = ByteArray.empty := by
      refine ByteArray.ext ?_
      exact Array.eq_empty_of_size_eq_zero (by have : s.data.size = s.size := rfl; omega)
    rw [this]; decide +kernel
def numV (r : Nat × Int) : Int × Int := ((r.1 : Int), r.2)
theorem bad_f (s : ByteArray) (p : Nat) : glossatorref07_bad.f s p = some (numV (badF s p)) := by
  unfold glossatorref07_bad.f badF
  by_cases h : s.size ≤ p
  · rw [if_pos (by omega), if_pos h]; rfl
  · rw [if_neg (by omega), if_neg h]; rfl
theorem j7_f (s : ByteArray) (hs : s.size ≤ 140737488351232) (p k : Nat) (hp : p ≤ s.size) : glossatorref07_Scan.j7 (k + (s.size + 2) + 1) s p = some (numV (expF s p)) := by
  rw [glossatorref07_Scan.j7, run_f s hs p k (by omega), Option.bind_some]
  unfold expF
  have hr := runF_at s p hp
  by_cases h : runF s p = 0
  · rw [if_pos (by omega), if_pos h, bad_f, Option.bind_some]
  · rw [if_neg (by omega), if_neg h, wrap_nat p _ (by omega)]; rfl
theorem j5_f (s : ByteArray) (hs : s.size ≤ 140737488351232) (p k : Nat) (hp : p ≤ s.size) (b : Bool) (hb : b = decide (p < s.size ∧ (byteAt s p = 101 ∨ byteAt s p = 69))) :
    glossatorref07_Scan.j5 (k + (s.size + 2) + 3) s p b = some (numV (eF s p)) := by
  rw [show k + (s.size + 2) + 3 = (k + (s.size + 2) + 2) + 1 from rfl, glossatorref07_Scan.j5]
  unfold eF
  by_cases h : p < s.size ∧ (byteAt s p = 101 ∨ byteAt s p = 69)
  · rw [hb, if_pos (decide_eq_true h), if_pos h, wrap_1 p (by omega)]
    unfold signF
    have hj6 : ∀ b : Bool, ∀ q : Nat, q + 1 ≤ s.size ∨ b = false → q ≤ s.size → glossatorref07_Scan.j6 (k + (s.size + 2) + 2) s q b = some (numV (expF s (if b = true then q + 1 else q))) := by
      intro b q hbq hq
      rw [show k + (s.size + 2) + 2 = (k + (s.size + 2) + 1) + 1 from rfl, glossatorref07_Scan.j6]
      cases b with
      | true => rw [if_pos rfl, if_pos rfl, wrap_1 q (by omega)]; exact j7_f s hs (q + 1) k (by rcases hbq with h | h; exact h; cases h)
      | false => rw [if_neg (by decide), if_neg (by decide)]; exact j7_f s hs q k hq
    by_cases hz : p + 1 < s.size
    · rw [if_pos (by omega), if_pos (by omega), bt_at s (p + 1) hz]
      by_cases h43 : byteAt s (p + 1) = 43
      · rw [if_pos h43, hj6 true (p + 1) (.inl (by omega)) (by omega), if_pos rfl, if_pos ⟨hz, .inl h43⟩]
      · rw [if_neg h43]
        by_cases h45 : byteAt s (p + 1) = 45
        · rw [show (byteAt s (p + 1) == 45) = true by simpa using h45, hj6 true (p + 1) (.inl (by omega)) (by omega), if_pos rfl, if_pos ⟨hz, .inr h45⟩]
        · rw [show (byteAt s (p + 1) == 45) = false by simpa using h45, hj6 false (p + 1) (.inr rfl) (by omega), if_neg (by decide), if_neg (fun h => by rcases h.2 with h | h; exact h43 h; exact h45 h)]
    · rw [if_neg (by omega), hj6 false (p + 1) (.inr rfl) (by omega), if_neg (by decide), if_neg (fun h => hz h.1)]
  · rw [hb, if_neg (by simpa using h), if_neg h]; rfl
theorem j4_f (s : ByteArray) (hs : s.size ≤ 140737488351232) (p k : Nat) (hp : p ≤ s.size) : glossatorref07_Scan.j4 (k + (s.size + 2) + 4) s p = some (numV (eF s p)) := by
  rw [show k + (s.size + 2) + 4 = (k + (s.size + 2) + 3) + 1 from rfl, glossatorref07_Scan.j4]
  by_cases hz : p < s.size
  · rw [if_pos (by omega), if_pos (by omega), bt_at s p hz]
    by_cases h : byteAt s p = 101
    · rw [if_pos h, j5_f s hs p k hp true (by symm; exact decide_eq_true ⟨hz, .inl h⟩)]
    · rw [if_neg h]
      by_cases h2 : byteAt s p = 69
      · rw [j5_f s hs p k hp _ (by rw [h2]; symm; simpa using hz)]
      · rw [j5_f s hs p k hp _ (by rw [show (byteAt s p == 69) = false by simpa using h2]; symm; exact decide_eq_false (fun h' => by rcases h'.2 with h3 | h3; exact h h3; exact h2 h3))]
  · rw [if_neg (by omega), j5_f s hs p k hp false (by symm; exact decide_eq_false (fun h => hz h.1))]
theorem j3_f (s : ByteArray) (hs : s.size ≤ 140737488351232) (p k : Nat) (hp : p ≤ s.size) (b : Bool) (hb : b = decide (p < s.size ∧ byteAt s p = 46)) : glossatorref07_Scan.j3 (k + (s.size + 2) + 5) s p b = some (numV (dotF s p)) := by
  rw [show k + (s.size + 2) + 5 = (k + (s.size + 2) + 4) + 1 from rfl, glossatorref07_Scan.j3]
  unfold dotF
  by_cases h : p < s.size ∧ byteAt s p = 46
  · have hr := runF_at s (p + 1) (by omega)
    rw [hb, if_pos (decide_eq_true h), if_pos h, wrap_1 p (by omega), show k + (s.size + 2) + 4 = (k + 4) + (s.size + 2) by omega, run_f s hs (p + 1) (k + 4) (by omega), Option.bind_some]
    by_cases h0 : runF s (p + 1) = 0
    · rw [if_pos (by omega), if_pos h0, bad_f, Option.bind_some]
    · rw [if_neg (by omega), if_neg h0, wrap_nat (p + 1) _ (by omega), show (k + 4) + (s.size + 2) = k + (s.size + 2) + 4 by omega, j4_f s hs _ k hr]
  · rw [hb, if_neg (by simpa using h), if_neg h, j4_f s hs p k hp]
theorem j2_f (s : ByteArray) (hs : s.size ≤ 140737488351232) (p n k : Nat) (hp : p + n ≤ s.size) : glossatorref07_Scan.j2 (k + (s.size + 2) + 6) s p n = some (numV (dotF s (p + n))) := by
  rw [show k + (s.size + 2) + 6 = (k + (s.size + 2) + 5) + 1 from rfl, glossatorref07_Scan.j2, wrap_nat p n (by omega)]
  by_cases hz : p + n < s.size
  · rw [if_pos (by omega), if_pos (by omega), bt_at s (p + n) hz]
    by_cases h : byteAt s (p + n) = 46
    · rw [j3_f s hs (p + n) k hp _ (by rw [h]; symm; simpa using hz)]
    · rw [j3_f s hs (p + n) k hp _ (by rw [show (byteAt s (p + n) == 46) = false by simpa using h]; symm; exact decide_eq_false (fun h' => h h'.2))]
  · rw [if_neg (by omega), j3_f s hs (p + n) k hp false (by symm; exact decide_eq_false (fun h => hz h.1))]
theorem j1_f (s : ByteArray) (hs : s.size ≤ 140737488351232) (p k : Nat) (hp : p ≤ s.size) : glossatorref07_Scan.j1 (k + (s.size + 2) + 7) s p = some (numV (wholeF s p)) := by
  rw [show k + (s.size + 2) + 7 = (k + (s.size + 2) + 6) + 1 from rfl, glossatorref07_Scan.j1, show k + (s.size + 2) + 6 = (k + 6) + (s.size + 2) by omega, run_f s hs p (k + 6) (by omega), Option.bind_some]
  unfold wholeF
  have hr := runF_at s p hp
  by_cases h0 : runF s p = 0
  · rw [if_pos (by omega), if_pos h0, bad_f, Option.bind_some]
  · obtain ⟨hz, hd⟩ := runF_pos h0
    rw [if_neg (by omega), if_neg h0, if_pos (by omega), if_pos (by omega), bt_at s p hz, show (k + 6) + (s.size + 2) = k + (s.size + 2) + 6 by omega]
    by_cases h48 : byteAt s p = 48
    · rw [if_pos h48, if_pos h48]
      exact j2_f s hs p 1 k (by omega)
    · rw [if_neg h48, if_neg h48]
      exact j2_f s hs p (runF s p) k hr
theorem num65_f (s : ByteArray) (hs : s.size ≤ 140737488351232) : glossatorref07_Scan.f (0 + (s.size + 2) + 8) s = some (numV (numF s)) := by
  unfold glossatorref07_Scan.f
  have hj0 : ∀ b : Bool, b = decide (0 < s.size ∧ byteAt s 0 = 45) → glossatorref07_Scan.j0 (0 + (s.size + 2) + 8) s 0 b = some (numV (numF s)) := by
    intro b hb
    rw [show 0 + (s.size + 2) + 8 = (0 + (s.size + 2) + 7) + 1 from rfl, glossatorref07_Scan.j0, numF_whole]
    by_cases h : 0 < s.size ∧ byteAt s 0 = 45
    · rw [hb, if_pos (decide_eq_true h), if_pos h]
      exact j1_f s hs 1 0 (by omega)
    · rw [hb, if_neg (by simpa using h), if_neg h]
      exact j1_f s hs 0 0 (Nat.zero_le _)
  by_cases hz : s.size = 0
  · rw [if_pos ((toList_nil s).mpr hz), hj0 false (by symm; exact decide_eq_false (fun h => by omega))]
  · rw [if_neg (fun h => hz ((toList_nil s).mp h)), if_pos (by omega)]
    have hb : bt s 0 = byteAt s 0 := bt_at s 0 (by omega)
    rw [hb]
    by_cases h : byteAt s 0 = 45
    · rw [hj0 _ (by rw [h]; symm; exact decide_eq_true ⟨by omega, rfl⟩)]
    · rw [hj0 _ (by rw [show (byteAt s 0 == 45) = false by simpa using h]; symm; exact decide_eq_false (fun h' => h h'.2))]
theorem num65_any (s : ByteArray) (hs : s.size ≤ 140737488351232) (w : World) : Calls Try.prog 65 #[.string s] w (Ret (.tuple #[.int .i64 (numF s).1, .int .i64 (numF s).2]) w) :=
  (glossatorref07_Scan.calls _ s _ _ w (num65_f s hs)).mono fun e w' ⟨h1, h2⟩ => ⟨h1, h2.below⟩
end Go.Proofs.Ytlbokaekhjjabaa.PureT

/-
  The reference's Next: its walk.
-/
namespace Go.Proofs.Ytlbokaekhjjabaa
open Go.RowKit PureT Go.Proofs.YtlbokaekhjjabaaW.PrintWords
set_option linter.unusedVariables false

/-- A token's block. -/
def Row6 (W : World) (g : Nat) (a b c d : Value) : Prop := W.heap[g]? = some (.cells #[a, b, c, d] 63 (0, 0))
section
variable {W : World} {g : Nat} {a b c d : Value} (h : Row6 W g a b c d)
include h
theorem Row6.c0 : W.cell? ⟨g, 0, none⟩ = some a := cell_of_row W g 0 _ _ _ h
theorem Row6.c1 : W.cell? ⟨g, 1, none⟩ = some b := cell_of_row W g 1 _ _ _ h
theorem Row6.c2 : W.cell? ⟨g, 2, none⟩ = some c := cell_of_row W g 2 _ _ _ h
theorem Row6.c3 : W.cell? ⟨g, 3, none⟩ = some d := cell_of_row W g 3 _ _ _ h
theorem Row6.fz (j : Nat) : W.frozen? ⟨g, j, none⟩ = false := frozen_of_row W g j _ _ h
theorem Row6.lt : g < W.heap.size := block_lt_of_cell h.c0
theorem Row6.s0 (v : Value) : Row6 (W.setCell ⟨g, 0, none⟩ v) g v b c d := by
  rw [setCell_eq_setRow W g 0 _ _ _ v h]; exact setRow_heap _ _ _ _ _ _ h
theorem Row6.s1 (v : Value) : Row6 (W.setCell ⟨g, 1, none⟩ v) g a v c d := by
  rw [setCell_eq_setRow W g 1 _ _ _ v h]; exact setRow_heap _ _ _ _ _ _ h
theorem Row6.s2 (v : Value) : Row6 (W.setCell ⟨g, 2, none⟩ v) g a b v d := by
  rw [setCell_eq_setRow W g 2 _ _ _ v h]; exact setRow_heap _ _ _ _ _ _ h
theorem Row6.s3 (v : Value) : Row6 (W.setCell ⟨g, 3, none⟩ v) g a b c v := by
  rw [setCell_eq_setRow W g 3 _ _ _ v h]; exact setRow_heap _ _ _ _ _ _ h
theorem Row6.below {W1 : World} (hb : Below W.heap.size W W1) : Row6 W1 g a b c d := (hb.block g h.lt).trans h
theorem Row6.drew : Row6 W.drew g a b c d := h
theorem Row6.alloc (o : Obj) : Row6 (W.alloc o) g a b c d := (Below.heap_alloc W o g h.lt).trans h
/-- What a store of a whole token meets, cell by cell. -/
theorem Row6.d1 (v : Value) : (W.setCell ⟨g, 0, none⟩ v).cell? ⟨g, 1, none⟩ = some b := (h.s0 v).c1
theorem Row6.d2 (v u : Value) : ((W.setCell ⟨g, 0, none⟩ v).setCell ⟨g, 1, none⟩ u).cell? ⟨g, 2, none⟩ = some c := ((h.s0 v).s1 u).c2
theorem Row6.d3 (v u x : Value) : (((W.setCell ⟨g, 0, none⟩ v).setCell ⟨g, 1, none⟩ u).setCell ⟨g, 2, none⟩ x).cell? ⟨g, 3, none⟩ = some d := (((h.s0 v).s1 u).s2 x).c3
theorem Row6.sets (v u x y : Value) : Row6 ((((W.setCell ⟨g, 0, none⟩ v).setCell ⟨g, 1, none⟩ u).setCell ⟨g, 2, none⟩ x).setCell ⟨g, 3, none⟩ y) g v u x y := (((h.s0 v).s1 u).s2 x).s3 y
end
theorem Row6.new (w : World) (a b c d : Value) : Row6 (w.alloc (.cells #[a, b, c, d] 63)) w.heap.size a b c d := heap_alloc_last w _
theorem below_sets6 {B g : Nat} {w W : World} (h : Below B w W) (hg : B ≤ g) (v u x y : Value) : Below B w ((((W.setCell ⟨g, 0, none⟩ v).setCell ⟨g, 1, none⟩ u).setCell ⟨g, 2, none⟩ x).setCell ⟨g, 3, none⟩ y) :=
  (((h.setCell (p := ⟨g, 0, none⟩) hg _).setCell (p := ⟨g, 1, none⟩) hg _).setCell (p := ⟨g, 2, none⟩) hg _).setCell (p := ⟨g, 3, none⟩) hg _
theorem Row6.other {W : World} {g : Nat} {a b c d : Value} (h : Row6 W g a b c d) {g' : Nat} (hne : g ≠ g') (j : Nat) (v : Value) : Row6 (W.setCell ⟨g', j, none⟩ v) g a b c d :=
  (Below.heap_setCell W _ v g (fun e => hne (by rw [e]))).trans h
theorem info63 : (Try.prog.info? 63).map (·.size) = some 4 := by kernel_rfl
/-- The return of a token, a place, an error. -/
theorem ret_tok6 {tmps : Array Value} {W : World} {g : Nat} {a b c d n e : Value} (hp : tmps.getD 4 undef = .pointer (some ⟨g, 0, none⟩)) (h : Row6 W g a b c d) (hn : tmps.getD 5 undef = n) (he : tmps.getD 6 undef = e) :
    (results Try.f40 tmps).run Try.prog W = .ok (.tuple #[.agg #[a, b, c, d], n, e]) W := by
  rw [← hn, ← he]
  exact results_ctt (p := 4) (u := 5) (v := 6) (ty := 63) rfl _ _ g 63 #[a, b, c, d] (0, 0) _ hp h Try.underlying63 rfl info63

theorem Row6.dn {W : World} {g : Nat} {a b c d : Value} (h : Row6 W g a b c d) (m : Nat) : Row6 (W.drewN m) g a b c d := h
set_option maxHeartbeats 4000000 in
set_option maxRecDepth 100000 in
theorem ref_end (s : ByteArray) (hs : s.size ≤ 140737488351232) (p : Nat) (hp : p ≤ s.size) (w : World) (hk : skipF s p = s.size) :
    Calls Try.prog 40 #[.string s, .int .i64 p] w (Ret (.tuple #[.agg #[.int .u8 0, .int .i64 s.size, .int .i64 s.size, .string ⟨#[]⟩], .int .i64 s.size, .int .i64 0]) w) := by
  go_enter Try.func40, Try.ntmps40
  go_wp2_with (fail)
  refine (skip6_any s hs p _).mono ?_
  rintro e1 w1 ⟨rfl, hb1⟩
  rw [hk]
  have R := (Row6.new w (.int .u8 0) (.int .i64 0) (.int .i64 0) (.string ⟨#[]⟩)).below hb1
  have hlt := R.lt
  have hB1 : Below w.heap.size w w1 := ((Below.refl _ w).alloc (Nat.le_refl _) _).trans (hb1.mono (by simp))
  have rc0 := R.c0
  have rf0 := R.fz 0
  have rc1 := fun v => (R.s0 v).c1
  have rf1 := fun v => (R.s0 v).fz 1
  have rc2 := fun v u => ((R.s0 v).s1 u).c2
  have rf2 := fun v u => ((R.s0 v).s1 u).fz 2
  have rc3 := fun v u x => (((R.s0 v).s1 u).s2 x).c3
  have rf3 := fun v u x => (((R.s0 v).s1 u).s2 x).fz 3
  go_wp2_with (fail)
  refine bodyPost_ret (ret_tok6 rfl (R.sets _ _ _ _) rfl rfl) rfl ?_
  exact ⟨rfl, below_sets6 hB1 (Nat.le_refl _) _ _ _ _⟩
set_option maxHeartbeats 4000000 in
set_option maxRecDepth 100000 in
theorem ref_none (s : ByteArray) (hs : s.size ≤ 140737488351232) (p a : Nat) (w : World) (hk : skipF s p = a) (hp : p ≤ s.size) (ha : a < s.size) (h0 : kind6 (byteAt s a) = 63) :
    Calls Try.prog 40 #[.string s, .int .i64 p] w (Ret (.tuple #[.agg #[.int .u8 0, .int .i64 0, .int .i64 0, .string ⟨#[]⟩], .int .i64 a, .int .i64 4]) w) := by
  have hby : byteAt s a = (s[a].toNat : Int) := byteAt_get s a ha
  have hap : ((a : Int) == (s.size : Int)) = false := by simp; omega
  obtain ⟨rest, hrest⟩ : ∃ r, s.extract a s.size = r := ⟨_, rfl⟩
  have hsub : sub s a = rest := hrest
  have hzz : a + rest.size = s.size := by rw [← hsub, sub_size]; omega
  have hz2 := Lib.hid hzz
  clear hzz
  rw [hby] at h0
  go_enter Try.func40, Try.ntmps40
  go_wp2_with (fail)
  refine (skip6_any s hs p _).mono ?_
  rintro e1 w1 ⟨rfl, hb1⟩
  rw [hk]
  have R := (Row6.new w (.int .u8 0) (.int .i64 0) (.int .i64 0) (.string ⟨#[]⟩)).below hb1
  have hlt := R.lt
  have hB1 : Below w.heap.size w w1 := ((Below.refl _ w).alloc (Nat.le_refl _) _).trans (hb1.mono (by simp))
  go_wp2_with (fail)
  refine (kind6_any _ _).mono ?_
  rintro e2 w2 ⟨rfl, hb2⟩
  rw [h0]
  have R2 := R.below hb2
  have hB2 : Below w.heap.size w w2 := hB1.trans (hb2.mono (by omega))
  have hlt2 := R2.lt
  have R3 := R2.alloc (.cells #[.int .u8 63, .int .i64 a, .int .i64 0, .string ⟨#[]⟩] 63)
  have T3 := Row6.new w2 (.int .u8 63) (.int .i64 a) (.int .i64 0) (.string ⟨#[]⟩)
  have hB3 := hB2.alloc hB2.size (.cells #[.int .u8 63, .int .i64 a, .int .i64 0, .string ⟨#[]⟩] 63)
  have hne : w.heap.size ≠ w2.heap.size := by omega
  have rc0 := fun o => (R2.alloc o).c0
  have rf0 := fun o => (R2.alloc o).fz 0
  have rc1 := fun v o => ((R2.s0 v).alloc o).c1
  have rf1 := fun v o => ((R2.s0 v).alloc o).fz 1
  have rc2 := fun v u o => (((R2.s0 v).s1 u).alloc o).c2
  have rf2 := fun v u o => (((R2.s0 v).s1 u).alloc o).fz 2
  have rc3 := fun v u x o => ((((R2.s0 v).s1 u).s2 x).alloc o).c3
  have rf3 := fun v u x o => ((((R2.s0 v).s1 u).s2 x).alloc o).fz 3
  go_wp2_with (fail)
  refine bodyPost_ret (ret_tok6 rfl ((R2.sets _ _ _ _).alloc _) rfl rfl) rfl ?_
  exact ⟨rfl, (below_sets6 hB2 (Nat.le_refl _) _ _ _ _).alloc (by simp; omega) _⟩
set_option maxHeartbeats 4000000 in
set_option maxRecDepth 100000 in
theorem ref_str_err (s : ByteArray) (hs : s.size ≤ 140737488351232) (p a : Nat) (w : World) (hk : skipF s p = a) (hp : p ≤ s.size) (ha : a < s.size) (h0 : kind6 (byteAt s a) = 83) (xs : List Int) (m : Nat) (e : Int) (hr : scanF (sub s a) = (xs, m, e)) (he : e ≠ 0) :
    Calls Try.prog 40 #[.string s, .int .i64 p] w (Ret (.tuple #[.agg #[.int .u8 0, .int .i64 0, .int .i64 0, .string ⟨#[]⟩], .int .i64 ((a : Int) + (m : Int)), .int .i64 e]) w) := by
  have hby : byteAt s a = (s[a].toNat : Int) := byteAt_get s a ha
  have hap : ((a : Int) == (s.size : Int)) = false := by simp; omega
  obtain ⟨rest, hrest⟩ : ∃ r, s.extract a s.size = r := ⟨_, rfl⟩
  have hsub : sub s a = rest := hrest
  have hzz : a + rest.size = s.size := by rw [← hsub, sub_size]; omega
  have hz2 := Lib.hid hzz
  clear hzz
  rw [hby] at h0
  go_enter Try.func40, Try.ntmps40
  go_wp2_with (fail)
  refine (skip6_any s hs p _).mono ?_
  rintro e1 w1 ⟨rfl, hb1⟩
  rw [hk]
  have R := (Row6.new w (.int .u8 0) (.int .i64 0) (.int .i64 0) (.string ⟨#[]⟩)).below hb1
  have hlt := R.lt
  have hB1 : Below w.heap.size w w1 := ((Below.refl _ w).alloc (Nat.le_refl _) _).trans (hb1.mono (by simp))
  go_wp2_with (fail)
  refine (kind6_any _ _).mono ?_
  rintro e2 w2 ⟨rfl, hb2⟩
  rw [h0]
  have R2 := R.below hb2
  have hB2 : Below w.heap.size w w2 := hB1.trans (hb2.mono (by omega))
  have hlt2 := R2.lt
  have R3 := R2.alloc (.cells #[.int .u8 83, .int .i64 a, .int .i64 0, .string ⟨#[]⟩] 63)
  have T3 := Row6.new w2 (.int .u8 83) (.int .i64 a) (.int .i64 0) (.string ⟨#[]⟩)
  have hB3 := hB2.alloc hB2.size (.cells #[.int .u8 83, .int .i64 a, .int .i64 0, .string ⟨#[]⟩] 63)
  have hne : w.heap.size ≠ w2.heap.size := by omega
  have hat := (scan_right rest).1.at'
  have hS := scan38_any rest (by have := hz2.out; omega)
  have hr' : scanF rest = (xs, m, e) := by first | exact hr | (rw [← hsub]; exact hr)
  rw [hr'] at hat hS
  dsimp only [Pure.strV] at hat hS
  rw [if_neg he] at hS
  have heb : (e != 0) = true := by simpa using he
  have hw : IntKind.i64.wrap ((a : Int) + (m : Int)) = (a : Int) + (m : Int) := by rw [IntKind.wrap_i64]; have := hz2.out; omega
  go_wp2_with (fail)
  refine (hS _).mono ?_
  rintro e4 w4 ⟨rfl, hb4⟩
  have R4 := R3.below hb4
  have T4 := T3.below hb4
  have hB4 : Below w.heap.size w w4 := hB3.trans (hb4.mono (by simp; omega))
  obtain ⟨g, hg⟩ : ∃ g, w2.heap.size = g := ⟨_, rfl⟩
  rw [hg] at T4 hne ⊢
  have rc0 := R4.c0
  have rf0 := R4.fz 0
  have rc1 := fun v => (R4.s0 v).c1
  have rf1 := fun v => (R4.s0 v).fz 1
  have rc2 := fun v u => ((R4.s0 v).s1 u).c2
  have rf2 := fun v u => ((R4.s0 v).s1 u).fz 2
  have rc3 := fun v u x => (((R4.s0 v).s1 u).s2 x).c3
  have rf3 := fun v u x => (((R4.s0 v).s1 u).s2 x).fz 3
  go_wp2_with (fail)
  refine bodyPost_ret (ret_tok6 rfl (R4.sets _ _ _ _) rfl rfl) rfl ?_
  exact ⟨rfl, below_sets6 hB4 (Nat.le_refl _) _ _ _ _⟩
set_option maxHeartbeats 4000000 in
set_option maxRecDepth 100000 in
theorem ref_str (s : ByteArray) (hs : s.size ≤ 140737488351232) (p a : Nat) (w : World) (hk : skipF s p = a) (hp : p ≤ s.size) (ha : a < s.size) (h0 : kind6 (byteAt s a) = 83) (xs : List Int) (m : Nat) (hr : scanF (sub s a) = (xs, m, 0)) :
    Calls Try.prog 40 #[.string s, .int .i64 p] w (Ret (.tuple #[.agg #[.int .u8 83, .int .i64 a, .int .i64 ((a : Int) + (m : Int)), .string (strOfNums xs)], .int .i64 ((a : Int) + (m : Int)), .int .i64 0]) w) := by
  have hby : byteAt s a = (s[a].toNat : Int) := byteAt_get s a ha
  have hap : ((a : Int) == (s.size : Int)) = false := by simp; omega
  obtain ⟨rest, hrest⟩ : ∃ r, s.extract a s.size = r := ⟨_, rfl⟩
  have hsub : sub s a = rest := hrest
  have hzz : a + rest.size = s.size := by rw [← hsub, sub_size]; omega
  have hz2 := Lib.hid hzz
  clear hzz
  rw [hby] at h0
  go_enter Try.func40, Try.ntmps40
  go_wp2_with (fail)
  refine (skip6_any s hs p _).mono ?_
  rintro e1 w1 ⟨rfl, hb1⟩
  rw [hk]
  have R := (Row6.new w (.int .u8 0) (.int .i64 0) (.int .i64 0) (.string ⟨#[]⟩)).below hb1
  have hlt := R.lt
  have hB1 : Below w.heap.size w w1 := ((Below.refl _ w).alloc (Nat.le_refl _) _).trans (hb1.mono (by simp))
  go_wp2_with (fail)
  refine (kind6_any _ _).mono ?_
  rintro e2 w2 ⟨rfl, hb2⟩
  rw [h0]
  have R2 := R.below hb2
  have hB2 : Below w.heap.size w w2 := hB1.trans (hb2.mono (by omega))
  have hlt2 := R2.lt
  have R3 := R2.alloc (.cells #[.int .u8 83, .int .i64 a, .int .i64 0, .string ⟨#[]⟩] 63)
  have T3 := Row6.new w2 (.int .u8 83) (.int .i64 a) (.int .i64 0) (.string ⟨#[]⟩)
  have hB3 := hB2.alloc hB2.size (.cells #[.int .u8 83, .int .i64 a, .int .i64 0, .string ⟨#[]⟩] 63)
  have hne : w.heap.size ≠ w2.heap.size := by omega
  have hat := (scan_right rest).1.at'
  have hS := scan38_any rest (by have := hz2.out; omega)
  have hr' : scanF rest = (xs, m, 0) := by first | exact hr | (rw [← hsub]; exact hr)
  rw [hr'] at hat hS
  dsimp only [Pure.strV] at hat hS
  rw [if_pos rfl] at hS
  have hw : IntKind.i64.wrap ((a : Int) + (m : Int)) = (a : Int) + (m : Int) := by rw [IntKind.wrap_i64]; have := hz2.out; omega
  go_wp2_with (fail)
  refine (hS _).mono ?_
  rintro e4 w4 ⟨rfl, hb4⟩
  have R4 := R3.below hb4
  have T4 := T3.below hb4
  have hB4 : Below w.heap.size w w4 := hB3.trans (hb4.mono (by simp; omega))
  obtain ⟨g, hg⟩ : ∃ g, w2.heap.size = g := ⟨_, rfl⟩
  rw [hg] at T4 hne ⊢
  have tc3 := T4.c3
  have tf3 := T4.fz 3
  have T5 := T4.s3 (.string (strOfNums xs))
  have tc2 := T5.c2
  have tf2 := T5.fz 2
  go_wp2_with (fail)
  have T6 := T5.s2 (.int .i64 ((a : Int) + (m : Int)))
  clear tc3 tf3 tc2 tf2 T5
  have R6 := (R4.other hne 3 (.string (strOfNums xs))).other hne 2 (.int .i64 ((a : Int) + (m : Int)))
  have hB6 : Below w.heap.size w ((w4.setCell ⟨g, 3, none⟩ (.string (strOfNums xs))).setCell ⟨g, 2, none⟩ (.int .i64 ((a : Int) + (m : Int)))) :=
    (hB4.setCell (p := ⟨g, 3, none⟩) (by show w.heap.size ≤ g; omega) _).setCell (p := ⟨g, 2, none⟩) (by show w.heap.size ≤ g; omega) _
  clear R4 T4 hB4 hS hb4 R3 T3 hB3 R2 hB2 hb2 R hB1 hb1
  generalize (w4.setCell ⟨g, 3, none⟩ (.string (strOfNums xs))).setCell ⟨g, 2, none⟩ (.int .i64 ((a : Int) + (m : Int))) = W6 at T6 R6 hB6 ⊢
  have uc0 := T6.c0
  have uc1 := T6.c1
  have uc2 := T6.c2
  have uc3 := T6.c3
  have rc0 := R6.c0
  have rf0 := R6.fz 0
  have rc1 := fun v => (R6.s0 v).c1
  have rf1 := fun v => (R6.s0 v).fz 1
  have rc2 := fun v u => ((R6.s0 v).s1 u).c2
  have rf2 := fun v u => ((R6.s0 v).s1 u).fz 2
  have rc3 := fun v u x => (((R6.s0 v).s1 u).s2 x).c3
  have rf3 := fun v u x => (((R6.s0 v).s1 u).s2 x).fz 3
  go_region
  go_wp2_with (fail)
  refine bodyPost_ret (ret_tok6 (g := w.heap.size) rfl (R6.sets _ _ _ _) rfl rfl) rfl ?_
  exact ⟨rfl, (below_sets6 hB6 (Nat.le_refl _) _ _ _ _).drew⟩
set_option maxHeartbeats 4000000 in
set_option maxRecDepth 100000 in
theorem ref_num_err (s : ByteArray) (hs : s.size ≤ 140737488351232) (p a : Nat) (w : World) (hk : skipF s p = a) (hp : p ≤ s.size) (ha : a < s.size) (h0 : kind6 (byteAt s a) = 78) (m : Nat) (e : Int) (hr : numF (sub s a) = (m, e)) (he : e ≠ 0) :
    Calls Try.prog 40 #[.string s, .int .i64 p] w (Ret (.tuple #[.agg #[.int .u8 0, .int .i64 0, .int .i64 0, .string ⟨#[]⟩], .int .i64 ((a : Int) + (m : Int)), .int .i64 e]) w) := by
  have hby : byteAt s a = (s[a].toNat : Int) := byteAt_get s a ha
  have hap : ((a : Int) == (s.size : Int)) = false := by simp; omega
  obtain ⟨rest, hrest⟩ : ∃ r, s.extract a s.size = r := ⟨_, rfl⟩
  have hsub : sub s a = rest := hrest
  have hzz : a + rest.size = s.size := by rw [← hsub, sub_size]; omega
  have hz2 := Lib.hid hzz
  clear hzz
  rw [hby] at h0
  go_enter Try.func40, Try.ntmps40
  go_wp2_with (fail)
  refine (skip6_any s hs p _).mono ?_
  rintro e1 w1 ⟨rfl, hb1⟩
  rw [hk]
  have R := (Row6.new w (.int .u8 0) (.int .i64 0) (.int .i64 0) (.string ⟨#[]⟩)).below hb1
  have hlt := R.lt
  have hB1 : Below w.heap.size w w1 := ((Below.refl _ w).alloc (Nat.le_refl _) _).trans (hb1.mono (by simp))
  go_wp2_with (fail)
  refine (kind6_any _ _).mono ?_
  rintro e2 w2 ⟨rfl, hb2⟩
  rw [h0]
  have R2 := R.below hb2
  have hB2 : Below w.heap.size w w2 := hB1.trans (hb2.mono (by omega))
  have hlt2 := R2.lt
  have R3 := R2.alloc (.cells #[.int .u8 78, .int .i64 a, .int .i64 0, .string ⟨#[]⟩] 63)
  have T3 := Row6.new w2 (.int .u8 78) (.int .i64 a) (.int .i64 0) (.string ⟨#[]⟩)
  have hB3 := hB2.alloc hB2.size (.cells #[.int .u8 78, .int .i64 a, .int .i64 0, .string ⟨#[]⟩] 63)
  have hne : w.heap.size ≠ w2.heap.size := by omega
  have hat := (numF_at rest).1
  have hS := num65_any rest (by have := hz2.out; omega)
  have hr' : numF rest = (m, e) := by first | exact hr | (rw [← hsub]; exact hr)
  rw [hr'] at hat hS
  dsimp only at hat hS
  have heb : (e != 0) = true := by simpa using he
  have hw : IntKind.i64.wrap ((a : Int) + (m : Int)) = (a : Int) + (m : Int) := by rw [IntKind.wrap_i64]; have := hz2.out; omega
  go_wp2_with (fail)
  refine (hS _).mono ?_
  rintro e4 w4 ⟨rfl, hb4⟩
  have R4 := R3.below hb4
  have T4 := T3.below hb4
  have hB4 : Below w.heap.size w w4 := hB3.trans (hb4.mono (by simp; omega))
  obtain ⟨g, hg⟩ : ∃ g, w2.heap.size = g := ⟨_, rfl⟩
  rw [hg] at T4 hne ⊢
  have rc0 := R4.c0
  have rf0 := R4.fz 0
  have rc1 := fun v => (R4.s0 v).c1
  have rf1 := fun v => (R4.s0 v).fz 1
  have rc2 := fun v u => ((R4.s0 v).s1 u).c2
  have rf2 := fun v u => ((R4.s0 v).s1 u).fz 2
  have rc3 := fun v u x => (((R4.s0 v).s1 u).s2 x).c3
  have rf3 := fun v u x => (((R4.s0 v).s1 u).s2 x).fz 3
  go_wp2_with (fail)
  refine bodyPost_ret (ret_tok6 rfl (R4.sets _ _ _ _) rfl rfl) rfl ?_
  exact ⟨rfl, below_sets6 hB4 (Nat.le_refl _) _ _ _ _⟩
set_option maxHeartbeats 4000000 in
set_option maxRecDepth 100000 in
theorem ref_num (s : ByteArray) (hs : s.size ≤ 140737488351232) (p a : Nat) (w : World) (hk : skipF s p = a) (hp : p ≤ s.size) (ha : a < s.size) (h0 : kind6 (byteAt s a) = 78) (m : Nat) (hr : numF (sub s a) = (m, 0)) (tx : ByteArray) (hx : s.extract a (a + m) = tx) :
    Calls Try.prog 40 #[.string s, .int .i64 p] w (Ret (.tuple #[.agg #[.int .u8 78, .int .i64 a, .int .i64 ((a : Int) + (m : Int)), .string tx], .int .i64 ((a : Int) + (m : Int)), .int .i64 0]) w) := by
  have hby : byteAt s a = (s[a].toNat : Int) := byteAt_get s a ha
  have hap : ((a : Int) == (s.size : Int)) = false := by simp; omega
  obtain ⟨rest, hrest⟩ : ∃ r, s.extract a s.size = r := ⟨_, rfl⟩
  have hsub : sub s a = rest := hrest
  have hzz : a + rest.size = s.size := by rw [← hsub, sub_size]; omega
  have hz2 := Lib.hid hzz
  clear hzz
  rw [hby] at h0
  go_enter Try.func40, Try.ntmps40
  go_wp2_with (fail)
  refine (skip6_any s hs p _).mono ?_
  rintro e1 w1 ⟨rfl, hb1⟩
  rw [hk]
  have R := (Row6.new w (.int .u8 0) (.int .i64 0) (.int .i64 0) (.string ⟨#[]⟩)).below hb1
  have hlt := R.lt
  have hB1 : Below w.heap.size w w1 := ((Below.refl _ w).alloc (Nat.le_refl _) _).trans (hb1.mono (by simp))
  go_wp2_with (fail)
  refine (kind6_any _ _).mono ?_
  rintro e2 w2 ⟨rfl, hb2⟩
  rw [h0]
  have R2 := R.below hb2
  have hB2 : Below w.heap.size w w2 := hB1.trans (hb2.mono (by omega))
  have hlt2 := R2.lt
  have R3 := R2.alloc (.cells #[.int .u8 78, .int .i64 a, .int .i64 0, .string ⟨#[]⟩] 63)
  have T3 := Row6.new w2 (.int .u8 78) (.int .i64 a) (.int .i64 0) (.string ⟨#[]⟩)
  have hB3 := hB2.alloc hB2.size (.cells #[.int .u8 78, .int .i64 a, .int .i64 0, .string ⟨#[]⟩] 63)
  have hne : w.heap.size ≠ w2.heap.size := by omega
  have hat := (numF_at rest).1
  have hS := num65_any rest (by have := hz2.out; omega)
  have hr' : numF rest = (m, 0) := by first | exact hr | (rw [← hsub]; exact hr)
  rw [hr'] at hat hS
  dsimp only at hat hS
  have hw : IntKind.i64.wrap ((a : Int) + (m : Int)) = (a : Int) + (m : Int) := by rw [IntKind.wrap_i64]; have := hz2.out; omega
  go_wp2_with (fail)
  refine (hS _).mono ?_
  rintro e4 w4 ⟨rfl, hb4⟩
  have R4 := R3.below hb4
  have T4 := T3.below hb4
  have hB4 : Below w.heap.size w w4 := hB3.trans (hb4.mono (by simp; omega))
  obtain ⟨g, hg⟩ : ∃ g, w2.heap.size = g := ⟨_, rfl⟩
  rw [hg] at T4 hne ⊢
  have hx2 : s.extract a ((a : Int) + (m : Int)).toNat = tx := by rw [← hx]; congr 1
  have b1 : (a : Int) ≤ (a : Int) + (m : Int) := by omega
  have b2 : (a : Int) + (m : Int) ≤ (s.size : Int) := by have := hz2.out; omega
  have tc2 := T4.c2
  have tf2 := T4.fz 2
  have T5 := T4.s2 (.int .i64 ((a : Int) + (m : Int)))
  have uc2 := T5.c2
  have tc3 := T5.c3
  have tf3 := T5.fz 3
  go_wp2_with (fail)
  have T6 := T5.s3 (.string tx)
  clear tc3 tf3 tc2 tf2 uc2 T5
  have R6 := (R4.other hne 2 (.int .i64 ((a : Int) + (m : Int)))).other hne 3 (.string tx)
  have hB6 : Below w.heap.size w ((w4.setCell ⟨g, 2, none⟩ (.int .i64 ((a : Int) + (m : Int)))).setCell ⟨g, 3, none⟩ (.string tx)) :=
    (hB4.setCell (p := ⟨g, 2, none⟩) (by show w.heap.size ≤ g; omega) _).setCell (p := ⟨g, 3, none⟩) (by show w.heap.size ≤ g; omega) _
  clear R4 T4 hB4 hS hb4 R3 T3 hB3 R2 hB2 hb2 R hB1 hb1
  generalize (w4.setCell ⟨g, 2, none⟩ (.int .i64 ((a : Int) + (m : Int)))).setCell ⟨g, 3, none⟩ (.string tx) = W6 at T6 R6 hB6 ⊢
  have uc0 := T6.c0
  have uc1 := T6.c1
  have uc2 := T6.c2
  have uc3 := T6.c3
  have rc0 := R6.c0
  have rf0 := R6.fz 0
  have rc1 := fun v => (R6.s0 v).c1
  have rf1 := fun v => (R6.s0 v).fz 1
  have rc2 := fun v u => ((R6.s0 v).s1 u).c2
  have rf2 := fun v u => ((R6.s0 v).s1 u).fz 2
  have rc3 := fun v u x => (((R6.s0 v).s1 u).s2 x).c3
  have rf3 := fun v u x => (((R6.s0 v).s1 u).s2 x).fz 3
  go_region
  go_wp2_with (fail)
  refine bodyPost_ret (ret_tok6 (g := w.heap.size) rfl (R6.sets _ _ _ _) rfl rfl) rfl ?_
  exact ⟨rfl, (below_sets6 hB6 (Nat.le_refl _) _ _ _ _).drew⟩
end Go.Proofs.Ytlbokaekhjjabaa

/-
  The reference's Next: its walk where a word stands.
-/
namespace Go.Proofs.Ytlbokaekhjjabaa
open Go.RowKit PureT Go.Proofs.YtlbokaekhjjabaaW.PrintWords
set_option linter.unusedVariables false

theorem byteAt_sub (s : ByteArray) (a n : Nat) : byteAt (sub s a) n = byteAt s (a + n) := by
  unfold byteAt
  rw [sub_data, List.getD_eq_getElem?_getD, List.getD_eq_getElem?_getD, List.getElem?_drop]
theorem ne_of (s wd : ByteArray) (p q : Nat) (h1 : p < s.size) (h2 : q < wd.size) (hb : ¬ byteAt s p = byteAt wd q) : ((s[p].toNat : Int) != (wd[q].toNat : Int)) = true := by
  rw [← byteAt_get s p h1, ← byteAt_get wd q h2]; simpa using hb
theorem eq_of (s wd : ByteArray) (p q : Nat) (h1 : p < s.size) (h2 : q < wd.size) (hb : byteAt s p = byteAt wd q) : ((s[p].toNat : Int) != (wd[q].toNat : Int)) = false := by
  rw [← byteAt_get s p h1, ← byteAt_get wd q h2]; simpa using hb
set_option maxHeartbeats 4000000 in
set_option maxRecDepth 100000 in
theorem ref_word (s : ByteArray) (hs : s.size ≤ 140737488351232) (p a : Nat) (w : World) (hk : skipF s p = a) (hp : p ≤ s.size) (ha : a < s.size) (k : Int) (h0 : kind6 (byteAt s a) = k) (hkc : byteAt s a = k) (hk0 : k ≠ 63) (hk1 : k ≠ 83) (hk2 : k ≠ 78) (tk : Tok) (n : Nat) (er : Int) (hres : wordV k a (wordF k) (sub s a) (comN (wordF k) (sub s a) 0) = (tk, n, er)) :
    Calls Try.prog 40 #[.string s, .int .i64 p] w (Ret (.tuple #[.agg #[.int .u8 tk.1, .int .i64 tk.2.1, .int .i64 tk.2.2.1, .string tk.2.2.2], .int .i64 n, .int .i64 er]) w) := by
  have hby : byteAt s a = (s[a].toNat : Int) := byteAt_get s a ha
  have hap : ((a : Int) == (s.size : Int)) = false := by simp; omega
  obtain ⟨rest, hrest⟩ : ∃ r, s.extract a s.size = r := ⟨_, rfl⟩
  have hsub : sub s a = rest := hrest
  have hzz : a + rest.size = s.size := by rw [← hsub, sub_size]; omega
  have hz2 := Lib.hid hzz
  clear hzz
  rw [hby] at h0
  go_enter Try.func40, Try.ntmps40
  go_wp2_with (fail)
  refine (skip6_any s hs p _).mono ?_
  rintro e1 w1 ⟨rfl, hb1⟩
  rw [hk]
  have R := (Row6.new w (.int .u8 0) (.int .i64 0) (.int .i64 0) (.string ⟨#[]⟩)).below hb1
  have hlt := R.lt
  have hB1 : Below w.heap.size w w1 := ((Below.refl _ w).alloc (Nat.le_refl _) _).trans (hb1.mono (by simp))
  go_wp2_with (fail)
  refine (kind6_any _ _).mono ?_
  rintro e2 w2 ⟨rfl, hb2⟩
  rw [h0]
  have R2 := R.below hb2
  have hB2 : Below w.heap.size w w2 := hB1.trans (hb2.mono (by omega))
  have hlt2 := R2.lt
  have R3 := R2.alloc (.cells #[.int .u8 k, .int .i64 a, .int .i64 0, .string ⟨#[]⟩] 63)
  have T3 := Row6.new w2 (.int .u8 k) (.int .i64 a) (.int .i64 0) (.string ⟨#[]⟩)
  have hB3 := hB2.alloc hB2.size (.cells #[.int .u8 k, .int .i64 a, .int .i64 0, .string ⟨#[]⟩] 63)
  have hne : w.heap.size ≠ w2.heap.size := by omega
  have kb0 : (k == 63) = false := by simpa using hk0
  have kb1 : (k == 83) = false := by simpa using hk1
  have kb2 : (k == 78) = false := by simpa using hk2
  have HRes := Lib.hid (show wordV k a (wordF k) rest (comN (wordF k) rest 0) = (tk, n, er) by first | exact hres | (rw [← hsub]; exact hres))
  clear hres
  obtain ⟨wd, hwd⟩ : ∃ x, wordF k = x := ⟨_, rfl⟩
  have hws : wd.size ≤ 5 := by rw [← hwd]; exact (wordF_size k).2
  have hW := word6_any k
  rw [hwd] at hW HRes
  have hkc2 := Lib.hid (show (s[a].toNat : Int) = k by rw [← byteAt_get s a ha]; exact hkc)
  go_wp2_with (fail)
  rw [hkc2.out]
  refine (hW _).mono ?_
  rintro e4 w4 ⟨rfl, hb4⟩
  have R4 := R3.below hb4
  have T4 := T3.below hb4
  have hB4 : Below w.heap.size w w4 := hB3.trans (hb4.mono (by simp; omega))
  obtain ⟨g, hg⟩ : ∃ g, w2.heap.size = g := ⟨_, rfl⟩
  rw [hg] at T4 hne ⊢
  clear hb4 R3 T3 hB3 R2 hB2 hb2 R hB1 hb1 hW
  go_wp2_with (fail)
  go_loopw [14] (fun i wr => ∃ q : Nat, i = .int .i64 q ∧ q ≤ wd.size ∧ q ≤ rest.size ∧ Hid (comN wd rest 0 = comN wd rest q) ∧ Row6 wr w.heap.size (.int .u8 0) (.int .i64 0) (.int .i64 0) (.string ⟨#[]⟩) ∧ Row6 wr g (.int .u8 k) (.int .i64 a) (.int .i64 0) (.string ⟨#[]⟩) ∧ Below w.heap.size w wr) (fun i _ => wd.size - (intOf i).toNat)
  case atStart => exact ⟨0, rfl, by omega, by omega, rfl, R4, T4, hB4⟩
  case round =>
    obtain ⟨q, rfl, hq1, hq2, hc, R5, T5, hB5⟩ := hrel
    clear R4 T4 hB4
    have hzz := hz2.out
    have hsz : a + rest.size = s.size := hzz
    clear hzz
    have hstep : comN wd rest q = if h : q < wd.size ∧ q < rest.size ∧ byteAt wd q = byteAt rest q then comN wd rest (q + 1) else q := by rw [comN]
    by_cases hin : q < wd.size
    · have g1 : decide (q < wd.size) = true := decide_eq_true hin
      have hw : IntKind.i64.wrap ((a : Int) + (q : Int)) = (a : Int) + (q : Int) := by rw [IntKind.wrap_i64]; omega
      by_cases hin2 : a + q < s.size
      · have g2 : decide ((s.size : Int) ≤ (a : Int) + (q : Int)) = false := decide_eq_false (by omega)
        have g3 : decide ((a : Int) + (q : Int) ≥ (s.size : Int)) = false := decide_eq_false (by omega)
        have b0 : 0 ≤ (a : Int) + (q : Int) := by omega
        have b1 : (a : Int) + (q : Int) < (s.size : Int) := by omega
        have b2 : ((a : Int) + (q : Int)).toNat = a + q := by omega
        have bb : byteAt rest q = byteAt s (a + q) := by rw [← hsub, byteAt_sub]
        by_cases hb : byteAt s (a + q) = byteAt wd q
        · rw [dif_pos ⟨hin, by omega, by rw [bb, hb]⟩] at hstep
          have HC := Lib.hid (hc.out.trans hstep)
          have hsz2 := Lib.hid hsz
          clear hstep hc bb hsz
          have heq := eq_of s wd (a + q) q hin2 hin hb
          clear hb
          go_wp2_with (fail)
          go_quiet (fail)
          go_wp2_with (fail)
          go_roundw
          case rel => exact ⟨q + 1, rfl, by omega, by have := hsz2.out; omega, HC, R5.dn _, T5.dn _, pw_below_drewN hB5 _⟩
          case measure => simp [intOf]; omega
        · have heq := ne_of s wd (a + q) q hin2 hin hb
          rw [dif_neg (fun h => hb (by rw [← bb, h.2.2]))] at hstep
          have hv := HRes.out
          rw [hc.out.trans hstep] at hv
          clear hstep hc HRes
          unfold wordV at hv
          rw [if_neg (by omega), if_neg (by omega)] at hv
          cases hv
          clear hsz bb hb
          have rc0 := fun m => (R5.dn m).c0
          have rf0 := fun m => (R5.dn m).fz 0
          have rc1 := fun m v => ((R5.dn m).s0 v).c1
          have rf1 := fun m v => ((R5.dn m).s0 v).fz 1
          have rc2 := fun m v u => (((R5.dn m).s0 v).s1 u).c2
          have rf2 := fun m v u => (((R5.dn m).s0 v).s1 u).fz 2
          have rc3 := fun m v u x => ((((R5.dn m).s0 v).s1 u).s2 x).c3
          have rf3 := fun m v u x => ((((R5.dn m).s0 v).s1 u).s2 x).fz 3
          go_wp2_with (fail)
          go_quiet (fail)
          go_wp2_with (fail)
          refine bodyPost_ret (ret_tok6 rfl ((R5.dn _).sets _ _ _ _) rfl rfl) rfl ?_
          exact ⟨rfl, below_sets6 (pw_below_drewN hB5 _) (Nat.le_refl _) _ _ _ _⟩
      · have g2 : decide ((s.size : Int) ≤ (a : Int) + (q : Int)) = true := decide_eq_true (by omega)
        have g3 : decide ((a : Int) + (q : Int) ≥ (s.size : Int)) = true := decide_eq_true (by omega)
        have hend : a + q = s.size := by omega
        rw [dif_neg (fun h => by omega)] at hstep
        have hv := HRes.out
        rw [hc.out.trans hstep] at hv
        clear hstep hc HRes
        unfold wordV at hv
        rw [if_neg (by omega), if_pos (by omega)] at hv
        cases hv
        have hE := Lib.hid hend
        clear hsz hend
        have rc0 := R5.c0
        have rf0 := R5.fz 0
        have rc1 := fun v => (R5.s0 v).c1
        have rf1 := fun v => (R5.s0 v).fz 1
        have rc2 := fun v u => ((R5.s0 v).s1 u).c2
        have rf2 := fun v u => ((R5.s0 v).s1 u).fz 2
        have rc3 := fun v u x => (((R5.s0 v).s1 u).s2 x).c3
        have rf3 := fun v u x => (((R5.s0 v).s1 u).s2 x).fz 3
        go_wp2_with (fail)
        refine bodyPost_ret (ret_tok6 rfl (R5.sets _ _ _ _) rfl rfl) rfl ?_
        exact ⟨by rw [hE.out]; rfl, below_sets6 hB5 (Nat.le_refl _) _ _ _ _⟩
    · have g1 : decide (q < wd.size) = false := decide_eq_false hin
      have hq : q = wd.size := by omega
      subst hq
      rw [dif_neg (fun h => hin h.1)] at hstep
      have hv := HRes.out
      rw [hc.out.trans hstep] at hv
      clear hstep hc HRes
      unfold wordV at hv
      rw [if_pos rfl] at hv
      cases hv
      have hw : IntKind.i64.wrap ((a : Int) + (wd.size : Int)) = (a : Int) + (wd.size : Int) := by rw [IntKind.wrap_i64]; omega
      have hsz2 := Lib.hid hsz
      clear hsz
      have tc2 := T5.c2
      have tf2 := T5.fz 2
      go_wp2_with (fail)
      have T6 := T5.s2 (.int .i64 ((a : Int) + (wd.size : Int)))
      have R6 := R5.other hne 2 (.int .i64 ((a : Int) + (wd.size : Int)))
      have hB6 : Below w.heap.size w (wr.setCell ⟨g, 2, none⟩ (.int .i64 ((a : Int) + (wd.size : Int)))) := hB5.setCell (p := ⟨g, 2, none⟩) (by show w.heap.size ≤ g; omega) _
      clear tc2 tf2 T5 R5 hB5
      generalize wr.setCell ⟨g, 2, none⟩ (.int .i64 ((a : Int) + (wd.size : Int))) = W6 at T6 R6 hB6 ⊢
      have uc0 := T6.c0
      have uc1 := T6.c1
      have uc2 := T6.c2
      have uc3 := T6.c3
      have rc0 := R6.c0
      have rf0 := R6.fz 0
      have rc1 := fun v => (R6.s0 v).c1
      have rf1 := fun v => (R6.s0 v).fz 1
      have rc2 := fun v u => ((R6.s0 v).s1 u).c2
      have rf2 := fun v u => ((R6.s0 v).s1 u).fz 2
      have rc3 := fun v u x => (((R6.s0 v).s1 u).s2 x).c3
      have rf3 := fun v u x => (((R6.s0 v).s1 u).s2 x).fz 3
      go_region
      go_wp2_with (fail)
      refine bodyPost_ret (ret_tok6 (g := w.heap.size) rfl (R6.sets _ _ _ _) rfl rfl) rfl ?_
      exact ⟨rfl, (below_sets6 hB6 (Nat.le_refl _) _ _ _ _).drew⟩
end Go.Proofs.Ytlbokaekhjjabaa

/-
  The reference's Next tells nextF, at any place; the law's twin; TokenNexts, walked.
-/
namespace Go.Proofs.Ytlbokaekhjjabaa
open Go.RowKit PureT Go.Proofs.YtlbokaekhjjabaaW.PrintWords
set_option linter.unusedVariables false

set_option maxHeartbeats 4000000 in
set_option maxRecDepth 100000 in
theorem ref_low (s : ByteArray) (hs : s.size ≤ 140737488351232) (q : Int) (w : World) (h : q < 0) :
    Calls Try.prog 40 #[.string s, .int .i64 q] w (Ret (.tuple #[.agg #[.int .u8 0, .int .i64 0, .int .i64 0, .string ⟨#[]⟩], .int .i64 0, .int .i64 1]) w) := by
  have h1 : decide (q < 0) = true := decide_eq_true h
  go_enter Try.func40, Try.ntmps40
  go_wp2_with (fail)
  refine bodyPost_ret (ret_tok6 (g := w.heap.size) rfl (Row6.new w _ _ _ _) rfl rfl) rfl ?_
  exact ⟨rfl, (Below.refl _ w).alloc (Nat.le_refl _) _⟩
set_option maxHeartbeats 4000000 in
set_option maxRecDepth 100000 in
theorem ref_high (s : ByteArray) (hs : s.size ≤ 140737488351232) (q : Int) (w : World) (h0 : ¬ q < 0) (h : (s.size : Int) < q) :
    Calls Try.prog 40 #[.string s, .int .i64 q] w (Ret (.tuple #[.agg #[.int .u8 0, .int .i64 0, .int .i64 0, .string ⟨#[]⟩], .int .i64 0, .int .i64 1]) w) := by
  have h1 : decide (q < 0) = false := decide_eq_false h0
  have h2 : decide (q > (s.size : Int)) = true := decide_eq_true h
  have h3 : decide ((s.size : Int) < q) = true := decide_eq_true h
  go_enter Try.func40, Try.ntmps40
  go_wp2_with (fail)
  refine bodyPost_ret (ret_tok6 (g := w.heap.size) rfl (Row6.new w _ _ _ _) rfl rfl) rfl ?_
  exact ⟨rfl, (Below.refl _ w).alloc (Nat.le_refl _) _⟩
theorem kind_self (c : Int) (h0 : kindF c ≠ 0) (h1 : kindF c ≠ 83) (h2 : kindF c ≠ 78) : c = kindF c ∧ kindF c ≠ 63 := by
  unfold kindF at *
  by_cases a1 : c = 34
  · rw [if_pos a1] at h1; exact absurd rfl h1
  rw [if_neg a1] at *
  by_cases a2 : c = 45 ∨ 48 ≤ c ∧ c ≤ 57
  · rw [if_pos a2] at h2; exact absurd rfl h2
  rw [if_neg a2] at *
  by_cases a3 : c = 91 ∨ c = 93 ∨ c = 123 ∨ c = 125 ∨ c = 58 ∨ c = 44 ∨ c = 110 ∨ c = 116 ∨ c = 102
  · rw [if_pos a3]; exact ⟨rfl, by omega⟩
  · rw [if_neg a3] at h0; exact absurd rfl h0
theorem ext_sub (s : ByteArray) (a m : Nat) (ha : a ≤ s.size) : (sub s a).extract 0 m = s.extract a (a + m) := by
  have h : ((sub s a).extract 0 m).data.toList = (s.extract a (a + m)).data.toList := by
    simp only [ByteArray.data_extract, Array.toList_extract]
    rw [sub_data]
    simp [List.extract]
  exact ByteArray.ext (Array.toList_inj.mp h)
theorem ref_is (s : ByteArray) (hs : s.size ≤ 140737488351232) (p : Nat) (w : World) (hp : p ≤ s.size) :
    Calls Try.prog 40 #[.string s, .int .i64 p] w (Ret (.tuple #[tokVal (nextF s p).1, .int .i64 (nextF s p).2.1, .int .i64 (nextF s p).2.2]) w) := by
  have ha := skipF_le s p hp
  unfold nextF
  by_cases hend : skipF s p = s.size
  · rw [if_pos hend]
    exact (ref_end s hs p hp w hend).mono fun e w' h => h
  rw [if_neg hend]
  obtain ⟨a, hk⟩ : ∃ a, skipF s p = a := ⟨_, rfl⟩
  rw [hk] at ha hend ⊢
  have ha2 : a < s.size := by omega
  obtain ⟨k, h0⟩ : ∃ k, kindF (byteAt s a) = k := ⟨_, rfl⟩
  have h6 : kind6 (byteAt s a) = if k = 0 then 63 else k := by unfold kind6; rw [h0]
  have hself := kind_self (byteAt s a)
  rw [h0] at hself ⊢
  unfold tokV
  by_cases k0 : k = 0
  · subst k0
    rw [if_pos rfl] at h6
    rw [if_pos rfl]
    exact (ref_none s hs p a w hk hp ha2 h6).mono fun e w' h => h
  rw [if_neg k0] at h6
  rw [if_neg k0]
  by_cases k1 : k = 83
  · subst k1
    rw [if_pos rfl]
    obtain ⟨⟨xs, m, e⟩, hr⟩ : ∃ r, scanF (sub s a) = r := ⟨_, rfl⟩
    rw [hr]
    dsimp only
    by_cases he : e = 0
    · subst he
      rw [if_pos rfl]
      exact (ref_str s hs p a w hk hp ha2 h6 xs m hr).mono fun e w' h => h
    · rw [if_neg he]
      exact (ref_str_err s hs p a w hk hp ha2 h6 xs m e hr he).mono fun e w' h => h
  rw [if_neg k1]
  by_cases k2 : k = 78
  · subst k2
    rw [if_pos rfl]
    obtain ⟨⟨m, e⟩, hr⟩ : ∃ r, numF (sub s a) = r := ⟨_, rfl⟩
    rw [hr]
    dsimp only
    by_cases he : e = 0
    · subst he
      rw [if_pos rfl]
      exact (ref_num s hs p a w hk hp ha2 h6 m hr _ (ext_sub s a m (by omega)).symm).mono fun e w' h => h
    · rw [if_neg he]
      exact (ref_num_err s hs p a w hk hp ha2 h6 m e hr he).mono fun e w' h => h
  rw [if_neg k2]
  obtain ⟨hc, h63⟩ := hself k0 k1 k2
  exact (ref_word s hs p a w hk hp ha2 k h6 hc h63 k1 k2 _ _ _ rfl).mono fun e w' h => h

set_option maxHeartbeats 4000000 in
set_option maxRecDepth 100000 in
theorem twin_same (a b c : Int) (d : ByteArray) (w : World) :
    Calls Try.prog 41 #[.agg #[.int .u8 a, .int .i64 b, .int .i64 c, .string d], .agg #[.int .u8 a, .int .i64 b, .int .i64 c, .string d]] w (Ret (.bool true) w) := by
  go_enter Try.func41, Try.ntmps41
  go_wp2_with (fail)
  go_ret
  exact ⟨rfl, ((Below.refl _ w).alloc (Nat.le_refl _) _).alloc (by simp) _⟩
/-- Next, of both, at any number. -/
theorem nexts_any (s : ByteArray) (hs : s.size ≤ 140737488351232) (q : Int) : ∃ a b c d n e, (∀ w, Calls Try.prog 39 #[.string s, .int .i64 q] w (Ret (.tuple #[.agg #[.int .u8 a, .int .i64 b, .int .i64 c, .string d], .int .i64 n, .int .i64 e]) w)) ∧
    ∀ w, Calls Try.prog 40 #[.string s, .int .i64 q] w (Ret (.tuple #[.agg #[.int .u8 a, .int .i64 b, .int .i64 c, .string d], .int .i64 n, .int .i64 e]) w) := by
  by_cases h0 : q < 0
  · exact ⟨0, 0, 0, ⟨#[]⟩, 0, 1, fun w => next_low s hs q w h0, fun w => ref_low s hs q w h0⟩
  by_cases h1 : (s.size : Int) < q
  · exact ⟨0, 0, 0, ⟨#[]⟩, 0, 1, fun w => next_high s hs q w h0 h1, fun w => ref_high s hs q w h0 h1⟩
  obtain ⟨p, rfl⟩ : ∃ p : Nat, q = p := ⟨q.toNat, by omega⟩
  exact ⟨_, _, _, _, _, _, fun w => (next_is s hs p w (by omega)).mono fun e w' h => h, fun w => (ref_is s hs p w (by omega)).mono fun e w' h => h⟩
set_option maxHeartbeats 4000000 in
set_option maxRecDepth 100000 in
theorem nexts_law (s : ByteArray) (hs : s.size ≤ 140737488351232) (q : Int) (w : World) : Calls Try.prog 16 #[.string s, .int .i64 q] w fun e w' => e = .returned (.bool true) ∧ Below w.heap.size w w' := by
  obtain ⟨a, b, c, d, n, e, h39, h40⟩ := nexts_any s hs q
  go_enter Try.func16, Try.ntmps16
  go_wp2_with (fail)
  refine (h39 _).mono ?_
  rintro e1 w1 ⟨rfl, hb1⟩
  go_wp2_with (fail)
  refine (h40 _).mono ?_
  rintro e2 w2 ⟨rfl, hb2⟩
  have T1 := (Row4.new w1 (.int .u8 a) (.int .i64 b) (.int .i64 c) (.string d)).below hb2
  have c0 := T1.c0
  have c1 := T1.c1
  have c2 := T1.c2
  have c3 := T1.c3
  have hl := T1.lt
  go_wp2_with (fail)
  refine (twin_same a b c d _).mono ?_
  rintro e3 w3 ⟨rfl, hb3⟩
  go_wp2_with (fail)
  refine (awake14 _).mono ?_
  rintro e4 w4 ⟨rfl, hb4⟩
  go_wp2_with (fail)
  go_ret
  have B1 : Below w.heap.size w w1 := hb1
  have B2 := (B1.alloc B1.size (.cells #[.int .u8 a, .int .i64 b, .int .i64 c, .string d] 60)).trans (hb2.mono (by have := B1.size; simp; omega))
  have B3 := (B2.alloc B2.size (.cells #[.int .u8 a, .int .i64 b, .int .i64 c, .string d] 63)).trans (hb3.mono (by have := B2.size; simp; omega))
  exact ⟨rfl, B3.trans (hb4.mono B3.size)⟩
end Go.Proofs.Ytlbokaekhjjabaa

/-
  The row of TokenNextsSaid: the token at any place, by the code and by the reference.
-/
namespace Go.Proofs.Ytlbokaekhjjabaa.tokenNexts
open Go.ChangeShapes Go.WideShapes Go.ChangeAt Go.RowKit
open Go.ChangeMaps (open_string shut_string)
set_option linter.unusedVariables false
theorem own : ownKnob Try.prog.godebug = none := by kernel_rfl
set_option maxRecDepth 100000 in
theorem lifted (os : Os) (started : os.Started) (H : Type) (enc : TypeId × Value → H) :
    ReturnsInHanded {} Try.checked os 16 .any (Rows.tokenNextsSpec.pre6 enc Try.prog Try.f16 Rows.tokenNextsRow.domain false) (Rows.tokenNextsSpec.post enc Try.prog Try.f16 false true false false) := by
  refine returnsInHanded_of_change_sized (C := Try.checked) own started (by kernel_rfl) Try.func16
    (ChangeSpec.witness6 (enc := enc) (C := Try.checked) false ⟨#[], #[.string ByteArray.empty, .int .i64 0], []⟩ 8 (by kernel_rfl) (by kernel_rfl) (by kernel_rfl) (by kernel_rfl)) ?_
  intro W base args ds gs before hval0 hW hcnd hsz0 _
  have hsz : (DataW.weightsEach Try.prog (Try.f16.params.toList ++ Rows.tokenNextsSpec.plain.varTypes Try.prog) (ds ++ gs)).all (· ≤ reachBytes) = true := hsz0
  have hval : ∀ (j : Nat) t v, Try.f16.params[j]? = some t → args[j]? = some v → Value.okWide Try.prog W .any base t v := hval0
  have hW' := hW
  obtain ⟨p, q, hA0, hV, rfl, hfz, hnd⟩ := hW
  have hA : DataW.TrodAll enc Try.prog W 0 (fun _ => true) true Try.f16.params.toList args.toList ds p := hA0
  rw [Try.params16] at hA hval hsz
  obtain ⟨v0, vs0, d0, ds0, p0, q0, hargs, rfl, rfl, h0, r0⟩ := trodAll_cons hA
  obtain ⟨v1, vs1, d1, ds1, p1, q1, rfl, rfl, rfl, h1, r1⟩ := trodAll_cons r0
  obtain ⟨rfl, rfl, rfl⟩ := trodAll_nil r1
  obtain rfl : args = #[v0, v1] := by cases args; simp_all
  obtain ⟨rfl, rfl⟩ := trodVars_none hV
  obtain ⟨a0, rfl, rfl, rfl, y0⟩ := open_string Try.underlying9 (hval 0 9 v0 rfl rfl) h0
  have w0 : a0.size ≤ 140737488351232 := by
    have z := sized_string hsz (j := 0) (t := 9) rfl rfl
    rw [Array.length_toList] at z
    exact z
  obtain ⟨a1, rfl, rfl, rfl, w1⟩ := open_int Try.underlying3 (hval 1 3 v1 rfl rfl) h1
  clear hA0 hval0 hsz0 hsz
  refine (nexts_law a0 w0 a1 W).mono fun e W' ⟨he, bel⟩ => ?_
  subst he
  exact ⟨_, rfl, _, _, _, [], _, [], hW', trodAll_mk1 (shut_bool Try.underlying4 _), (trodAll_cons_mk (shut_string Try.underlying9 y0) (trodAll_cons_mk (shut_int Try.underlying3 w1) trodAll_mk0)), rfl, bel.frame _, fun h => by cases h⟩
theorem over : Rows.tokenNextsRow.holds Try.pinned (OpenSpec.ofChange Rows.tokenNextsSpec) :=
  OpenClaim.holds_of_wide 16 Try.f16 rfl rfl rfl rfl rfl rfl rfl ⟨rfl, rfl, rfl, rfl, rfl⟩ rfl rfl rfl rfl rfl (by kernel_rfl) Try.func16 (by kernel_rfl)
    (of_decide_eq_true (by kernel_rfl)) (by unfold Func.isWrapper; first | (rw [if_pos (by decide +kernel)]; kernel_rfl) | (rw [if_neg (by decide +kernel)]; exact ⟨rfl, rfl⟩))
    (fun os started H enc _ => lifted os started H enc)
theorem proved : Rows.TokenNextsSaid := over
#print axioms proved
end Go.Proofs.Ytlbokaekhjjabaa.tokenNexts
namespace Go.Proofs.Ytlbokaekhjjabaa
/-- The row, under a short name, for the claim. -/
theorem tokenNexts_holds : Rows.TokenNextsSaid := tokenNexts.proved
end Go.Proofs.Ytlbokaekhjjabaa
