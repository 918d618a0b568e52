import Derived.RegionCalls
import Derived.StillTailTactics
import Derived.BigQuiet
import Derived.Deep.RegionWith
import Derived.RangeFuncNested
import Derived.RangeFuncBound
import Derived.RangeFuncCalls
import Derived.RangeFuncLeaves
import Derived.WalkKit
import Derived.OwnWalkIn
import Derived.TacticsInMore
import Derived.LoopIn
import Derived.Deep.RegionLawGrows
import Derived.Shelf.Abstract
import Derived.BigGuardIn
import Derived.BigGuardPartIn
import Derived.Test.YtfmceonbejlhlaaGreatDoorMWd4
-- Written by a program of this session (joint.sh) out of the translation. Not trusted: Lean checks it.
namespace Go.Proofs.YtfmceonbejlhlaaGreatDoor.P
open Go.RowKit Go.Proofs.YtfmceonbejlhlaaGreatDoorW.PrintWords Go.Proofs.YtfmceonbejlhlaaGreatDoorW.PrintLast Go.Proofs.YtfmceonbejlhlaaGreatDoorW.PrintMore
attribute [local go_sem] max2_int min2_int max_two min_two max_three min_three max_four min_four   -- for this text's walks alone
set_option linter.unusedVariables false
set_option linter.unusedSimpArgs false

/-! ### value_One: function 34 -/
mutual
def value_One.j0 : Nat → Bool → Int → Bool → Int → ByteArray → List (S25) → Option (Bool)
  | 0, _, _, _, _, _, _ => none
  | k + 1, x27, x109000, x109001, x109002, x109003, x109004 => if x27 = true then (some false) else ((value_bits.f k x109000).bind fun t109 => (if t109 < 64 then (if 0 ≤ t109 then (value_One.j1 k ((shr .u64 x109002 t109) != 0) x109000 x109001 x109002 x109003 x109004) else (none)) else (value_One.j1 k false x109000 x109001 x109002 x109003 x109004)))
def value_One.j1 : Nat → Bool → Int → Bool → Int → ByteArray → List (S25) → Option (Bool)
  | 0, _, _, _, _, _, _ => none
  | k + 1, x39, x109000, x109001, x109002, x109003, x109004 => if x39 = true then (some false) else (if x109000 = 10 then ((utf_Check.f x109003).bind fun bt110 => (some (bt110.2 == 0))) else (if x109000 = 9 then (value_One.j2 k x109000 (x109000 == 9) x109000 x109001 x109002 x109003 x109004) else (value_One.j2 k x109000 (x109000 == 14) x109000 x109001 x109002 x109003 x109004)))
def value_One.j2 : Nat → Int → Bool → Int → Bool → Int → ByteArray → List (S25) → Option (Bool)
  | 0, _, _, _, _, _, _, _ => none
  | k + 1, x41, x52, x109000, x109001, x109002, x109003, x109004 => if x52 = true then (some true) else (if x41 = 5 then ((value_big.f x109003).bind fun t112 => (some t112)) else (if x41 = 3 then (if x109002 > 19 then (if x109002 < 32 then (some false) else (some (x109003.toList == ([] : List UInt8)))) else (some (x109003.toList == ([] : List UInt8)))) else (if x41 = 12 then (if ((x109004.length : Int) % 2) = 0 then (some (x109003.toList == ([] : List UInt8))) else (some false)) else (if x41 = 13 then (if (x109004.length : Int) = 1 then (if (x109002 / 2) = 1 then (if 0 < (x109004.length : Int) then (if ((rd_T25 x109004 0).f0) = 9 then ((value_big.f ((rd_T25 x109004 0).f3)).bind fun t115 => (if t115 = true then (some false) else (some (x109003.toList == ([] : List UInt8))))) else (some (x109003.toList == ([] : List UInt8)))) else (none)) else (some (x109003.toList == ([] : List UInt8)))) else (some false)) else (some (x109003.toList == ([] : List UInt8)))))))
end
def value_One.f (k : Nat) (a0_0 : Int) (a0_1 : Bool) (a0_2 : Int) (a0_3 : ByteArray) (l0_4 : List (S25)) : Option (Bool) := if a0_0 < 0 then (value_One.j0 k true a0_0 a0_1 a0_2 a0_3 l0_4) else (if a0_0 > 14 then (value_One.j0 k true a0_0 a0_1 a0_2 a0_3 l0_4) else (if a0_1 = true then (if a0_0 = 4 then (value_One.j0 k false a0_0 a0_1 a0_2 a0_3 l0_4) else (value_One.j0 k (a0_0 != 5) a0_0 a0_1 a0_2 a0_3 l0_4)) else (value_One.j0 k false a0_0 a0_1 a0_2 a0_3 l0_4)))
theorem value_One.mono_l : ∀ k, (∀ y0 y1 y2 y3 y4 y5, LeO (value_One.j0 k y0 y1 y2 y3 y4 y5) (value_One.j0 (k + 1) y0 y1 y2 y3 y4 y5)) ∧ (∀ y0 y1 y2 y3 y4 y5, LeO (value_One.j1 k y0 y1 y2 y3 y4 y5) (value_One.j1 (k + 1) y0 y1 y2 y3 y4 y5)) ∧ (∀ y0 y1 y2 y3 y4 y5 y6, LeO (value_One.j2 k y0 y1 y2 y3 y4 y5 y6) (value_One.j2 (k + 1) y0 y1 y2 y3 y4 y5 y6))
  | 0 => ⟨fun _ _ _ _ _ _ r h => by simp [value_One.j0] at h, fun _ _ _ _ _ _ r h => by simp [value_One.j1] at h, fun _ _ _ _ _ _ _ r h => by simp [value_One.j2] at h⟩
  | k + 1 => by
    obtain ⟨ih0, ih1, ih2⟩ := value_One.mono_l k
    refine ⟨?_, ?_, ?_⟩
    · intro y0 y1 y2 y3 y4 y5
      unfold value_One.j0
      repeat' first
      | (with_reducible exact ih0 _ _ _ _ _ _)
      | (with_reducible exact ih1 _ _ _ _ _ _)
      | (with_reducible exact ih2 _ _ _ _ _ _ _)
      | (with_reducible exact value_bits.mono _ _)
      | (with_reducible exact LeO.refl _)
      | (with_reducible exact LeO.none _)
      | (with_reducible refine LeO.ite ?_ ?_)
      | (with_reducible refine LeO.bind ?_ (fun _ => ?_))
      | exact ih0 _ _ _ _ _ _
      | exact ih1 _ _ _ _ _ _
      | exact ih2 _ _ _ _ _ _ _
      | exact value_bits.mono _ _
      | exact LeO.none _
      | refine LeO.ite ?_ ?_
      | refine LeO.bind ?_ (fun _ => ?_)
    · intro y0 y1 y2 y3 y4 y5
      unfold value_One.j1
      repeat' first
      | (with_reducible exact ih0 _ _ _ _ _ _)
      | (with_reducible exact ih1 _ _ _ _ _ _)
      | (with_reducible exact ih2 _ _ _ _ _ _ _)
      | (with_reducible exact value_bits.mono _ _)
      | (with_reducible exact LeO.refl _)
      | (with_reducible exact LeO.none _)
      | (with_reducible refine LeO.ite ?_ ?_)
      | (with_reducible refine LeO.bind ?_ (fun _ => ?_))
      | exact ih0 _ _ _ _ _ _
      | exact ih1 _ _ _ _ _ _
      | exact ih2 _ _ _ _ _ _ _
      | exact value_bits.mono _ _
      | exact LeO.none _
      | refine LeO.ite ?_ ?_
      | refine LeO.bind ?_ (fun _ => ?_)
    · intro y0 y1 y2 y3 y4 y5 y6
      unfold value_One.j2
      repeat' first
      | (with_reducible exact ih0 _ _ _ _ _ _)
      | (with_reducible exact ih1 _ _ _ _ _ _)
      | (with_reducible exact ih2 _ _ _ _ _ _ _)
      | (with_reducible exact value_bits.mono _ _)
      | (with_reducible exact LeO.refl _)
      | (with_reducible exact LeO.none _)
      | (with_reducible refine LeO.ite ?_ ?_)
      | (with_reducible refine LeO.bind ?_ (fun _ => ?_))
      | exact ih0 _ _ _ _ _ _
      | exact ih1 _ _ _ _ _ _
      | exact ih2 _ _ _ _ _ _ _
      | exact value_bits.mono _ _
      | exact LeO.none _
      | refine LeO.ite ?_ ?_
      | refine LeO.bind ?_ (fun _ => ?_)
theorem value_One.mono : ∀ a0 a1 a2 a3 a4 k, LeO (value_One.f k a0 a1 a2 a3 a4) (value_One.f (k + 1) a0 a1 a2 a3 a4) := by
  intro a0 a1 a2 a3 a4 k
  obtain ⟨ih0, ih1, ih2⟩ := value_One.mono_l k
  unfold value_One.f
  repeat' first
      | (with_reducible exact ih0 _ _ _ _ _ _)
      | (with_reducible exact ih1 _ _ _ _ _ _)
      | (with_reducible exact ih2 _ _ _ _ _ _ _)
      | (with_reducible exact value_bits.mono _ _)
      | (with_reducible exact LeO.refl _)
      | (with_reducible exact LeO.none _)
      | (with_reducible refine LeO.ite ?_ ?_)
      | (with_reducible refine LeO.bind ?_ (fun _ => ?_))
      | exact ih0 _ _ _ _ _ _
      | exact ih1 _ _ _ _ _ _
      | exact ih2 _ _ _ _ _ _ _
      | exact value_bits.mono _ _
      | exact LeO.none _
      | refine LeO.ite ?_ ?_
      | refine LeO.bind ?_ (fun _ => ?_)
set_option maxHeartbeats 8000000 in
set_option maxRecDepth 100000 in
theorem value_One.calls (k : Nat) (a0_0 : Int) (a0_1 : Bool) (a0_2 : Int) (a0_3 : ByteArray) (A0_4 : Option Addr) (c0_4 : Nat) (l0_4 : List (S25)) (r : Bool) (w : World) (hr0_4 : Kd.C k25 w A0_4 l0_4.length l0_4) (hc0_4 : l0_4.length ≤ c0_4) (h : value_One.f k a0_0 a0_1 a0_2 a0_3 l0_4 = some r) :
    Calls Tryz.prog 34 #[.agg #[.int .i64 a0_0, .bool a0_1, .int .u64 a0_2, .string a0_3, .slice A0_4 l0_4.length c0_4]] w fun e w' => e = .returned (.bool r) ∧ Below w.heap.size w w' := by
  have hu25 := Tryz.underlying25
  have HR0_4 := Aside0.mk hr0_4
  have HC0_4 := Aside0.mk hc0_4
  clear hr0_4 hc0_4
  have HB := Aside0.mk (Below.refl w.heap.size w)
  have H : (if a0_0 < 0 then (value_One.j0 k true a0_0 a0_1 a0_2 a0_3 l0_4) else (if a0_0 > 14 then (value_One.j0 k true a0_0 a0_1 a0_2 a0_3 l0_4) else (if a0_1 = true then (if a0_0 = 4 then (value_One.j0 k false a0_0 a0_1 a0_2 a0_3 l0_4) else (value_One.j0 k (a0_0 != 5) a0_0 a0_1 a0_2 a0_3 l0_4)) else (value_One.j0 k false a0_0 a0_1 a0_2 a0_3 l0_4)))) = some r := h
  clear h
  have HC2 := Aside0.mk H
  clear H
  go_enter Tryz.func34, Tryz.ntmps34
  go_upto_region 1 with (first | ((with_reducible refine gate_dst (N := 1) rfl ?_); refine box_event ?hg (N := 1) ?hd (cs := #[.int .i64 a0_0, .bool a0_1, .int .u64 a0_2, .string a0_3, .slice A0_4 l0_4.length c0_4]) (t := 25) ?hr ?_; (case hd => rfl); (case hg => rfl); (case hr => first | (go_simp; done) | (go_simp; rfl)); intro gb108 hg w3 hbox hb; have n0_ := Aside0.mk (below_step (by repeat (first | (with_reducible first | exact HB.out | apply below_alloc | apply pw_below_drewN | apply below_drew1) | exact HB.out)) hb); have n1_ := Aside0.mk (hbox); have n2_ := Aside0.mk ((by rw [hg]; exact (below_size (by repeat (first | (with_reducible first | exact HB.out | apply below_alloc | apply pw_below_drewN | apply below_drew1) | exact HB.out))) : w.heap.size ≤ gb108)); have n3_ := Aside0.mk ((by rw [hg]; exact (below_size (by repeat (first | (with_reducible first | exact HB.out | apply below_alloc | apply pw_below_drewN | apply below_drew1) | exact HB.out))) : w.heap.size ≤ gb108)); clear HB; have HB := n0_; have BK108 := n1_; have GW108 := n2_; have GE108 := n3_; clear n0_ n1_ n2_ n3_; clear hb hbox hg))
  (try simp only [Act.put, List.setIfInBounds_toArray, List.set_cons_zero, List.set_cons_succ])
  go_cut [27] (fun v27 wc => ∃ (kq : Nat) (x27_1 : Bool), v27 = .bool x27_1 ∧ Aside0 (value_One.j0 kq x27_1 a0_0 a0_1 a0_2 a0_3 l0_4 = some r) ∧ Aside0 (kq ≤ k) ∧ Aside0 (wc.heap[gb108]? = some (.cells #[.int .i64 a0_0, .bool a0_1, .int .u64 a0_2, .string a0_3, (.slice A0_4 l0_4.length c0_4)] 25 (0, 0))) ∧ Aside0 (Below w.heap.size w wc))
  case first =>
    have H := HC2.out
    clear HC2
    by_cases c4 : a0_0 < 0
    · rw [if_pos c4] at H
      have c4b0 : decide (a0_0 < 0) = true := decide_eq_true c4
      clear c4
      (first | rw [c4b0] | (simp only [i64_w, i32_w]; rw [c4b0]) | skip)
      have H' := Aside0.mk H
      clear H
      have hcz5_0 : w3.cell? ⟨gb108, 0, none⟩ = some (.int .i64 a0_0) := (blk_cell BK108.out 0).trans rfl
      have hcz5_1 : w3.cell? ⟨gb108, 1, none⟩ = some (.bool a0_1) := (blk_cell BK108.out 1).trans rfl
      have hcz5_2 : w3.cell? ⟨gb108, 2, none⟩ = some (.int .u64 a0_2) := (blk_cell BK108.out 2).trans rfl
      have hcz5_3 : w3.cell? ⟨gb108, 3, none⟩ = some (.string a0_3) := (blk_cell BK108.out 3).trans rfl
      have hcz5_4 : w3.cell? ⟨gb108, 4, none⟩ = some (.slice A0_4 l0_4.length c0_4) := (blk_cell BK108.out 4).trans rfl
      have hfz5_0 := blk_frozen BK108.out 0
      have hfz5_1 := blk_frozen BK108.out 1
      have hfz5_2 := blk_frozen BK108.out 2
      have hfz5_3 := blk_frozen BK108.out 3
      have hfz5_4 := blk_frozen BK108.out 4
      go_wp2
      go_meet
      case rel => exact ⟨_, (true), (by first | rfl | (simp; done) | (simp [*]; done)), H', ⟨by first | omega | exact Nat.le_refl _⟩, ⟨by (with_reducible repeat (first | refine blk_drewN ?_ _ | refine blk_drew ?_ | refine blk_alloc ?_ _)); exact BK108.out⟩, ⟨by repeat (first | (with_reducible first | exact HB.out | apply below_alloc | apply pw_below_drewN | apply below_drew1 | refine below_set ?_ GE108.out) | exact HB.out)⟩⟩
    · rw [if_neg c4] at H
      have c4b0 : decide (a0_0 < 0) = false := decide_eq_false c4
      clear c4
      (first | rw [c4b0] | (simp only [i64_w, i32_w]; rw [c4b0]) | skip)
      by_cases c6 : a0_0 > 14
      · rw [if_pos c6] at H
        have c6b0 : decide (14 < a0_0) = true := decide_eq_true c6
        clear c6
        have H' := Aside0.mk H
        clear H
        have hcz7_0 : w3.cell? ⟨gb108, 0, none⟩ = some (.int .i64 a0_0) := (blk_cell BK108.out 0).trans rfl
        have hcz7_1 : w3.cell? ⟨gb108, 1, none⟩ = some (.bool a0_1) := (blk_cell BK108.out 1).trans rfl
        have hcz7_2 : w3.cell? ⟨gb108, 2, none⟩ = some (.int .u64 a0_2) := (blk_cell BK108.out 2).trans rfl
        have hcz7_3 : w3.cell? ⟨gb108, 3, none⟩ = some (.string a0_3) := (blk_cell BK108.out 3).trans rfl
        have hcz7_4 : w3.cell? ⟨gb108, 4, none⟩ = some (.slice A0_4 l0_4.length c0_4) := (blk_cell BK108.out 4).trans rfl
        have hfz7_0 := blk_frozen BK108.out 0
        have hfz7_1 := blk_frozen BK108.out 1
        have hfz7_2 := blk_frozen BK108.out 2
        have hfz7_3 := blk_frozen BK108.out 3
        have hfz7_4 := blk_frozen BK108.out 4
        go_wp2
        go_meet
        case rel => exact ⟨_, (true), (by first | rfl | (simp; done) | (simp [*]; done)), H', ⟨by first | omega | exact Nat.le_refl _⟩, ⟨by (with_reducible repeat (first | refine blk_drewN ?_ _ | refine blk_drew ?_ | refine blk_alloc ?_ _)); exact BK108.out⟩, ⟨by repeat (first | (with_reducible first | exact HB.out | apply below_alloc | apply pw_below_drewN | apply below_drew1 | refine below_set ?_ GE108.out) | exact HB.out)⟩⟩
      · rw [if_neg c6] at H
        have c6b0 : decide (14 < a0_0) = false := decide_eq_false c6
        clear c6
        by_cases c8 : a0_1 = true
        · subst c8
          have H1 : (if a0_0 = 4 then (value_One.j0 k false a0_0 true a0_2 a0_3 l0_4) else (value_One.j0 k (a0_0 != 5) a0_0 true a0_2 a0_3 l0_4)) = some r := by rw [if_pos rfl] at H; exact H
          clear H
          have H := H1
          clear H1
          by_cases c9 : a0_0 = 4
          · rw [if_pos c9] at H
            have c9b0 : (a0_0 == 4) = true := beq_iff_eq.mpr c9
            have c9b1 : (a0_0 != 4) = false := bne_eq_false_iff_eq.mpr c9
            clear c9
            have H' := Aside0.mk H
            clear H
            have hcz10_0 : w3.cell? ⟨gb108, 0, none⟩ = some (.int .i64 a0_0) := (blk_cell BK108.out 0).trans rfl
            have hcz10_1 : w3.cell? ⟨gb108, 1, none⟩ = some (.bool true) := (blk_cell BK108.out 1).trans rfl
            have hcz10_2 : w3.cell? ⟨gb108, 2, none⟩ = some (.int .u64 a0_2) := (blk_cell BK108.out 2).trans rfl
            have hcz10_3 : w3.cell? ⟨gb108, 3, none⟩ = some (.string a0_3) := (blk_cell BK108.out 3).trans rfl
            have hcz10_4 : w3.cell? ⟨gb108, 4, none⟩ = some (.slice A0_4 l0_4.length c0_4) := (blk_cell BK108.out 4).trans rfl
            have hfz10_0 := blk_frozen BK108.out 0
            have hfz10_1 := blk_frozen BK108.out 1
            have hfz10_2 := blk_frozen BK108.out 2
            have hfz10_3 := blk_frozen BK108.out 3
            have hfz10_4 := blk_frozen BK108.out 4
            go_wp2
            go_meet
            case rel => exact ⟨_, (false), (by first | rfl | (simp; done) | (simp [*]; done)), H', ⟨by first | omega | exact Nat.le_refl _⟩, ⟨by (with_reducible repeat (first | refine blk_drewN ?_ _ | refine blk_drew ?_ | refine blk_alloc ?_ _)); exact BK108.out⟩, ⟨by repeat (first | (with_reducible first | exact HB.out | apply below_alloc | apply pw_below_drewN | apply below_drew1 | refine below_set ?_ GE108.out) | exact HB.out)⟩⟩
          · rw [if_neg c9] at H
            have c9b0 : (a0_0 == 4) = false := beq_eq_false_iff_ne.mpr c9
            have c9b1 : (a0_0 != 4) = true := bne_iff_ne.mpr c9
            have H' := Aside0.mk H
            clear H
            have hcz11_0 : w3.cell? ⟨gb108, 0, none⟩ = some (.int .i64 a0_0) := (blk_cell BK108.out 0).trans rfl
            have hcz11_1 : w3.cell? ⟨gb108, 1, none⟩ = some (.bool true) := (blk_cell BK108.out 1).trans rfl
            have hcz11_2 : w3.cell? ⟨gb108, 2, none⟩ = some (.int .u64 a0_2) := (blk_cell BK108.out 2).trans rfl
            have hcz11_3 : w3.cell? ⟨gb108, 3, none⟩ = some (.string a0_3) := (blk_cell BK108.out 3).trans rfl
            have hcz11_4 : w3.cell? ⟨gb108, 4, none⟩ = some (.slice A0_4 l0_4.length c0_4) := (blk_cell BK108.out 4).trans rfl
            have hfz11_0 := blk_frozen BK108.out 0
            have hfz11_1 := blk_frozen BK108.out 1
            have hfz11_2 := blk_frozen BK108.out 2
            have hfz11_3 := blk_frozen BK108.out 3
            have hfz11_4 := blk_frozen BK108.out 4
            go_wp2
            go_meet
            case rel => exact ⟨_, ((a0_0 != 5)), (by first | rfl | (simp; done) | (simp [*]; done)), H', ⟨by first | omega | exact Nat.le_refl _⟩, ⟨by (with_reducible repeat (first | refine blk_drewN ?_ _ | refine blk_drew ?_ | refine blk_alloc ?_ _)); exact BK108.out⟩, ⟨by repeat (first | (with_reducible first | exact HB.out | apply below_alloc | apply pw_below_drewN | apply below_drew1 | refine below_set ?_ GE108.out) | exact HB.out)⟩⟩
        · replace c8 := Bool.eq_false_iff.mpr c8
          subst c8
          have H1 : (value_One.j0 k false a0_0 false a0_2 a0_3 l0_4) = some r := by rw [if_neg (show ¬ (false = true) by decide)] at H; exact H
          clear H
          have H := H1
          clear H1
          have H' := Aside0.mk H
          clear H
          have hcz12_0 : w3.cell? ⟨gb108, 0, none⟩ = some (.int .i64 a0_0) := (blk_cell BK108.out 0).trans rfl
          have hcz12_1 : w3.cell? ⟨gb108, 1, none⟩ = some (.bool false) := (blk_cell BK108.out 1).trans rfl
          have hcz12_2 : w3.cell? ⟨gb108, 2, none⟩ = some (.int .u64 a0_2) := (blk_cell BK108.out 2).trans rfl
          have hcz12_3 : w3.cell? ⟨gb108, 3, none⟩ = some (.string a0_3) := (blk_cell BK108.out 3).trans rfl
          have hcz12_4 : w3.cell? ⟨gb108, 4, none⟩ = some (.slice A0_4 l0_4.length c0_4) := (blk_cell BK108.out 4).trans rfl
          have hfz12_0 := blk_frozen BK108.out 0
          have hfz12_1 := blk_frozen BK108.out 1
          have hfz12_2 := blk_frozen BK108.out 2
          have hfz12_3 := blk_frozen BK108.out 3
          have hfz12_4 := blk_frozen BK108.out 4
          go_wp2
          go_meet
          case rel => exact ⟨_, (false), (by first | rfl | (simp; done) | (simp [*]; done)), H', ⟨by first | omega | exact Nat.le_refl _⟩, ⟨by (with_reducible repeat (first | refine blk_drewN ?_ _ | refine blk_drew ?_ | refine blk_alloc ?_ _)); exact BK108.out⟩, ⟨by repeat (first | (with_reducible first | exact HB.out | apply below_alloc | apply pw_below_drewN | apply below_drew1 | refine below_set ?_ GE108.out) | exact HB.out)⟩⟩
  case rest =>
    clear HC2
    try clear p2
    try clear c3
    try clear c4
    try clear c4b0
    try clear c6
    try clear c6b0
    try clear c8
    try clear c9
    try clear c9b0
    try clear c9b1
    try clear hcz10_0
    try clear hcz10_1
    try clear hcz10_2
    try clear hcz10_3
    try clear hcz10_4
    try clear hcz11_0
    try clear hcz11_1
    try clear hcz11_2
    try clear hcz11_3
    try clear hcz11_4
    try clear hcz12_0
    try clear hcz12_1
    try clear hcz12_2
    try clear hcz12_3
    try clear hcz12_4
    try clear hcz5_0
    try clear hcz5_1
    try clear hcz5_2
    try clear hcz5_3
    try clear hcz5_4
    try clear hcz7_0
    try clear hcz7_1
    try clear hcz7_2
    try clear hcz7_3
    try clear hcz7_4
    try clear hfz10_0
    try clear hfz10_1
    try clear hfz10_2
    try clear hfz10_3
    try clear hfz10_4
    try clear hfz11_0
    try clear hfz11_1
    try clear hfz11_2
    try clear hfz11_3
    try clear hfz11_4
    try clear hfz12_0
    try clear hfz12_1
    try clear hfz12_2
    try clear hfz12_3
    try clear hfz12_4
    try clear hfz5_0
    try clear hfz5_1
    try clear hfz5_2
    try clear hfz5_3
    try clear hfz5_4
    try clear hfz7_0
    try clear hfz7_1
    try clear hfz7_2
    try clear hfz7_3
    try clear hfz7_4
    obtain ⟨kq, x27_1, rfl, HA, HJ1, BK108, HB⟩ := hcut
    cases kq with
    | zero => exact absurd HA.out (by simp [value_One.j0])
    | succ kj1 =>
      have H := HA.out
      clear HA
      simp only [value_One.j0] at H
      by_cases c13 : x27_1 = true
      · subst c13
        have H1 : (some false) = some r := by rw [if_pos rfl] at H; exact H
        clear H
        have H := H1
        clear H1
        obtain rfl := Option.some.inj H
        go_wp2
        go_ret
        exact ⟨by first | rfl | (simp [errW_none, errW_some] <;> rfl) | (simp [*, errW_none, errW_some] <;> rfl), by repeat (first | (with_reducible first | exact HB.out | apply below_alloc | apply pw_below_drewN | apply below_drew1 | refine below_set ?_ GE108.out) | exact HB.out)⟩
      · replace c13 := Bool.eq_false_iff.mpr c13
        subst c13
        have H1 : ((value_bits.f kj1 a0_0).bind fun t109 => (if t109 < 64 then (if 0 ≤ t109 then (value_One.j1 kj1 ((shr .u64 a0_2 t109) != 0) a0_0 a0_1 a0_2 a0_3 l0_4) else (none)) else (value_One.j1 kj1 false a0_0 a0_1 a0_2 a0_3 l0_4))) = some r := by rw [if_neg (show ¬ (false = true) by decide)] at H; exact H
        clear H
        have H := H1
        clear H1
        replace H := Option.bind_eq_some_iff.mp H
        obtain ⟨t109, A140, H⟩ := H
        replace H : (if t109 < 64 then (if 0 ≤ t109 then (value_One.j1 kj1 ((shr .u64 a0_2 t109) != 0) a0_0 a0_1 a0_2 a0_3 l0_4) else (none)) else (value_One.j1 kj1 false a0_0 a0_1 a0_2 a0_3 l0_4)) = some r := H
        have A14 := Aside0.mk A140
        clear A140
        have HC15 := Aside0.mk H
        clear H
        have hcz16_0 : wc.cell? ⟨gb108, 0, none⟩ = some (.int .i64 a0_0) := (blk_cell BK108.out 0).trans rfl
        have hcz16_1 : wc.cell? ⟨gb108, 1, none⟩ = some (.bool a0_1) := (blk_cell BK108.out 1).trans rfl
        have hcz16_2 : wc.cell? ⟨gb108, 2, none⟩ = some (.int .u64 a0_2) := (blk_cell BK108.out 2).trans rfl
        have hcz16_3 : wc.cell? ⟨gb108, 3, none⟩ = some (.string a0_3) := (blk_cell BK108.out 3).trans rfl
        have hcz16_4 : wc.cell? ⟨gb108, 4, none⟩ = some (.slice A0_4 l0_4.length c0_4) := (blk_cell BK108.out 4).trans rfl
        have hfz16_0 := blk_frozen BK108.out 0
        have hfz16_1 := blk_frozen BK108.out 1
        have hfz16_2 := blk_frozen BK108.out 2
        have hfz16_3 := blk_frozen BK108.out 3
        have hfz16_4 := blk_frozen BK108.out 4
        go_upto_region 4 with (first | ((with_reducible refine gate_callee (f := 62) rfl ?_); refine goesL_ (some 30) rfl rfl Tryz.func62 (by kernel_rfl) rfl #[.int .i64 a0_0] rfl (by (try simp only [List.map_toArray, List.map_cons, List.map_nil]); first | done | rfl | (simp only [List.length_drop, List.length_take]; rfl)) ?_; (with_reducible refine (value_bits.calls kj1 a0_0 t109 _ A14.out).mono ?_); rintro e w' ⟨rfl, ⟨nd, rfl⟩⟩; refine ⟨_, rfl, ?_⟩))
        (try simp only [Act.put, List.setIfInBounds_toArray, List.set_cons_zero, List.set_cons_succ])
        go_cut [39] (fun v39 wc => ∃ (kq : Nat) (x39_14 : Bool), v39 = .bool x39_14 ∧ Aside0 (value_One.j1 kq x39_14 a0_0 a0_1 a0_2 a0_3 l0_4 = some r) ∧ Aside0 (kq ≤ kj1) ∧ Aside0 (wc.heap[gb108]? = some (.cells #[.int .i64 a0_0, .bool a0_1, .int .u64 a0_2, .string a0_3, (.slice A0_4 l0_4.length c0_4)] 25 (0, 0))) ∧ Aside0 (Below w.heap.size w wc))
        case first =>
          have H := HC15.out
          clear HC15
          by_cases c17 : t109 < 64
          · rw [if_pos c17] at H
            have c17b0 : decide (t109 < 64) = true := decide_eq_true c17
            clear c17
            (first | rw [c17b0] | (simp only [i64_w, i32_w]; rw [c17b0]) | skip)
            by_cases c18 : 0 ≤ t109
            · rw [if_pos c18] at H
              have c18b0 := eq_true c18
              have c18b1 : decide (0 ≤ t109) = true := decide_eq_true c18
              clear c18
              obtain ⟨ji19, hji19⟩ : ∃ j_ : Int, (shr .u64 a0_2 t109) = j_ := ⟨_, rfl⟩
              replace H : (value_One.j1 kj1 ((ji19) != 0) a0_0 a0_1 a0_2 a0_3 l0_4) = some r := by first | (rw [hji19] at H; exact H) | (simp only [hji19] at H ⊢; exact H)
              have hji19_ : (a0_2 / 2 ^ min t109.toNat 64) = ji19 := hji19
              have hji19z : t109 ≤ 64 → (a0_2 / 2 ^ t109.toNat) = ji19 := shr_small hji19
              have H' := Aside0.mk H
              clear H
              have hcz20_0 : wc.cell? ⟨gb108, 0, none⟩ = some (.int .i64 a0_0) := (blk_cell BK108.out 0).trans rfl
              have hcz20_1 : wc.cell? ⟨gb108, 1, none⟩ = some (.bool a0_1) := (blk_cell BK108.out 1).trans rfl
              have hcz20_2 : wc.cell? ⟨gb108, 2, none⟩ = some (.int .u64 a0_2) := (blk_cell BK108.out 2).trans rfl
              have hcz20_3 : wc.cell? ⟨gb108, 3, none⟩ = some (.string a0_3) := (blk_cell BK108.out 3).trans rfl
              have hcz20_4 : wc.cell? ⟨gb108, 4, none⟩ = some (.slice A0_4 l0_4.length c0_4) := (blk_cell BK108.out 4).trans rfl
              have hfz20_0 := blk_frozen BK108.out 0
              have hfz20_1 := blk_frozen BK108.out 1
              have hfz20_2 := blk_frozen BK108.out 2
              have hfz20_3 := blk_frozen BK108.out 3
              have hfz20_4 := blk_frozen BK108.out 4
              go_wp2
              go_meet
              case rel => exact ⟨_, (((ji19) != 0)), (by first | rfl | (simp; done) | (simp only [← hji19] <;> (first | rfl | simp)) | (simp [*]; done)), H', ⟨by have := HJ1.out; first | omega | exact Nat.le_refl _⟩, ⟨by (with_reducible repeat (first | refine blk_drewN ?_ _ | refine blk_drew ?_ | refine blk_alloc ?_ _)); exact BK108.out⟩, ⟨by repeat (first | (with_reducible first | exact HB.out | apply below_alloc | apply pw_below_drewN | apply below_drew1 | refine below_set ?_ GE108.out) | exact HB.out)⟩⟩
            · rw [if_neg c18] at H
              exact absurd H (by simp)
          · rw [if_neg c17] at H
            have c17b0 : decide (t109 < 64) = false := decide_eq_false c17
            clear c17
            (first | rw [c17b0] | (simp only [i64_w, i32_w]; rw [c17b0]) | skip)
            have H' := Aside0.mk H
            clear H
            go_wp2
            go_meet
            case rel => exact ⟨_, (false), (by first | rfl | (simp; done) | (simp [*]; done)), H', ⟨by have := HJ1.out; first | omega | exact Nat.le_refl _⟩, ⟨by (with_reducible repeat (first | refine blk_drewN ?_ _ | refine blk_drew ?_ | refine blk_alloc ?_ _)); exact BK108.out⟩, ⟨by repeat (first | (with_reducible first | exact HB.out | apply below_alloc | apply pw_below_drewN | apply below_drew1 | refine below_set ?_ GE108.out) | exact HB.out)⟩⟩
        case rest =>
          clear HC15
          try clear c1
          try clear p2
          try clear c3
          try clear c4
          try clear c4b0
          try clear c6
          try clear c6b0
          try clear c8
          try clear c9
          try clear c9b0
          try clear c9b1
          try clear c13
          try clear c17
          try clear c17b0
          try clear c18
          try clear c18b0
          try clear c18b1
          try clear hcz10_0
          try clear hcz10_1
          try clear hcz10_2
          try clear hcz10_3
          try clear hcz10_4
          try clear hcz11_0
          try clear hcz11_1
          try clear hcz11_2
          try clear hcz11_3
          try clear hcz11_4
          try clear hcz12_0
          try clear hcz12_1
          try clear hcz12_2
          try clear hcz12_3
          try clear hcz12_4
          try clear hcz16_0
          try clear hcz16_1
          try clear hcz16_2
          try clear hcz16_3
          try clear hcz16_4
          try clear hcz20_0
          try clear hcz20_1
          try clear hcz20_2
          try clear hcz20_3
          try clear hcz20_4
          try clear hcz5_0
          try clear hcz5_1
          try clear hcz5_2
          try clear hcz5_3
          try clear hcz5_4
          try clear hcz7_0
          try clear hcz7_1
          try clear hcz7_2
          try clear hcz7_3
          try clear hcz7_4
          try clear hfz10_0
          try clear hfz10_1
          try clear hfz10_2
          try clear hfz10_3
          try clear hfz10_4
          try clear hfz11_0
          try clear hfz11_1
          try clear hfz11_2
          try clear hfz11_3
          try clear hfz11_4
          try clear hfz12_0
          try clear hfz12_1
          try clear hfz12_2
          try clear hfz12_3
          try clear hfz12_4
          try clear hfz16_0
          try clear hfz16_1
          try clear hfz16_2
          try clear hfz16_3
          try clear hfz16_4
          try clear hfz20_0
          try clear hfz20_1
          try clear hfz20_2
          try clear hfz20_3
          try clear hfz20_4
          try clear hfz5_0
          try clear hfz5_1
          try clear hfz5_2
          try clear hfz5_3
          try clear hfz5_4
          try clear hfz7_0
          try clear hfz7_1
          try clear hfz7_2
          try clear hfz7_3
          try clear hfz7_4
          try clear p2
          obtain ⟨kq, x39_14, rfl, HA, HJ14, BK108, HB⟩ := hcut
          cases kq with
          | zero => exact absurd HA.out (by simp [value_One.j1])
          | succ kj14 =>
            have H := HA.out
            clear HA
            simp only [value_One.j1] at H
            by_cases c21 : x39_14 = true
            · subst c21
              have H1 : (some false) = some r := by rw [if_pos rfl] at H; exact H
              clear H
              have H := H1
              clear H1
              obtain rfl := Option.some.inj H
              go_wp2
              go_ret
              exact ⟨by first | rfl | (simp [errW_none, errW_some] <;> rfl) | (simp [*, errW_none, errW_some] <;> rfl), by repeat (first | (with_reducible first | exact HB.out | apply below_alloc | apply pw_below_drewN | apply below_drew1 | refine below_set ?_ GE108.out) | exact HB.out)⟩
            · replace c21 := Bool.eq_false_iff.mpr c21
              subst c21
              have H1 : (if a0_0 = 10 then ((utf_Check.f a0_3).bind fun bt110 => (some (bt110.2 == 0))) else (if a0_0 = 9 then (value_One.j2 kj14 a0_0 (a0_0 == 9) a0_0 a0_1 a0_2 a0_3 l0_4) else (value_One.j2 kj14 a0_0 (a0_0 == 14) a0_0 a0_1 a0_2 a0_3 l0_4))) = some r := by rw [if_neg (show ¬ (false = true) by decide)] at H; exact H
              clear H
              have H := H1
              clear H1
              by_cases c22 : a0_0 = 10
              · rw [if_pos c22] at H
                have c22b0 : (a0_0 == 10) = true := beq_iff_eq.mpr c22
                have c22b1 : (a0_0 != 10) = false := bne_eq_false_iff_eq.mpr c22
                clear c22
                replace H := Option.bind_eq_some_iff.mp H
                obtain ⟨⟨t110, t111⟩, A230, H⟩ := H
                replace H : (some (t111 == 0)) = some r := H
                have A23 := Aside0.mk A230
                clear A230
                obtain rfl := Option.some.inj H
                have hcz24_0 : wc.cell? ⟨gb108, 0, none⟩ = some (.int .i64 a0_0) := (blk_cell BK108.out 0).trans rfl
                have hcz24_1 : wc.cell? ⟨gb108, 1, none⟩ = some (.bool a0_1) := (blk_cell BK108.out 1).trans rfl
                have hcz24_2 : wc.cell? ⟨gb108, 2, none⟩ = some (.int .u64 a0_2) := (blk_cell BK108.out 2).trans rfl
                have hcz24_3 : wc.cell? ⟨gb108, 3, none⟩ = some (.string a0_3) := (blk_cell BK108.out 3).trans rfl
                have hcz24_4 : wc.cell? ⟨gb108, 4, none⟩ = some (.slice A0_4 l0_4.length c0_4) := (blk_cell BK108.out 4).trans rfl
                have hfz24_0 := blk_frozen BK108.out 0
                have hfz24_1 := blk_frozen BK108.out 1
                have hfz24_2 := blk_frozen BK108.out 2
                have hfz24_3 := blk_frozen BK108.out 3
                have hfz24_4 := blk_frozen BK108.out 4
                go_wp2_with (first | ((with_reducible refine gate_callee (f := 63) rfl ?_); refine goesL_ (some 47) rfl rfl Tryz.func63 (by kernel_rfl) rfl #[.string a0_3] rfl (by (try simp only [List.map_toArray, List.map_cons, List.map_nil]); first | done | rfl | (simp only [List.length_drop, List.length_take]; rfl)) ?_; (with_reducible refine (utf_Check.calls a0_3 t110 t111 _ A23.out).mono ?_); rintro e w25 ⟨rfl, hb⟩; refine ⟨_, rfl, ?_⟩; have n0_ := Aside0.mk (blk_below (g := gb108) (o := .cells #[.int .i64 a0_0, .bool a0_1, .int .u64 a0_2, .string a0_3, .slice A0_4 l0_4.length c0_4] 25 (0, 0)) (by (with_reducible repeat (first | refine blk_drewN ?_ _ | refine blk_drew ?_ | refine blk_alloc ?_ _)); exact BK108.out) hb); have n1_ := Aside0.mk (below_step (by repeat (first | (with_reducible first | exact HB.out | apply below_alloc | apply pw_below_drewN | apply below_drew1 | refine below_set ?_ GE108.out) | exact HB.out)) hb); clear BK108; clear HB; have BK108 := n0_; have HB := n1_; clear n0_ n1_; (try clear hb); (try clear hb2); (try clear hk); (try clear hi)))
                go_ret
                exact ⟨by first | rfl | (simp [errW_none, errW_some] <;> rfl) | (simp [*, errW_none, errW_some] <;> rfl), by repeat (first | (with_reducible first | exact HB.out | apply below_alloc | apply pw_below_drewN | apply below_drew1 | refine below_set ?_ GE108.out) | exact HB.out)⟩
              · rw [if_neg c22] at H
                have c22b0 : (a0_0 == 10) = false := beq_eq_false_iff_ne.mpr c22
                have c22b1 : (a0_0 != 10) = true := bne_iff_ne.mpr c22
                have HC26 := Aside0.mk H
                clear H
                have hcz27_0 : wc.cell? ⟨gb108, 0, none⟩ = some (.int .i64 a0_0) := (blk_cell BK108.out 0).trans rfl
                have hcz27_1 : wc.cell? ⟨gb108, 1, none⟩ = some (.bool a0_1) := (blk_cell BK108.out 1).trans rfl
                have hcz27_2 : wc.cell? ⟨gb108, 2, none⟩ = some (.int .u64 a0_2) := (blk_cell BK108.out 2).trans rfl
                have hcz27_3 : wc.cell? ⟨gb108, 3, none⟩ = some (.string a0_3) := (blk_cell BK108.out 3).trans rfl
                have hcz27_4 : wc.cell? ⟨gb108, 4, none⟩ = some (.slice A0_4 l0_4.length c0_4) := (blk_cell BK108.out 4).trans rfl
                have hfz27_0 := blk_frozen BK108.out 0
                have hfz27_1 := blk_frozen BK108.out 1
                have hfz27_2 := blk_frozen BK108.out 2
                have hfz27_3 := blk_frozen BK108.out 3
                have hfz27_4 := blk_frozen BK108.out 4
                go_upto_if 52 with (fail)
                go_cut [52] (fun v52 wc => ∃ (kq : Nat) (x52_25 : Bool), v52 = .bool x52_25 ∧ Aside0 (value_One.j2 kq a0_0 x52_25 a0_0 a0_1 a0_2 a0_3 l0_4 = some r) ∧ Aside0 (kq ≤ kj14) ∧ Aside0 (wc.heap[gb108]? = some (.cells #[.int .i64 a0_0, .bool a0_1, .int .u64 a0_2, .string a0_3, (.slice A0_4 l0_4.length c0_4)] 25 (0, 0))) ∧ Aside0 (Below w.heap.size w wc))
                case first =>
                  have H := HC26.out
                  clear HC26
                  by_cases c28 : a0_0 = 9
                  · rw [if_pos c28] at H
                    have c28b0 : (a0_0 == 9) = true := beq_iff_eq.mpr c28
                    have c28b1 : (a0_0 != 9) = false := bne_eq_false_iff_eq.mpr c28
                    clear c28
                    (first | rw [c28b0] | (simp only [i64_w, i32_w]; rw [c28b0]) | skip)
                    have H' := Aside0.mk H
                    clear H
                    go_wp2
                    go_meet
                    case rel => exact ⟨_, ((a0_0 == 9)), (by first | rfl | (simp; done) | (simp [*]; done)), H', ⟨by have := HJ1.out; have := HJ14.out; first | omega | exact Nat.le_refl _⟩, ⟨by (with_reducible repeat (first | refine blk_drewN ?_ _ | refine blk_drew ?_ | refine blk_alloc ?_ _)); exact BK108.out⟩, ⟨by repeat (first | (with_reducible first | exact HB.out | apply below_alloc | apply pw_below_drewN | apply below_drew1 | refine below_set ?_ GE108.out) | exact HB.out)⟩⟩
                  · rw [if_neg c28] at H
                    have c28b0 : (a0_0 == 9) = false := beq_eq_false_iff_ne.mpr c28
                    have c28b1 : (a0_0 != 9) = true := bne_iff_ne.mpr c28
                    (first | rw [c28b0] | (simp only [i64_w, i32_w]; rw [c28b0]) | skip)
                    have H' := Aside0.mk H
                    clear H
                    go_wp2
                    go_meet
                    case rel => exact ⟨_, ((a0_0 == 14)), (by first | rfl | (simp; done) | (simp [*]; done)), H', ⟨by have := HJ1.out; have := HJ14.out; first | omega | exact Nat.le_refl _⟩, ⟨by (with_reducible repeat (first | refine blk_drewN ?_ _ | refine blk_drew ?_ | refine blk_alloc ?_ _)); exact BK108.out⟩, ⟨by repeat (first | (with_reducible first | exact HB.out | apply below_alloc | apply pw_below_drewN | apply below_drew1 | refine below_set ?_ GE108.out) | exact HB.out)⟩⟩
                case rest =>
                  clear HC26
                  try clear c1
                  try clear c2
                  try clear p2
                  try clear c3
                  try clear c4
                  try clear c4b0
                  try clear c6
                  try clear c6b0
                  try clear c8
                  try clear c9
                  try clear c9b0
                  try clear c9b1
                  try clear c13
                  try clear c17
                  try clear c17b0
                  try clear c18
                  try clear c18b0
                  try clear c18b1
                  try clear c21
                  try clear c22
                  try clear c22b0
                  try clear c22b1
                  try clear c28
                  try clear c28b0
                  try clear c28b1
                  try clear hcz10_0
                  try clear hcz10_1
                  try clear hcz10_2
                  try clear hcz10_3
                  try clear hcz10_4
                  try clear hcz11_0
                  try clear hcz11_1
                  try clear hcz11_2
                  try clear hcz11_3
                  try clear hcz11_4
                  try clear hcz12_0
                  try clear hcz12_1
                  try clear hcz12_2
                  try clear hcz12_3
                  try clear hcz12_4
                  try clear hcz16_0
                  try clear hcz16_1
                  try clear hcz16_2
                  try clear hcz16_3
                  try clear hcz16_4
                  try clear hcz20_0
                  try clear hcz20_1
                  try clear hcz20_2
                  try clear hcz20_3
                  try clear hcz20_4
                  try clear hcz24_0
                  try clear hcz24_1
                  try clear hcz24_2
                  try clear hcz24_3
                  try clear hcz24_4
                  try clear hcz27_0
                  try clear hcz27_1
                  try clear hcz27_2
                  try clear hcz27_3
                  try clear hcz27_4
                  try clear hcz5_0
                  try clear hcz5_1
                  try clear hcz5_2
                  try clear hcz5_3
                  try clear hcz5_4
                  try clear hcz7_0
                  try clear hcz7_1
                  try clear hcz7_2
                  try clear hcz7_3
                  try clear hcz7_4
                  try clear hfz10_0
                  try clear hfz10_1
                  try clear hfz10_2
                  try clear hfz10_3
                  try clear hfz10_4
                  try clear hfz11_0
                  try clear hfz11_1
                  try clear hfz11_2
                  try clear hfz11_3
                  try clear hfz11_4
                  try clear hfz12_0
                  try clear hfz12_1
                  try clear hfz12_2
                  try clear hfz12_3
                  try clear hfz12_4
                  try clear hfz16_0
                  try clear hfz16_1
                  try clear hfz16_2
                  try clear hfz16_3
                  try clear hfz16_4
                  try clear hfz20_0
                  try clear hfz20_1
                  try clear hfz20_2
                  try clear hfz20_3
                  try clear hfz20_4
                  try clear hfz24_0
                  try clear hfz24_1
                  try clear hfz24_2
                  try clear hfz24_3
                  try clear hfz24_4
                  try clear hfz27_0
                  try clear hfz27_1
                  try clear hfz27_2
                  try clear hfz27_3
                  try clear hfz27_4
                  try clear hfz5_0
                  try clear hfz5_1
                  try clear hfz5_2
                  try clear hfz5_3
                  try clear hfz5_4
                  try clear hfz7_0
                  try clear hfz7_1
                  try clear hfz7_2
                  try clear hfz7_3
                  try clear hfz7_4
                  try clear p2
                  obtain ⟨kq, x52_25, rfl, HA, HJ25, BK108, HB⟩ := hcut
                  cases kq with
                  | zero => exact absurd HA.out (by simp [value_One.j2])
                  | succ kj25 =>
                    have H := HA.out
                    clear HA
                    simp only [value_One.j2] at H
                    by_cases c29 : x52_25 = true
                    · subst c29
                      have H1 : (some true) = some r := by rw [if_pos rfl] at H; exact H
                      clear H
                      have H := H1
                      clear H1
                      obtain rfl := Option.some.inj H
                      go_wp2
                      go_ret
                      exact ⟨by first | rfl | (simp [errW_none, errW_some] <;> rfl) | (simp [*, errW_none, errW_some] <;> rfl), by repeat (first | (with_reducible first | exact HB.out | apply below_alloc | apply pw_below_drewN | apply below_drew1 | refine below_set ?_ GE108.out) | exact HB.out)⟩
                    · replace c29 := Bool.eq_false_iff.mpr c29
                      subst c29
                      have H1 : (if a0_0 = 5 then ((value_big.f a0_3).bind fun t112 => (some t112)) else (if a0_0 = 3 then (if a0_2 > 19 then (if a0_2 < 32 then (some false) else (some (a0_3.toList == ([] : List UInt8)))) else (some (a0_3.toList == ([] : List UInt8)))) else (if a0_0 = 12 then (if ((l0_4.length : Int) % 2) = 0 then (some (a0_3.toList == ([] : List UInt8))) else (some false)) else (if a0_0 = 13 then (if (l0_4.length : Int) = 1 then (if (a0_2 / 2) = 1 then (if 0 < (l0_4.length : Int) then (if ((rd_T25 l0_4 0).f0) = 9 then ((value_big.f ((rd_T25 l0_4 0).f3)).bind fun t115 => (if t115 = true then (some false) else (some (a0_3.toList == ([] : List UInt8))))) else (some (a0_3.toList == ([] : List UInt8)))) else (none)) else (some (a0_3.toList == ([] : List UInt8)))) else (some false)) else (some (a0_3.toList == ([] : List UInt8))))))) = some r := by rw [if_neg (show ¬ (false = true) by decide)] at H; exact H
                      clear H
                      have H := H1
                      clear H1
                      by_cases c30 : a0_0 = 5
                      · rw [if_pos c30] at H
                        have c30b0 : (a0_0 == 5) = true := beq_iff_eq.mpr c30
                        have c30b1 : (a0_0 != 5) = false := bne_eq_false_iff_eq.mpr c30
                        clear c30
                        replace H := Option.bind_eq_some_iff.mp H
                        obtain ⟨t112, A310, H⟩ := H
                        replace H : (some t112) = some r := H
                        have A31 := Aside0.mk A310
                        clear A310
                        obtain rfl := Option.some.inj H
                        have hcz32_0 : wc.cell? ⟨gb108, 0, none⟩ = some (.int .i64 a0_0) := (blk_cell BK108.out 0).trans rfl
                        have hcz32_1 : wc.cell? ⟨gb108, 1, none⟩ = some (.bool a0_1) := (blk_cell BK108.out 1).trans rfl
                        have hcz32_2 : wc.cell? ⟨gb108, 2, none⟩ = some (.int .u64 a0_2) := (blk_cell BK108.out 2).trans rfl
                        have hcz32_3 : wc.cell? ⟨gb108, 3, none⟩ = some (.string a0_3) := (blk_cell BK108.out 3).trans rfl
                        have hcz32_4 : wc.cell? ⟨gb108, 4, none⟩ = some (.slice A0_4 l0_4.length c0_4) := (blk_cell BK108.out 4).trans rfl
                        have hfz32_0 := blk_frozen BK108.out 0
                        have hfz32_1 := blk_frozen BK108.out 1
                        have hfz32_2 := blk_frozen BK108.out 2
                        have hfz32_3 := blk_frozen BK108.out 3
                        have hfz32_4 := blk_frozen BK108.out 4
                        go_wp2_with (first | ((with_reducible refine gate_callee (f := 64) rfl ?_); refine goesL_ (some 59) rfl rfl Tryz.func64 (by kernel_rfl) rfl #[.string a0_3] rfl (by (try simp only [List.map_toArray, List.map_cons, List.map_nil]); first | done | rfl | (simp only [List.length_drop, List.length_take]; rfl)) ?_; (with_reducible refine (value_big.calls a0_3 t112 _ A31.out).mono ?_); rintro e w' ⟨rfl, ⟨nd, rfl⟩⟩; refine ⟨_, rfl, ?_⟩))
                        go_ret
                        exact ⟨by first | rfl | (simp [errW_none, errW_some] <;> rfl) | (simp [*, errW_none, errW_some] <;> rfl), by repeat (first | (with_reducible first | exact HB.out | apply below_alloc | apply pw_below_drewN | apply below_drew1 | refine below_set ?_ GE108.out) | exact HB.out)⟩
                      · rw [if_neg c30] at H
                        have c30b0 : (a0_0 == 5) = false := beq_eq_false_iff_ne.mpr c30
                        have c30b1 : (a0_0 != 5) = true := bne_iff_ne.mpr c30
                        by_cases c33 : a0_0 = 3
                        · rw [if_pos c33] at H
                          have c33b0 : (a0_0 == 3) = true := beq_iff_eq.mpr c33
                          have c33b1 : (a0_0 != 3) = false := bne_eq_false_iff_eq.mpr c33
                          clear c33
                          by_cases c34 : a0_2 > 19
                          · rw [if_pos c34] at H
                            have c34b0 : decide (19 < a0_2) = true := decide_eq_true c34
                            clear c34
                            by_cases c35 : a0_2 < 32
                            · rw [if_pos c35] at H
                              have c35b0 : decide (a0_2 < 32) = true := decide_eq_true c35
                              clear c35
                              obtain rfl := Option.some.inj H
                              have hcz36_0 : wc.cell? ⟨gb108, 0, none⟩ = some (.int .i64 a0_0) := (blk_cell BK108.out 0).trans rfl
                              have hcz36_1 : wc.cell? ⟨gb108, 1, none⟩ = some (.bool a0_1) := (blk_cell BK108.out 1).trans rfl
                              have hcz36_2 : wc.cell? ⟨gb108, 2, none⟩ = some (.int .u64 a0_2) := (blk_cell BK108.out 2).trans rfl
                              have hcz36_3 : wc.cell? ⟨gb108, 3, none⟩ = some (.string a0_3) := (blk_cell BK108.out 3).trans rfl
                              have hcz36_4 : wc.cell? ⟨gb108, 4, none⟩ = some (.slice A0_4 l0_4.length c0_4) := (blk_cell BK108.out 4).trans rfl
                              have hfz36_0 := blk_frozen BK108.out 0
                              have hfz36_1 := blk_frozen BK108.out 1
                              have hfz36_2 := blk_frozen BK108.out 2
                              have hfz36_3 := blk_frozen BK108.out 3
                              have hfz36_4 := blk_frozen BK108.out 4
                              go_wp2
                              go_ret
                              exact ⟨by first | rfl | (simp [errW_none, errW_some] <;> rfl) | (simp [*, errW_none, errW_some] <;> rfl), by repeat (first | (with_reducible first | exact HB.out | apply below_alloc | apply pw_below_drewN | apply below_drew1 | refine below_set ?_ GE108.out) | exact HB.out)⟩
                            · rw [if_neg c35] at H
                              have c35b0 : decide (a0_2 < 32) = false := decide_eq_false c35
                              clear c35
                              obtain rfl := Option.some.inj H
                              have hcz37_0 : wc.cell? ⟨gb108, 0, none⟩ = some (.int .i64 a0_0) := (blk_cell BK108.out 0).trans rfl
                              have hcz37_1 : wc.cell? ⟨gb108, 1, none⟩ = some (.bool a0_1) := (blk_cell BK108.out 1).trans rfl
                              have hcz37_2 : wc.cell? ⟨gb108, 2, none⟩ = some (.int .u64 a0_2) := (blk_cell BK108.out 2).trans rfl
                              have hcz37_3 : wc.cell? ⟨gb108, 3, none⟩ = some (.string a0_3) := (blk_cell BK108.out 3).trans rfl
                              have hcz37_4 : wc.cell? ⟨gb108, 4, none⟩ = some (.slice A0_4 l0_4.length c0_4) := (blk_cell BK108.out 4).trans rfl
                              have hfz37_0 := blk_frozen BK108.out 0
                              have hfz37_1 := blk_frozen BK108.out 1
                              have hfz37_2 := blk_frozen BK108.out 2
                              have hfz37_3 := blk_frozen BK108.out 3
                              have hfz37_4 := blk_frozen BK108.out 4
                              go_wp2
                              go_ret
                              exact ⟨by first | rfl | (simp [errW_none, errW_some] <;> rfl) | (simp [*, errW_none, errW_some] <;> rfl), by repeat (first | (with_reducible first | exact HB.out | apply below_alloc | apply pw_below_drewN | apply below_drew1 | refine below_set ?_ GE108.out) | exact HB.out)⟩
                          · rw [if_neg c34] at H
                            have c34b0 : decide (19 < a0_2) = false := decide_eq_false c34
                            clear c34
                            obtain rfl := Option.some.inj H
                            have hcz38_0 : wc.cell? ⟨gb108, 0, none⟩ = some (.int .i64 a0_0) := (blk_cell BK108.out 0).trans rfl
                            have hcz38_1 : wc.cell? ⟨gb108, 1, none⟩ = some (.bool a0_1) := (blk_cell BK108.out 1).trans rfl
                            have hcz38_2 : wc.cell? ⟨gb108, 2, none⟩ = some (.int .u64 a0_2) := (blk_cell BK108.out 2).trans rfl
                            have hcz38_3 : wc.cell? ⟨gb108, 3, none⟩ = some (.string a0_3) := (blk_cell BK108.out 3).trans rfl
                            have hcz38_4 : wc.cell? ⟨gb108, 4, none⟩ = some (.slice A0_4 l0_4.length c0_4) := (blk_cell BK108.out 4).trans rfl
                            have hfz38_0 := blk_frozen BK108.out 0
                            have hfz38_1 := blk_frozen BK108.out 1
                            have hfz38_2 := blk_frozen BK108.out 2
                            have hfz38_3 := blk_frozen BK108.out 3
                            have hfz38_4 := blk_frozen BK108.out 4
                            go_wp2
                            go_ret
                            exact ⟨by first | rfl | (simp [errW_none, errW_some] <;> rfl) | (simp [*, errW_none, errW_some] <;> rfl), by repeat (first | (with_reducible first | exact HB.out | apply below_alloc | apply pw_below_drewN | apply below_drew1 | refine below_set ?_ GE108.out) | exact HB.out)⟩
                        · rw [if_neg c33] at H
                          have c33b0 : (a0_0 == 3) = false := beq_eq_false_iff_ne.mpr c33
                          have c33b1 : (a0_0 != 3) = true := bne_iff_ne.mpr c33
                          by_cases c39 : a0_0 = 12
                          · rw [if_pos c39] at H
                            have c39b0 : (a0_0 == 12) = true := beq_iff_eq.mpr c39
                            have c39b1 : (a0_0 != 12) = false := bne_eq_false_iff_eq.mpr c39
                            clear c39
                            by_cases c40 : ((l0_4.length : Int) % 2) = 0
                            · rw [if_pos c40] at H
                              have c40b0 : (((l0_4.length : Int) % 2) == 0) = true := beq_iff_eq.mpr c40
                              have c40b1 : (((l0_4.length : Int) % 2) != 0) = false := bne_eq_false_iff_eq.mpr c40
                              clear c40
                              obtain rfl := Option.some.inj H
                              have hcz41_0 : wc.cell? ⟨gb108, 0, none⟩ = some (.int .i64 a0_0) := (blk_cell BK108.out 0).trans rfl
                              have hcz41_1 : wc.cell? ⟨gb108, 1, none⟩ = some (.bool a0_1) := (blk_cell BK108.out 1).trans rfl
                              have hcz41_2 : wc.cell? ⟨gb108, 2, none⟩ = some (.int .u64 a0_2) := (blk_cell BK108.out 2).trans rfl
                              have hcz41_3 : wc.cell? ⟨gb108, 3, none⟩ = some (.string a0_3) := (blk_cell BK108.out 3).trans rfl
                              have hcz41_4 : wc.cell? ⟨gb108, 4, none⟩ = some (.slice A0_4 l0_4.length c0_4) := (blk_cell BK108.out 4).trans rfl
                              have hfz41_0 := blk_frozen BK108.out 0
                              have hfz41_1 := blk_frozen BK108.out 1
                              have hfz41_2 := blk_frozen BK108.out 2
                              have hfz41_3 := blk_frozen BK108.out 3
                              have hfz41_4 := blk_frozen BK108.out 4
                              go_wp2
                              go_ret
                              exact ⟨by first | rfl | (simp [errW_none, errW_some] <;> rfl) | (simp [*, errW_none, errW_some] <;> rfl), by repeat (first | (with_reducible first | exact HB.out | apply below_alloc | apply pw_below_drewN | apply below_drew1 | refine below_set ?_ GE108.out) | exact HB.out)⟩
                            · rw [if_neg c40] at H
                              have c40b0 : (((l0_4.length : Int) % 2) == 0) = false := beq_eq_false_iff_ne.mpr c40
                              have c40b1 : (((l0_4.length : Int) % 2) != 0) = true := bne_iff_ne.mpr c40
                              obtain rfl := Option.some.inj H
                              have hcz42_0 : wc.cell? ⟨gb108, 0, none⟩ = some (.int .i64 a0_0) := (blk_cell BK108.out 0).trans rfl
                              have hcz42_1 : wc.cell? ⟨gb108, 1, none⟩ = some (.bool a0_1) := (blk_cell BK108.out 1).trans rfl
                              have hcz42_2 : wc.cell? ⟨gb108, 2, none⟩ = some (.int .u64 a0_2) := (blk_cell BK108.out 2).trans rfl
                              have hcz42_3 : wc.cell? ⟨gb108, 3, none⟩ = some (.string a0_3) := (blk_cell BK108.out 3).trans rfl
                              have hcz42_4 : wc.cell? ⟨gb108, 4, none⟩ = some (.slice A0_4 l0_4.length c0_4) := (blk_cell BK108.out 4).trans rfl
                              have hfz42_0 := blk_frozen BK108.out 0
                              have hfz42_1 := blk_frozen BK108.out 1
                              have hfz42_2 := blk_frozen BK108.out 2
                              have hfz42_3 := blk_frozen BK108.out 3
                              have hfz42_4 := blk_frozen BK108.out 4
                              go_wp2
                              go_ret
                              exact ⟨by first | rfl | (simp [errW_none, errW_some] <;> rfl) | (simp [*, errW_none, errW_some] <;> rfl), by repeat (first | (with_reducible first | exact HB.out | apply below_alloc | apply pw_below_drewN | apply below_drew1 | refine below_set ?_ GE108.out) | exact HB.out)⟩
                          · rw [if_neg c39] at H
                            have c39b0 : (a0_0 == 12) = false := beq_eq_false_iff_ne.mpr c39
                            have c39b1 : (a0_0 != 12) = true := bne_iff_ne.mpr c39
                            by_cases c43 : a0_0 = 13
                            · rw [if_pos c43] at H
                              have c43b0 : (a0_0 == 13) = true := beq_iff_eq.mpr c43
                              have c43b1 : (a0_0 != 13) = false := bne_eq_false_iff_eq.mpr c43
                              clear c43
                              by_cases c44 : (l0_4.length : Int) = 1
                              · rw [if_pos c44] at H
                                have c44b0 : ((l0_4.length : Int) == 1) = true := beq_iff_eq.mpr c44
                                have c44b1 : ((l0_4.length : Int) != 1) = false := bne_eq_false_iff_eq.mpr c44
                                clear c44
                                by_cases c45 : (a0_2 / 2) = 1
                                · rw [if_pos c45] at H
                                  have c45b0 : ((a0_2 / 2) == 1) = true := beq_iff_eq.mpr c45
                                  have c45b1 : ((a0_2 / 2) != 1) = false := bne_eq_false_iff_eq.mpr c45
                                  clear c45
                                  by_cases c46 : 0 < (l0_4.length : Int)
                                  · rw [if_pos c46] at H
                                    have c46b0 : decide (0 < (l0_4.length : Int)) = true := decide_eq_true c46
                                    have c46b1 : decide (0 < l0_4.length) = true := decide_eq_true (by omega)
                                    clear c46
                                    by_cases c47 : ((rd_T25 l0_4 0).f0) = 9
                                    · rw [if_pos c47] at H
                                      have c47b0 : (((rd_T25 l0_4 0).f0) == 9) = true := beq_iff_eq.mpr c47
                                      have c47b1 : (((rd_T25 l0_4 0).f0) != 9) = false := bne_eq_false_iff_eq.mpr c47
                                      clear c47
                                      replace H := Option.bind_eq_some_iff.mp H
                                      obtain ⟨t115, A480, H⟩ := H
                                      replace H : (if t115 = true then (some false) else (some (a0_3.toList == ([] : List UInt8)))) = some r := H
                                      have A48 := Aside0.mk A480
                                      clear A480
                                      by_cases c49 : t115 = true
                                      · subst c49
                                        have H1 : (some false) = some r := by rw [if_pos rfl] at H; exact H
                                        clear H
                                        have H := H1
                                        clear H1
                                        obtain rfl := Option.some.inj H
                                        have hcz50_0 : wc.cell? ⟨gb108, 0, none⟩ = some (.int .i64 a0_0) := (blk_cell BK108.out 0).trans rfl
                                        have hcz50_1 : wc.cell? ⟨gb108, 1, none⟩ = some (.bool a0_1) := (blk_cell BK108.out 1).trans rfl
                                        have hcz50_2 : wc.cell? ⟨gb108, 2, none⟩ = some (.int .u64 a0_2) := (blk_cell BK108.out 2).trans rfl
                                        have hcz50_3 : wc.cell? ⟨gb108, 3, none⟩ = some (.string a0_3) := (blk_cell BK108.out 3).trans rfl
                                        have hcz50_4 : wc.cell? ⟨gb108, 4, none⟩ = some (.slice A0_4 l0_4.length c0_4) := (blk_cell BK108.out 4).trans rfl
                                        have hfz50_0 := blk_frozen BK108.out 0
                                        have hfz50_1 := blk_frozen BK108.out 1
                                        have hfz50_2 := blk_frozen BK108.out 2
                                        have hfz50_3 := blk_frozen BK108.out 3
                                        have hfz50_4 := blk_frozen BK108.out 4
                                        have p113 : 0 ≤ (0 : Int) := (by omega)
                                        have q113 : 0 < (l0_4.length : Int) := of_decide_eq_true (by first | (with_reducible assumption) | assumption)
                                        obtain ⟨ad113, A113_4, c113_4, e113, hx113_0, hx113_1, hx113_2, hx113_3, hx113_4, hl113_4, hi113_4⟩ := at_T25 HR0_4.out 0 p113 q113
                                        cases e113
                                        have qi113 : (0 < l0_4.length) = True := eq_true (by omega)
                                        (try rw [show ((0 : Int)).toNat = 0 from rfl] at hx113_0)
                                        (try rw [show 0 * 5 = 0 from rfl] at hx113_0)
                                        (try rw [Addr.add_zero'] at hx113_0)
                                        (try rw [show ((0 : Int)).toNat = 0 from rfl] at hx113_1)
                                        (try rw [show 0 * 5 = 0 from rfl] at hx113_1)
                                        (try rw [Addr.add_zero'] at hx113_1)
                                        (try rw [show ((0 : Int)).toNat = 0 from rfl] at hx113_2)
                                        (try rw [show 0 * 5 = 0 from rfl] at hx113_2)
                                        (try rw [Addr.add_zero'] at hx113_2)
                                        (try rw [show ((0 : Int)).toNat = 0 from rfl] at hx113_3)
                                        (try rw [show 0 * 5 = 0 from rfl] at hx113_3)
                                        (try rw [Addr.add_zero'] at hx113_3)
                                        (try rw [show ((0 : Int)).toNat = 0 from rfl] at hx113_4)
                                        (try rw [show 0 * 5 = 0 from rfl] at hx113_4)
                                        (try rw [Addr.add_zero'] at hx113_4)
                                        replace hx113_0 := (HB.out.cell (World.block_lt_of_cell? w _ hx113_0)).trans hx113_0
                                        replace hx113_1 := (HB.out.cell (World.block_lt_of_cell? w _ hx113_1)).trans hx113_1
                                        replace hx113_2 := (HB.out.cell (World.block_lt_of_cell? w _ hx113_2)).trans hx113_2
                                        replace hx113_3 := (HB.out.cell (World.block_lt_of_cell? w _ hx113_3)).trans hx113_3
                                        replace hx113_4 := (HB.out.cell (World.block_lt_of_cell? w _ hx113_4)).trans hx113_4
                                        have HR113_4 := Aside0.mk hi113_4
                                        have HC113_4 := Aside0.mk hl113_4
                                        clear hi113_4 hl113_4
                                        replace p113 := eq_true p113
                                        replace q113 := eq_true q113
                                        have p114 : 0 ≤ (0 : Int) := (by omega)
                                        have q114 : 0 < (l0_4.length : Int) := of_decide_eq_true (by first | (with_reducible assumption) | assumption)
                                        obtain ⟨ad114, A114_4, c114_4, e114, hx114_0, hx114_1, hx114_2, hx114_3, hx114_4, hl114_4, hi114_4⟩ := at_T25 HR0_4.out 0 p114 q114
                                        obtain rfl : ad113 = ad114 := (by injection e114)
                                        have qi114 : (0 < l0_4.length) = True := eq_true (by omega)
                                        (try rw [show ((0 : Int)).toNat = 0 from rfl] at hx114_0)
                                        (try rw [show 0 * 5 = 0 from rfl] at hx114_0)
                                        (try rw [Addr.add_zero'] at hx114_0)
                                        (try rw [show ((0 : Int)).toNat = 0 from rfl] at hx114_1)
                                        (try rw [show 0 * 5 = 0 from rfl] at hx114_1)
                                        (try rw [Addr.add_zero'] at hx114_1)
                                        (try rw [show ((0 : Int)).toNat = 0 from rfl] at hx114_2)
                                        (try rw [show 0 * 5 = 0 from rfl] at hx114_2)
                                        (try rw [Addr.add_zero'] at hx114_2)
                                        (try rw [show ((0 : Int)).toNat = 0 from rfl] at hx114_3)
                                        (try rw [show 0 * 5 = 0 from rfl] at hx114_3)
                                        (try rw [Addr.add_zero'] at hx114_3)
                                        (try rw [show ((0 : Int)).toNat = 0 from rfl] at hx114_4)
                                        (try rw [show 0 * 5 = 0 from rfl] at hx114_4)
                                        (try rw [Addr.add_zero'] at hx114_4)
                                        replace hx114_0 := (HB.out.cell (World.block_lt_of_cell? w _ hx114_0)).trans hx114_0
                                        replace hx114_1 := (HB.out.cell (World.block_lt_of_cell? w _ hx114_1)).trans hx114_1
                                        replace hx114_2 := (HB.out.cell (World.block_lt_of_cell? w _ hx114_2)).trans hx114_2
                                        replace hx114_3 := (HB.out.cell (World.block_lt_of_cell? w _ hx114_3)).trans hx114_3
                                        replace hx114_4 := (HB.out.cell (World.block_lt_of_cell? w _ hx114_4)).trans hx114_4
                                        have HR114_4 := Aside0.mk hi114_4
                                        have HC114_4 := Aside0.mk hl114_4
                                        clear hi114_4 hl114_4
                                        replace p114 := eq_true p114
                                        replace q114 := eq_true q114
                                        have ea_ := Option.some.inj (hx113_4.symm.trans hx114_4)
                                        injection ea_ with ea_ en_ ec_
                                        subst ea_
                                        subst ec_
                                        clear en_
                                        go_wp2_with (first | (go_at_call 64; (with_reducible refine (value_big.calls ((rd_T25 l0_4 0).f3) true _ A48.out).mono ?_); rintro e w' ⟨rfl, ⟨nd, rfl⟩⟩))
                                        go_ret
                                        exact ⟨by first | rfl | (simp [errW_none, errW_some] <;> rfl) | (simp [*, errW_none, errW_some] <;> rfl), by repeat (first | (with_reducible first | exact HB.out | apply below_alloc | apply pw_below_drewN | apply below_drew1 | refine below_set ?_ GE108.out) | exact HB.out)⟩
                                      · replace c49 := Bool.eq_false_iff.mpr c49
                                        subst c49
                                        have H1 : (some (a0_3.toList == ([] : List UInt8))) = some r := by rw [if_neg (show ¬ (false = true) by decide)] at H; exact H
                                        clear H
                                        have H := H1
                                        clear H1
                                        obtain rfl := Option.some.inj H
                                        have hcz51_0 : wc.cell? ⟨gb108, 0, none⟩ = some (.int .i64 a0_0) := (blk_cell BK108.out 0).trans rfl
                                        have hcz51_1 : wc.cell? ⟨gb108, 1, none⟩ = some (.bool a0_1) := (blk_cell BK108.out 1).trans rfl
                                        have hcz51_2 : wc.cell? ⟨gb108, 2, none⟩ = some (.int .u64 a0_2) := (blk_cell BK108.out 2).trans rfl
                                        have hcz51_3 : wc.cell? ⟨gb108, 3, none⟩ = some (.string a0_3) := (blk_cell BK108.out 3).trans rfl
                                        have hcz51_4 : wc.cell? ⟨gb108, 4, none⟩ = some (.slice A0_4 l0_4.length c0_4) := (blk_cell BK108.out 4).trans rfl
                                        have hfz51_0 := blk_frozen BK108.out 0
                                        have hfz51_1 := blk_frozen BK108.out 1
                                        have hfz51_2 := blk_frozen BK108.out 2
                                        have hfz51_3 := blk_frozen BK108.out 3
                                        have hfz51_4 := blk_frozen BK108.out 4
                                        have p113 : 0 ≤ (0 : Int) := (by omega)
                                        have q113 : 0 < (l0_4.length : Int) := of_decide_eq_true (by first | (with_reducible assumption) | assumption)
                                        obtain ⟨ad113, A113_4, c113_4, e113, hx113_0, hx113_1, hx113_2, hx113_3, hx113_4, hl113_4, hi113_4⟩ := at_T25 HR0_4.out 0 p113 q113
                                        cases e113
                                        have qi113 : (0 < l0_4.length) = True := eq_true (by omega)
                                        (try rw [show ((0 : Int)).toNat = 0 from rfl] at hx113_0)
                                        (try rw [show 0 * 5 = 0 from rfl] at hx113_0)
                                        (try rw [Addr.add_zero'] at hx113_0)
                                        (try rw [show ((0 : Int)).toNat = 0 from rfl] at hx113_1)
                                        (try rw [show 0 * 5 = 0 from rfl] at hx113_1)
                                        (try rw [Addr.add_zero'] at hx113_1)
                                        (try rw [show ((0 : Int)).toNat = 0 from rfl] at hx113_2)
                                        (try rw [show 0 * 5 = 0 from rfl] at hx113_2)
                                        (try rw [Addr.add_zero'] at hx113_2)
                                        (try rw [show ((0 : Int)).toNat = 0 from rfl] at hx113_3)
                                        (try rw [show 0 * 5 = 0 from rfl] at hx113_3)
                                        (try rw [Addr.add_zero'] at hx113_3)
                                        (try rw [show ((0 : Int)).toNat = 0 from rfl] at hx113_4)
                                        (try rw [show 0 * 5 = 0 from rfl] at hx113_4)
                                        (try rw [Addr.add_zero'] at hx113_4)
                                        replace hx113_0 := (HB.out.cell (World.block_lt_of_cell? w _ hx113_0)).trans hx113_0
                                        replace hx113_1 := (HB.out.cell (World.block_lt_of_cell? w _ hx113_1)).trans hx113_1
                                        replace hx113_2 := (HB.out.cell (World.block_lt_of_cell? w _ hx113_2)).trans hx113_2
                                        replace hx113_3 := (HB.out.cell (World.block_lt_of_cell? w _ hx113_3)).trans hx113_3
                                        replace hx113_4 := (HB.out.cell (World.block_lt_of_cell? w _ hx113_4)).trans hx113_4
                                        have HR113_4 := Aside0.mk hi113_4
                                        have HC113_4 := Aside0.mk hl113_4
                                        clear hi113_4 hl113_4
                                        replace p113 := eq_true p113
                                        replace q113 := eq_true q113
                                        have p114 : 0 ≤ (0 : Int) := (by omega)
                                        have q114 : 0 < (l0_4.length : Int) := of_decide_eq_true (by first | (with_reducible assumption) | assumption)
                                        obtain ⟨ad114, A114_4, c114_4, e114, hx114_0, hx114_1, hx114_2, hx114_3, hx114_4, hl114_4, hi114_4⟩ := at_T25 HR0_4.out 0 p114 q114
                                        obtain rfl : ad113 = ad114 := (by injection e114)
                                        have qi114 : (0 < l0_4.length) = True := eq_true (by omega)
                                        (try rw [show ((0 : Int)).toNat = 0 from rfl] at hx114_0)
                                        (try rw [show 0 * 5 = 0 from rfl] at hx114_0)
                                        (try rw [Addr.add_zero'] at hx114_0)
                                        (try rw [show ((0 : Int)).toNat = 0 from rfl] at hx114_1)
                                        (try rw [show 0 * 5 = 0 from rfl] at hx114_1)
                                        (try rw [Addr.add_zero'] at hx114_1)
                                        (try rw [show ((0 : Int)).toNat = 0 from rfl] at hx114_2)
                                        (try rw [show 0 * 5 = 0 from rfl] at hx114_2)
                                        (try rw [Addr.add_zero'] at hx114_2)
                                        (try rw [show ((0 : Int)).toNat = 0 from rfl] at hx114_3)
                                        (try rw [show 0 * 5 = 0 from rfl] at hx114_3)
                                        (try rw [Addr.add_zero'] at hx114_3)
                                        (try rw [show ((0 : Int)).toNat = 0 from rfl] at hx114_4)
                                        (try rw [show 0 * 5 = 0 from rfl] at hx114_4)
                                        (try rw [Addr.add_zero'] at hx114_4)
                                        replace hx114_0 := (HB.out.cell (World.block_lt_of_cell? w _ hx114_0)).trans hx114_0
                                        replace hx114_1 := (HB.out.cell (World.block_lt_of_cell? w _ hx114_1)).trans hx114_1
                                        replace hx114_2 := (HB.out.cell (World.block_lt_of_cell? w _ hx114_2)).trans hx114_2
                                        replace hx114_3 := (HB.out.cell (World.block_lt_of_cell? w _ hx114_3)).trans hx114_3
                                        replace hx114_4 := (HB.out.cell (World.block_lt_of_cell? w _ hx114_4)).trans hx114_4
                                        have HR114_4 := Aside0.mk hi114_4
                                        have HC114_4 := Aside0.mk hl114_4
                                        clear hi114_4 hl114_4
                                        replace p114 := eq_true p114
                                        replace q114 := eq_true q114
                                        have ea_ := Option.some.inj (hx113_4.symm.trans hx114_4)
                                        injection ea_ with ea_ en_ ec_
                                        subst ea_
                                        subst ec_
                                        clear en_
                                        go_wp2_with (first | (go_at_call 64; (with_reducible refine (value_big.calls ((rd_T25 l0_4 0).f3) false _ A48.out).mono ?_); rintro e w' ⟨rfl, ⟨nd, rfl⟩⟩))
                                        go_ret
                                        exact ⟨by first | rfl | (simp [errW_none, errW_some] <;> rfl) | (simp [*, errW_none, errW_some] <;> rfl), by repeat (first | (with_reducible first | exact HB.out | apply below_alloc | apply pw_below_drewN | apply below_drew1 | refine below_set ?_ GE108.out) | exact HB.out)⟩
                                    · rw [if_neg c47] at H
                                      have c47b0 : (((rd_T25 l0_4 0).f0) == 9) = false := beq_eq_false_iff_ne.mpr c47
                                      have c47b1 : (((rd_T25 l0_4 0).f0) != 9) = true := bne_iff_ne.mpr c47
                                      obtain rfl := Option.some.inj H
                                      have hcz52_0 : wc.cell? ⟨gb108, 0, none⟩ = some (.int .i64 a0_0) := (blk_cell BK108.out 0).trans rfl
                                      have hcz52_1 : wc.cell? ⟨gb108, 1, none⟩ = some (.bool a0_1) := (blk_cell BK108.out 1).trans rfl
                                      have hcz52_2 : wc.cell? ⟨gb108, 2, none⟩ = some (.int .u64 a0_2) := (blk_cell BK108.out 2).trans rfl
                                      have hcz52_3 : wc.cell? ⟨gb108, 3, none⟩ = some (.string a0_3) := (blk_cell BK108.out 3).trans rfl
                                      have hcz52_4 : wc.cell? ⟨gb108, 4, none⟩ = some (.slice A0_4 l0_4.length c0_4) := (blk_cell BK108.out 4).trans rfl
                                      have hfz52_0 := blk_frozen BK108.out 0
                                      have hfz52_1 := blk_frozen BK108.out 1
                                      have hfz52_2 := blk_frozen BK108.out 2
                                      have hfz52_3 := blk_frozen BK108.out 3
                                      have hfz52_4 := blk_frozen BK108.out 4
                                      have p113 : 0 ≤ (0 : Int) := (by omega)
                                      have q113 : 0 < (l0_4.length : Int) := of_decide_eq_true (by first | (with_reducible assumption) | assumption)
                                      obtain ⟨ad113, A113_4, c113_4, e113, hx113_0, hx113_1, hx113_2, hx113_3, hx113_4, hl113_4, hi113_4⟩ := at_T25 HR0_4.out 0 p113 q113
                                      cases e113
                                      have qi113 : (0 < l0_4.length) = True := eq_true (by omega)
                                      (try rw [show ((0 : Int)).toNat = 0 from rfl] at hx113_0)
                                      (try rw [show 0 * 5 = 0 from rfl] at hx113_0)
                                      (try rw [Addr.add_zero'] at hx113_0)
                                      (try rw [show ((0 : Int)).toNat = 0 from rfl] at hx113_1)
                                      (try rw [show 0 * 5 = 0 from rfl] at hx113_1)
                                      (try rw [Addr.add_zero'] at hx113_1)
                                      (try rw [show ((0 : Int)).toNat = 0 from rfl] at hx113_2)
                                      (try rw [show 0 * 5 = 0 from rfl] at hx113_2)
                                      (try rw [Addr.add_zero'] at hx113_2)
                                      (try rw [show ((0 : Int)).toNat = 0 from rfl] at hx113_3)
                                      (try rw [show 0 * 5 = 0 from rfl] at hx113_3)
                                      (try rw [Addr.add_zero'] at hx113_3)
                                      (try rw [show ((0 : Int)).toNat = 0 from rfl] at hx113_4)
                                      (try rw [show 0 * 5 = 0 from rfl] at hx113_4)
                                      (try rw [Addr.add_zero'] at hx113_4)
                                      replace hx113_0 := (HB.out.cell (World.block_lt_of_cell? w _ hx113_0)).trans hx113_0
                                      replace hx113_1 := (HB.out.cell (World.block_lt_of_cell? w _ hx113_1)).trans hx113_1
                                      replace hx113_2 := (HB.out.cell (World.block_lt_of_cell? w _ hx113_2)).trans hx113_2
                                      replace hx113_3 := (HB.out.cell (World.block_lt_of_cell? w _ hx113_3)).trans hx113_3
                                      replace hx113_4 := (HB.out.cell (World.block_lt_of_cell? w _ hx113_4)).trans hx113_4
                                      have HR113_4 := Aside0.mk hi113_4
                                      have HC113_4 := Aside0.mk hl113_4
                                      clear hi113_4 hl113_4
                                      replace p113 := eq_true p113
                                      replace q113 := eq_true q113
                                      go_wp2
                                      go_ret
                                      exact ⟨by first | rfl | (simp [errW_none, errW_some] <;> rfl) | (simp [*, errW_none, errW_some] <;> rfl), by repeat (first | (with_reducible first | exact HB.out | apply below_alloc | apply pw_below_drewN | apply below_drew1 | refine below_set ?_ GE108.out) | exact HB.out)⟩
                                  · rw [if_neg c46] at H
                                    exact absurd H (by simp)
                                · rw [if_neg c45] at H
                                  have c45b0 : ((a0_2 / 2) == 1) = false := beq_eq_false_iff_ne.mpr c45
                                  have c45b1 : ((a0_2 / 2) != 1) = true := bne_iff_ne.mpr c45
                                  obtain rfl := Option.some.inj H
                                  have hcz53_0 : wc.cell? ⟨gb108, 0, none⟩ = some (.int .i64 a0_0) := (blk_cell BK108.out 0).trans rfl
                                  have hcz53_1 : wc.cell? ⟨gb108, 1, none⟩ = some (.bool a0_1) := (blk_cell BK108.out 1).trans rfl
                                  have hcz53_2 : wc.cell? ⟨gb108, 2, none⟩ = some (.int .u64 a0_2) := (blk_cell BK108.out 2).trans rfl
                                  have hcz53_3 : wc.cell? ⟨gb108, 3, none⟩ = some (.string a0_3) := (blk_cell BK108.out 3).trans rfl
                                  have hcz53_4 : wc.cell? ⟨gb108, 4, none⟩ = some (.slice A0_4 l0_4.length c0_4) := (blk_cell BK108.out 4).trans rfl
                                  have hfz53_0 := blk_frozen BK108.out 0
                                  have hfz53_1 := blk_frozen BK108.out 1
                                  have hfz53_2 := blk_frozen BK108.out 2
                                  have hfz53_3 := blk_frozen BK108.out 3
                                  have hfz53_4 := blk_frozen BK108.out 4
                                  go_wp2
                                  go_ret
                                  exact ⟨by first | rfl | (simp [errW_none, errW_some] <;> rfl) | (simp [*, errW_none, errW_some] <;> rfl), by repeat (first | (with_reducible first | exact HB.out | apply below_alloc | apply pw_below_drewN | apply below_drew1 | refine below_set ?_ GE108.out) | exact HB.out)⟩
                              · rw [if_neg c44] at H
                                have c44b0 : ((l0_4.length : Int) == 1) = false := beq_eq_false_iff_ne.mpr c44
                                have c44b1 : ((l0_4.length : Int) != 1) = true := bne_iff_ne.mpr c44
                                obtain rfl := Option.some.inj H
                                have hcz54_0 : wc.cell? ⟨gb108, 0, none⟩ = some (.int .i64 a0_0) := (blk_cell BK108.out 0).trans rfl
                                have hcz54_1 : wc.cell? ⟨gb108, 1, none⟩ = some (.bool a0_1) := (blk_cell BK108.out 1).trans rfl
                                have hcz54_2 : wc.cell? ⟨gb108, 2, none⟩ = some (.int .u64 a0_2) := (blk_cell BK108.out 2).trans rfl
                                have hcz54_3 : wc.cell? ⟨gb108, 3, none⟩ = some (.string a0_3) := (blk_cell BK108.out 3).trans rfl
                                have hcz54_4 : wc.cell? ⟨gb108, 4, none⟩ = some (.slice A0_4 l0_4.length c0_4) := (blk_cell BK108.out 4).trans rfl
                                have hfz54_0 := blk_frozen BK108.out 0
                                have hfz54_1 := blk_frozen BK108.out 1
                                have hfz54_2 := blk_frozen BK108.out 2
                                have hfz54_3 := blk_frozen BK108.out 3
                                have hfz54_4 := blk_frozen BK108.out 4
                                go_wp2
                                go_ret
                                exact ⟨by first | rfl | (simp [errW_none, errW_some] <;> rfl) | (simp [*, errW_none, errW_some] <;> rfl), by repeat (first | (with_reducible first | exact HB.out | apply below_alloc | apply pw_below_drewN | apply below_drew1 | refine below_set ?_ GE108.out) | exact HB.out)⟩
                            · rw [if_neg c43] at H
                              have c43b0 : (a0_0 == 13) = false := beq_eq_false_iff_ne.mpr c43
                              have c43b1 : (a0_0 != 13) = true := bne_iff_ne.mpr c43
                              obtain rfl := Option.some.inj H
                              have hcz55_0 : wc.cell? ⟨gb108, 0, none⟩ = some (.int .i64 a0_0) := (blk_cell BK108.out 0).trans rfl
                              have hcz55_1 : wc.cell? ⟨gb108, 1, none⟩ = some (.bool a0_1) := (blk_cell BK108.out 1).trans rfl
                              have hcz55_2 : wc.cell? ⟨gb108, 2, none⟩ = some (.int .u64 a0_2) := (blk_cell BK108.out 2).trans rfl
                              have hcz55_3 : wc.cell? ⟨gb108, 3, none⟩ = some (.string a0_3) := (blk_cell BK108.out 3).trans rfl
                              have hcz55_4 : wc.cell? ⟨gb108, 4, none⟩ = some (.slice A0_4 l0_4.length c0_4) := (blk_cell BK108.out 4).trans rfl
                              have hfz55_0 := blk_frozen BK108.out 0
                              have hfz55_1 := blk_frozen BK108.out 1
                              have hfz55_2 := blk_frozen BK108.out 2
                              have hfz55_3 := blk_frozen BK108.out 3
                              have hfz55_4 := blk_frozen BK108.out 4
                              go_wp2
                              go_ret
                              exact ⟨by first | rfl | (simp [errW_none, errW_some] <;> rfl) | (simp [*, errW_none, errW_some] <;> rfl), by repeat (first | (with_reducible first | exact HB.out | apply below_alloc | apply pw_below_drewN | apply below_drew1 | refine below_set ?_ GE108.out) | exact HB.out)⟩

end Go.Proofs.YtfmceonbejlhlaaGreatDoor.P

/-
  One: what it computes of a value.
-/
namespace Go.Proofs.YtfmceonbejlhlaaGreatDoor
open Go.RowKit Go.Proofs.YtfmceonbejlhlaaGreatDoorW.PrintWords Go.Proofs.YtfmceonbejlhlaaGreatDoorW.PrintLast Go.Proofs.YtfmceonbejlhlaaGreatDoorW.PrintMore
set_option linter.unusedVariables false

/-- Bytes that could be a great number's. -/
def bigF (s : ByteArray) : Bool := decide (8 < s.size) && (decide (s.size ≤ 512) && (bt s 0 != 0))
theorem big_f (s : ByteArray) : P.value_big.f s = some (bigF s) := by
  unfold P.value_big.f bigF
  by_cases h1 : (s.size : Int) > 8
  · rw [if_pos h1]
    have h1' : 8 < s.size := by omega
    by_cases h2 : (s.size : Int) ≤ 512
    · rw [if_pos h2, if_pos (by omega)]
      have h2' : s.size ≤ 512 := by omega
      simp [h1', h2']
    · rw [if_neg h2]
      have h2' : ¬ s.size ≤ 512 := by omega
      simp [h2']
  · rw [if_neg h1]
    have h1' : ¬ 8 < s.size := by omega
    simp [h1']
/-- How many bits N may have. -/
def bitsF (k : Int) : Int := if k = 1 then 1 else if k = 6 then 16 else if k = 7 then 32 else if k = 4 ∨ k = 8 ∨ k = 13 then 64 else if k = 3 ∨ k = 14 then 8 else 0
theorem bits_f (q : Nat) (k : Int) : P.value_bits.f (q + 1) k = some (bitsF k) := by
  unfold P.value_bits.f bitsF P.value_bits.j0
  repeat' split
  all_goals first | rfl | (simp_all; done) | (exfalso; simp_all; omega)
/-- What is asked of a kind's own parts. -/
def tailF (k n : Int) (s : ByteArray) (l : List T) : Bool :=
  if k = 9 ∨ k = 14 then true
  else if k = 5 then bigF s
  else if k = 3 ∧ 19 < n ∧ n < 32 then false
  else if k = 12 ∧ l.length % 2 ≠ 0 then false
  else if k = 13 ∧ (l.length ≠ 1 ∨ (n / 2 = 1 ∧ (P.rd_T25 l 0).f0 = 9 ∧ bigF (P.rd_T25 l 0).f3 = true)) then false
  else s.toList == []
/-- A value is right, but for those within it. -/
def oneF (k : Int) (neg : Bool) (n : Int) (s : ByteArray) (l : List T) : Bool :=
  if k < 0 ∨ 14 < k ∨ (neg = true ∧ k ≠ 4 ∧ k ≠ 5) then false
  else if bitsF k < 64 ∧ n / 2 ^ (bitsF k).toNat ≠ 0 then false
  else if k = 10 then (chk s).2 == 0
  else tailF k n s l
theorem j2_f (q : Nat) (k : Int) (neg : Bool) (n : Int) (s : ByteArray) (l : List T) (b : Bool) (hb : b = true ↔ k = 9 ∨ k = 14) : P.value_One.j2 (q + 1) k b k neg n s l = some (tailF k n s l) := by
  rw [P.value_One.j2]
  unfold tailF
  by_cases h : b = true
  · rw [if_pos h, if_pos (hb.1 h)]
  rw [if_neg h, if_neg (fun h' => h (hb.2 h'))]
  by_cases h5 : k = 5
  · rw [if_pos h5, if_pos h5, big_f]; rfl
  rw [if_neg h5, if_neg h5]
  by_cases h3 : k = 3
  · subst h3
    rw [if_pos rfl]
    by_cases h19 : n > 19
    · by_cases h32 : n < 32
      · rw [if_pos h19, if_pos h32, if_pos ⟨rfl, h19, h32⟩]
      · rw [if_pos h19, if_neg h32, if_neg (c := (3 : Int) = 3 ∧ _) (fun h => h32 h.2.2), if_neg (c := (3 : Int) = 12 ∧ _) (fun h => by simp at h), if_neg (c := (3 : Int) = 13 ∧ _) (fun h => by simp at h)]
    · rw [if_neg h19, if_neg (c := (3 : Int) = 3 ∧ _) (fun h => h19 h.2.1), if_neg (c := (3 : Int) = 12 ∧ _) (fun h => by simp at h), if_neg (c := (3 : Int) = 13 ∧ _) (fun h => by simp at h)]
  rw [if_neg h3, if_neg (c := k = 3 ∧ _) (fun h => h3 h.1)]
  by_cases h12 : k = 12
  · subst h12
    rw [if_pos rfl]
    by_cases he : ((l.length : Int) % 2) = 0
    · rw [if_pos he, if_neg (c := (12 : Int) = 12 ∧ l.length % 2 ≠ 0) (fun h => h.2 (by omega)), if_neg (c := (12 : Int) = 13 ∧ _) (fun h => by simp at h)]
    · rw [if_neg he, if_pos ⟨rfl, by omega⟩]
  rw [if_neg h12, if_neg (c := k = 12 ∧ _) (fun h => h12 h.1)]
  by_cases h13 : k = 13
  · subst h13
    rw [if_pos rfl]
    by_cases hl : (l.length : Int) = 1
    · rw [if_pos hl]
      by_cases hn : n / 2 = 1
      · rw [if_pos hn, if_pos (by omega)]
        by_cases h9 : (P.rd_T25 l 0).f0 = 9
        · rw [if_pos h9, big_f]
          show (if bigF (P.rd_T25 l 0).f3 = true then some false else _) = _
          by_cases hbg : bigF (P.rd_T25 l 0).f3 = true
          · rw [if_pos hbg, if_pos ⟨rfl, .inr ⟨hn, h9, hbg⟩⟩]
          · rw [if_neg hbg, if_neg (c := (13 : Int) = 13 ∧ _) (fun h => h.2.elim (fun h => h (by omega)) (fun h => hbg h.2.2))]
        · rw [if_neg h9, if_neg (c := (13 : Int) = 13 ∧ _) (fun h => h.2.elim (fun h => h (by omega)) (fun h => h9 h.2.1))]
      · rw [if_neg hn, if_neg (c := (13 : Int) = 13 ∧ _) (fun h => h.2.elim (fun h => h (by omega)) (fun h => hn h.1))]
    · rw [if_neg hl, if_pos ⟨rfl, .inl (by omega)⟩]
  rw [if_neg h13, if_neg (c := k = 13 ∧ _) (fun h => h13 h.1)]
theorem j1_f (q : Nat) (k : Int) (neg : Bool) (n : Int) (s : ByteArray) (l : List T) (b : Bool) (hs : s.size ≤ 9223372036854775807) :
    P.value_One.j1 (q + 2) b k neg n s l = some (if b = true then false else if k = 10 then (chk s).2 == 0 else tailF k n s l) := by
  rw [P.value_One.j1]
  by_cases hb : b = true
  · rw [if_pos hb, if_pos hb]
  rw [if_neg hb, if_neg hb]
  by_cases h10 : k = 10
  · rw [if_pos h10, if_pos h10]
    simp only [P.utf_Check.f, if_pos hs, Option.bind_some]
  rw [if_neg h10, if_neg h10]
  by_cases h9 : k = 9
  · rw [if_pos h9]
    exact j2_f q k neg n s l (k == 9) ⟨fun h => .inl h9, fun _ => by simpa using h9⟩
  · rw [if_neg h9]
    exact j2_f q k neg n s l (k == 14) ⟨fun h => .inr (by simpa using h), fun h => by rcases h with h | h; exact absurd h h9; simpa using h⟩
theorem bitsF_nn (k : Int) : 0 ≤ bitsF k ∧ bitsF k ≤ 64 := by unfold bitsF; repeat' split; all_goals omega
theorem j0_f (q : Nat) (k : Int) (neg : Bool) (n : Int) (s : ByteArray) (l : List T) (b : Bool) (hs : s.size ≤ 9223372036854775807) :
    P.value_One.j0 (q + 3) b k neg n s l = some (if b = true then false else if bitsF k < 64 ∧ n / 2 ^ (bitsF k).toNat ≠ 0 then false else if k = 10 then (chk s).2 == 0 else tailF k n s l) := by
  rw [P.value_One.j0]
  by_cases hb : b = true
  · rw [if_pos hb, if_pos hb]
  rw [if_neg hb, if_neg hb, bits_f]
  have hn := bitsF_nn k
  show (if bitsF k < 64 then _ else _) = _
  by_cases h64 : bitsF k < 64
  · rw [if_pos h64, if_pos hn.1, j1_f q k neg n s l _ hs]
    have e : shr .u64 n (bitsF k) = n / 2 ^ (bitsF k).toNat := by
      unfold shr
      congr 2
      show min (bitsF k).toNat 64 = _
      omega
    rw [e]
    by_cases hz : n / 2 ^ (bitsF k).toNat = 0
    · rw [if_neg (by simp [hz]), if_neg (c := bitsF k < 64 ∧ n / 2 ^ (bitsF k).toNat ≠ 0) (fun h => h.2 hz)]
    · rw [if_pos (by simpa using hz), if_pos ⟨h64, hz⟩]
  · rw [if_neg h64, j1_f q k neg n s l _ hs, if_neg (by simp), if_neg (c := bitsF k < 64 ∧ _) (fun h => h64 h.1)]
theorem one_f (k : Int) (neg : Bool) (n : Int) (s : ByteArray) (l : List T) (hs : s.size ≤ 9223372036854775807) : P.value_One.f 3 k neg n s l = some (oneF k neg n s l) := by
  unfold P.value_One.f oneF
  by_cases h1 : k < 0
  · rw [if_pos h1, if_pos (.inl h1), j0_f 0 k neg n s l true hs, if_pos rfl]
  rw [if_neg h1]
  by_cases h2 : k > 14
  · rw [if_pos h2, if_pos (.inr (.inl h2)), j0_f 0 k neg n s l true hs, if_pos rfl]
  rw [if_neg h2]
  by_cases h3 : neg = true
  · rw [if_pos h3]
    by_cases h4 : k = 4
    · rw [if_pos h4, j0_f 0 k neg n s l false hs, if_neg (by simp), if_neg (c := k < 0 ∨ _) (fun h => by rcases h with h | h | h; exact h1 h; exact h2 h; exact h.2.1 h4)]
    · rw [if_neg h4, j0_f 0 k neg n s l _ hs]
      by_cases h5 : k = 5
      · rw [if_neg (by simp [h5]), if_neg (c := k < 0 ∨ _) (fun h => by rcases h with h | h | h; exact h1 h; exact h2 h; exact h.2.2 h5)]
      · rw [if_pos (by simpa using h5), if_pos (c := k < 0 ∨ _) (.inr (.inr ⟨h3, h4, h5⟩))]
  · rw [if_neg h3, j0_f 0 k neg n s l false hs, if_neg (by simp), if_neg (c := k < 0 ∨ _) (fun h => by rcases h with h | h | h; exact h1 h; exact h2 h; exact h3 h.1)]
theorem one_any (t : T) (a : Option Addr) (c : Nat) (W : World) (P' : Nat → Prop) (hT : Tree W P' t a) (hc : t.f4.length ≤ c) (hs : t.f3.size ≤ 9223372036854775807) :
    Calls Tryz.prog 34 #[.agg (five t a c)] W (Ret (.bool (oneF t.f0 t.f1 t.f2 t.f3 t.f4)) W) :=
  P.value_One.calls 3 t.f0 t.f1 t.f2 t.f3 a c t.f4 _ W (tree_C hT) hc (one_f _ _ _ _ _ hs)
end Go.Proofs.YtfmceonbejlhlaaGreatDoor

/-
  cbor's writer: what an item's bytes are.
-/
namespace Go.Proofs.YtfmceonbejlhlaaGreatDoor
open Go.RowKit Go.Proofs.YtfmceonbejlhlaaGreatDoorW.PrintWords Go.Proofs.YtfmceonbejlhlaaGreatDoorW.PrintLast Go.Proofs.YtfmceonbejlhlaaGreatDoorW.PrintMore
set_option linter.unusedVariables false

mutual
/-- A right tree, as far as its values go. -/
def Rt : T → Prop | ⟨k, neg, n, s, l⟩ => (oneF k neg n s l = true ∧ (leafF k = true → l = [])) ∧ RtL l
def RtL : List T → Prop | [] => True | t :: r => Rt t ∧ RtL r
end
theorem rtL_mem : ∀ {l : List T} {t : T}, RtL l → t ∈ l → Rt t
  | x :: r, t, hw, h => by
    rcases List.mem_cons.1 h with rfl | h
    · exact hw.1
    · exact rtL_mem hw.2 h
/-- The bytes ahead of what stands within a list, a map. -/
def openF (op : Bool) (m : Int) (n : Int) : List Int := if op then [m * 32 + 31] else putF m n
mutual
/-- The bytes of a value. -/
def itemF (op : Bool) : T → List Int
  | ⟨k, neg, n, s, l⟩ =>
    if k = 0 then putF 7 22
    else if k = 1 then putF 7 (n + 20)
    else if k = 2 then putF 7 23
    else if k = 3 then putF 7 n
    else if k = 4 then putF (if neg then 1 else 0) n
    else if k = 5 then putF 6 (2 + if neg then 1 else 0) ++ textF op 2 s
    else if k = 6 then 249 :: numBytes 2 n
    else if k = 7 then 250 :: numBytes 4 n
    else if k = 8 then 251 :: numBytes 8 n
    else if k = 9 then textF op 2 s
    else if k = 10 then textF op 3 s
    else if k = 11 then openF op 4 l.length ++ (itemsF op l ++ if op then [255] else [])
    else if k = 12 then openF op 5 (l.length / 2 : Nat) ++ (itemsF op l ++ if op then [255] else [])
    else if k = 13 then putF 6 n ++ itemsF op l
    else []
def itemsF (op : Bool) : List T → List Int | [] => [] | t :: r => itemF op t ++ itemsF op r
end
theorem numBytes_len (k : Nat) (n : Int) : (numBytes k n).length = k := by
  induction k with
  | zero => rfl
  | succ k ih => simp [numBytes, ih]
theorem textF_len (op : Bool) (m : Int) (m' : Nat) (hm : m = m') (s : ByteArray) : (textF op m' s).length ≤ s.size + 19 := by
  unfold textF
  have h1 := putF_len m' s.size
  have h2 := strB_len s
  rw [List.length_append, List.length_append, List.length_append, h2]
  have h3 : (if op = true then [(m' : Int) * 32 + 31] else putF m' s.size).length ≤ 9 := by
    split
    · simp
    · exact h1
  have h4 : (if op = true ∧ s ≠ ⟨#[]⟩ then putF m' s.size else []).length ≤ 9 := by
    split
    · exact h1
    · simp
  have h5 : (if op = true then [(255 : Int)] else []).length ≤ 1 := by split <;> simp
  omega
theorem openF_len (op : Bool) (m n : Int) : (openF op m n).length ≤ 9 := by
  unfold openF
  split
  · simp
  · exact putF_len m n
theorem itemF_len (op : Bool) : ∀ t : T, (itemF op t).length ≤ 32 * bulk t := by
  intro t
  induction t using T.ind with
  | h k neg n s l ih =>
    have hl : (itemsF op l).length ≤ 32 * bulkL l := by
      clear neg n s
      induction l with
      | nil => simp [itemsF, bulkL]
      | cons t r ih2 =>
        have h1 := ih t (List.mem_cons_self ..)
        have h2 := ih2 fun u hu => ih u (List.mem_cons_of_mem _ hu)
        simp only [itemsF, bulkL, List.length_append]; omega
    have h1 := fun m n => putF_len m n
    have h5 : (if op = true then [(255 : Int)] else []).length ≤ 1 := by split <;> simp
    have h2 := textF_len op 2 2 rfl s
    have h3 := textF_len op 3 3 rfl s
    have h4 := fun m n => openF_len op m n
    rw [itemF]
    simp only [bulk]
    by_cases h20 : k = 0
    · rw [if_pos h20]; have := h1 7 22; omega
    rw [if_neg h20]; clear h20
    by_cases h21 : k = 1
    · rw [if_pos h21]; have := h1 7 (n + 20); omega
    rw [if_neg h21]; clear h21
    by_cases h22 : k = 2
    · rw [if_pos h22]; have := h1 7 23; omega
    rw [if_neg h22]; clear h22
    by_cases h23 : k = 3
    · rw [if_pos h23]; have := h1 7 n; omega
    rw [if_neg h23]; clear h23
    by_cases h24 : k = 4
    · rw [if_pos h24]; have := h1 (if neg = true then 1 else 0) n; omega
    rw [if_neg h24]; clear h24
    by_cases h25 : k = 5
    · rw [if_pos h25]; have := h1 6 (2 + if neg = true then 1 else 0); rw [List.length_append]; omega
    rw [if_neg h25]; clear h25
    by_cases h26 : k = 6
    · rw [if_pos h26]; rw [List.length_cons, numBytes_len]; omega
    rw [if_neg h26]; clear h26
    by_cases h27 : k = 7
    · rw [if_pos h27]; rw [List.length_cons, numBytes_len]; omega
    rw [if_neg h27]; clear h27
    by_cases h28 : k = 8
    · rw [if_pos h28]; rw [List.length_cons, numBytes_len]; omega
    rw [if_neg h28]; clear h28
    by_cases h29 : k = 9
    · rw [if_pos h29]; omega
    rw [if_neg h29]; clear h29
    by_cases h30 : k = 10
    · rw [if_pos h30]; omega
    rw [if_neg h30]; clear h30
    by_cases h31 : k = 11
    · rw [if_pos h31]; have := h4 4 l.length; rw [List.length_append, List.length_append]; omega
    rw [if_neg h31]; clear h31
    by_cases h32 : k = 12
    · rw [if_pos h32]; have := h4 5 (l.length / 2 : Nat); rw [List.length_append, List.length_append]; omega
    rw [if_neg h32]; clear h32
    by_cases h33 : k = 13
    · rw [if_pos h33]; have := h1 6 n; rw [List.length_append]; omega
    rw [if_neg h33]; clear h33
    simp
theorem itemsF_take {op : Bool} {l : List T} {i : Nat} {t : T} (h : l[i]? = some t) : itemsF op (l.take (i + 1)) = itemsF op (l.take i) ++ itemF op t := by
  have snoc : ∀ (r : List T), itemsF op (r ++ [t]) = itemsF op r ++ itemF op t := by
    intro r
    induction r with
    | nil => simp [itemsF]
    | cons a r ih => simp only [List.cons_append, itemsF, ih, List.append_assoc]
  rw [List.take_add_one, h, Option.toList_some, snoc]
theorem itemsF_len (op : Bool) : ∀ l : List T, (itemsF op l).length ≤ 32 * bulkL l
  | [] => by simp [itemsF, bulkL]
  | t :: r => by
    have h1 := itemF_len op t
    have h2 := itemsF_len op r
    simp only [itemsF, bulkL, List.length_append]; omega
end Go.Proofs.YtfmceonbejlhlaaGreatDoor

/-
  cbor's writer: item.
-/
namespace Go.Proofs.YtfmceonbejlhlaaGreatDoor
open Go.RowKit Go.Proofs.YtfmceonbejlhlaaGreatDoorW.PrintWords Go.Proofs.YtfmceonbejlhlaaGreatDoorW.PrintLast Go.Proofs.YtfmceonbejlhlaaGreatDoorW.PrintMore
set_option linter.unusedVariables false

theorem number_any (b : Bool) (w : World) : Calls Tryz.prog 36 #[.bool b] w fun e w' => e = .returned (.int .i64 (if b then 1 else 0)) ∧ w' = w := by
  go_enter Tryz.func36, Tryz.ntmps36
  cases b
  · go_wp2
    go_ret
    exact ⟨rfl, rfl⟩
  · go_wp2
    go_ret
    exact ⟨rfl, rfl⟩
theorem WrIs.alloc {W : World} {base p : Nat} {op : Bool} {xs : List Int} (h : WrIs W base p op xs) (o : Obj) : WrIs (W.alloc o) base p op xs := by
  obtain ⟨v, hv, hrow, hp⟩ := h
  exact ⟨v, hv.alloc o, hrow.alloc o, hp⟩
theorem WrIs.lt {W : World} {base p : Nat} {op : Bool} {xs : List Int} (h : WrIs W base p op xs) : p < W.heap.size := by
  obtain ⟨v, hv, _⟩ := h
  exact hv.lt
theorem WrPost.after {base p : Nat} {op : Bool} {xs : List Int} {w w1 : World} {e : Ending} {w' : World} (hb : Wrote base p w w1) (h : WrPost base p op xs w1 e w') : WrPost base p op xs w e w' := ⟨h.1, h.2.1, hb.trans h.2.2⟩
set_option maxRecDepth 100000 in
set_option maxHeartbeats 4000000 in
theorem item_0 (op : Bool) (neg : Bool) (n : Int) (s : ByteArray) (av : Value) (base p : Nat) (xs : List Int) (w : World) (hbase : base ≤ w.heap.size) (hn0 : 0 ≤ n) (hn1 : n < 18446744073709551616) (hlen : xs.length + s.size + 32 ≤ 140737488340000) (hw : WrIs w base p op xs) :
    Calls Tryz.prog 18 #[.pointer (some ⟨p, 0, none⟩), .agg #[.int .i64 0, .bool neg, .int .u64 n, .string s, av]] w (WrPost base p op (xs ++ putF 7 22) w) := by
  have R := Row5.new w (.int .i64 0) (.bool neg) (.int .u64 n) (.string s) av
  have hB := (Wrote.refl base p w).alloc hbase (.cells #[.int .i64 0, .bool neg, .int .u64 n, .string s, av] 25)
  have hW1 := hw.alloc (.cells #[.int .i64 0, .bool neg, .int .u64 n, .string s, av] 25)
  have hb1 := Nat.le_trans hbase (hB.size)
  have hc0 := R.c0
  have hc1 := R.c1
  have hc2 := R.c2
  have hc3 := R.c3
  go_enter Tryz.func18, Tryz.ntmps18
  go_wp2_with (go_at_call 35; refine (head7_any base p op xs 22 (by omega) (by omega) _ hW1 hb1 (by omega)).mono ?_; rintro e w2 ⟨rfl, hw2, hb2⟩)
  go_end0
  exact ⟨rfl, hw2, hB.trans hb2⟩
set_option maxRecDepth 100000 in
set_option maxHeartbeats 4000000 in
theorem item_2 (op : Bool) (neg : Bool) (n : Int) (s : ByteArray) (av : Value) (base p : Nat) (xs : List Int) (w : World) (hbase : base ≤ w.heap.size) (hn0 : 0 ≤ n) (hn1 : n < 18446744073709551616) (hlen : xs.length + s.size + 32 ≤ 140737488340000) (hw : WrIs w base p op xs) :
    Calls Tryz.prog 18 #[.pointer (some ⟨p, 0, none⟩), .agg #[.int .i64 2, .bool neg, .int .u64 n, .string s, av]] w (WrPost base p op (xs ++ putF 7 23) w) := by
  have R := Row5.new w (.int .i64 2) (.bool neg) (.int .u64 n) (.string s) av
  have hB := (Wrote.refl base p w).alloc hbase (.cells #[.int .i64 2, .bool neg, .int .u64 n, .string s, av] 25)
  have hW1 := hw.alloc (.cells #[.int .i64 2, .bool neg, .int .u64 n, .string s, av] 25)
  have hb1 := Nat.le_trans hbase (hB.size)
  have hc0 := R.c0
  have hc1 := R.c1
  have hc2 := R.c2
  have hc3 := R.c3
  go_enter Tryz.func18, Tryz.ntmps18
  go_wp2_with (go_at_call 35; refine (head7_any base p op xs 23 (by omega) (by omega) _ hW1 hb1 (by omega)).mono ?_; rintro e w2 ⟨rfl, hw2, hb2⟩)
  go_end0
  exact ⟨rfl, hw2, hB.trans hb2⟩
set_option maxRecDepth 100000 in
set_option maxHeartbeats 4000000 in
theorem item_3 (op : Bool) (neg : Bool) (n : Int) (s : ByteArray) (av : Value) (base p : Nat) (xs : List Int) (w : World) (hbase : base ≤ w.heap.size) (hn0 : 0 ≤ n) (hn1 : n < 18446744073709551616) (hlen : xs.length + s.size + 32 ≤ 140737488340000) (hw : WrIs w base p op xs) :
    Calls Tryz.prog 18 #[.pointer (some ⟨p, 0, none⟩), .agg #[.int .i64 3, .bool neg, .int .u64 n, .string s, av]] w (WrPost base p op (xs ++ putF 7 n) w) := by
  have R := Row5.new w (.int .i64 3) (.bool neg) (.int .u64 n) (.string s) av
  have hB := (Wrote.refl base p w).alloc hbase (.cells #[.int .i64 3, .bool neg, .int .u64 n, .string s, av] 25)
  have hW1 := hw.alloc (.cells #[.int .i64 3, .bool neg, .int .u64 n, .string s, av] 25)
  have hb1 := Nat.le_trans hbase (hB.size)
  have hc0 := R.c0
  have hc1 := R.c1
  have hc2 := R.c2
  have hc3 := R.c3
  go_enter Tryz.func18, Tryz.ntmps18
  go_wp2_with (go_at_call 35; refine (head7_any base p op xs n (by omega) (by omega) _ hW1 hb1 (by omega)).mono ?_; rintro e w2 ⟨rfl, hw2, hb2⟩)
  go_end0
  exact ⟨rfl, hw2, hB.trans hb2⟩
set_option maxRecDepth 100000 in
set_option maxHeartbeats 4000000 in
theorem item_9 (op : Bool) (neg : Bool) (n : Int) (s : ByteArray) (av : Value) (base p : Nat) (xs : List Int) (w : World) (hbase : base ≤ w.heap.size) (hn0 : 0 ≤ n) (hn1 : n < 18446744073709551616) (hlen : xs.length + s.size + 32 ≤ 140737488340000) (hw : WrIs w base p op xs) :
    Calls Tryz.prog 18 #[.pointer (some ⟨p, 0, none⟩), .agg #[.int .i64 9, .bool neg, .int .u64 n, .string s, av]] w (WrPost base p op (xs ++ textF op 2 s) w) := by
  have R := Row5.new w (.int .i64 9) (.bool neg) (.int .u64 n) (.string s) av
  have hB := (Wrote.refl base p w).alloc hbase (.cells #[.int .i64 9, .bool neg, .int .u64 n, .string s, av] 25)
  have hW1 := hw.alloc (.cells #[.int .i64 9, .bool neg, .int .u64 n, .string s, av] 25)
  have hb1 := Nat.le_trans hbase (hB.size)
  have hc0 := R.c0
  have hc1 := R.c1
  have hc2 := R.c2
  have hc3 := R.c3
  go_enter Tryz.func18, Tryz.ntmps18
  go_wp2_with (go_at_call 38; refine (text_any base p op xs 2 s (by omega) _ hW1 hb1 (by omega)).mono ?_; rintro e w2 ⟨rfl, hw2, hb2⟩)
  go_end0
  exact ⟨rfl, hw2, hB.trans hb2⟩
set_option maxRecDepth 100000 in
set_option maxHeartbeats 4000000 in
theorem item_10 (op : Bool) (neg : Bool) (n : Int) (s : ByteArray) (av : Value) (base p : Nat) (xs : List Int) (w : World) (hbase : base ≤ w.heap.size) (hn0 : 0 ≤ n) (hn1 : n < 18446744073709551616) (hlen : xs.length + s.size + 32 ≤ 140737488340000) (hw : WrIs w base p op xs) :
    Calls Tryz.prog 18 #[.pointer (some ⟨p, 0, none⟩), .agg #[.int .i64 10, .bool neg, .int .u64 n, .string s, av]] w (WrPost base p op (xs ++ textF op 3 s) w) := by
  have R := Row5.new w (.int .i64 10) (.bool neg) (.int .u64 n) (.string s) av
  have hB := (Wrote.refl base p w).alloc hbase (.cells #[.int .i64 10, .bool neg, .int .u64 n, .string s, av] 25)
  have hW1 := hw.alloc (.cells #[.int .i64 10, .bool neg, .int .u64 n, .string s, av] 25)
  have hb1 := Nat.le_trans hbase (hB.size)
  have hc0 := R.c0
  have hc1 := R.c1
  have hc2 := R.c2
  have hc3 := R.c3
  go_enter Tryz.func18, Tryz.ntmps18
  go_wp2_with (go_at_call 38; refine (text_any base p op xs 3 s (by omega) _ hW1 hb1 (by omega)).mono ?_; rintro e w2 ⟨rfl, hw2, hb2⟩)
  go_end0
  exact ⟨rfl, hw2, hB.trans hb2⟩
set_option maxRecDepth 100000 in
set_option maxHeartbeats 4000000 in
theorem item_6 (op : Bool) (neg : Bool) (n : Int) (s : ByteArray) (av : Value) (base p : Nat) (xs : List Int) (w : World) (hbase : base ≤ w.heap.size) (hn0 : 0 ≤ n) (hn1 : n < 18446744073709551616) (hlen : xs.length + s.size + 32 ≤ 140737488340000) (hw : WrIs w base p op xs) :
    Calls Tryz.prog 18 #[.pointer (some ⟨p, 0, none⟩), .agg #[.int .i64 6, .bool neg, .int .u64 n, .string s, av]] w (WrPost base p op (xs ++ 249 :: numBytes 2 n) w) := by
  have R := Row5.new w (.int .i64 6) (.bool neg) (.int .u64 n) (.string s) av
  have hB := (Wrote.refl base p w).alloc hbase (.cells #[.int .i64 6, .bool neg, .int .u64 n, .string s, av] 25)
  have hW1 := hw.alloc (.cells #[.int .i64 6, .bool neg, .int .u64 n, .string s, av] 25)
  have hb1 := Nat.le_trans hbase (hB.size)
  have hc0 := R.c0
  have hc1 := R.c1
  have hc2 := R.c2
  have hc3 := R.c3
  go_enter Tryz.func18, Tryz.ntmps18
  go_wp2_with (go_at_call 37; refine (bits25 base p op xs n (by omega) (by omega) _ hW1 hb1 (by omega)).mono ?_; rintro e w2 ⟨rfl, hw2, hb2⟩)
  go_end0
  exact ⟨rfl, hw2, hB.trans hb2⟩
set_option maxRecDepth 100000 in
set_option maxHeartbeats 4000000 in
theorem item_7 (op : Bool) (neg : Bool) (n : Int) (s : ByteArray) (av : Value) (base p : Nat) (xs : List Int) (w : World) (hbase : base ≤ w.heap.size) (hn0 : 0 ≤ n) (hn1 : n < 18446744073709551616) (hlen : xs.length + s.size + 32 ≤ 140737488340000) (hw : WrIs w base p op xs) :
    Calls Tryz.prog 18 #[.pointer (some ⟨p, 0, none⟩), .agg #[.int .i64 7, .bool neg, .int .u64 n, .string s, av]] w (WrPost base p op (xs ++ 250 :: numBytes 4 n) w) := by
  have R := Row5.new w (.int .i64 7) (.bool neg) (.int .u64 n) (.string s) av
  have hB := (Wrote.refl base p w).alloc hbase (.cells #[.int .i64 7, .bool neg, .int .u64 n, .string s, av] 25)
  have hW1 := hw.alloc (.cells #[.int .i64 7, .bool neg, .int .u64 n, .string s, av] 25)
  have hb1 := Nat.le_trans hbase (hB.size)
  have hc0 := R.c0
  have hc1 := R.c1
  have hc2 := R.c2
  have hc3 := R.c3
  go_enter Tryz.func18, Tryz.ntmps18
  go_wp2_with (go_at_call 37; refine (bits26 base p op xs n (by omega) (by omega) _ hW1 hb1 (by omega)).mono ?_; rintro e w2 ⟨rfl, hw2, hb2⟩)
  go_end0
  exact ⟨rfl, hw2, hB.trans hb2⟩
set_option maxRecDepth 100000 in
set_option maxHeartbeats 4000000 in
theorem item_8 (op : Bool) (neg : Bool) (n : Int) (s : ByteArray) (av : Value) (base p : Nat) (xs : List Int) (w : World) (hbase : base ≤ w.heap.size) (hn0 : 0 ≤ n) (hn1 : n < 18446744073709551616) (hlen : xs.length + s.size + 32 ≤ 140737488340000) (hw : WrIs w base p op xs) :
    Calls Tryz.prog 18 #[.pointer (some ⟨p, 0, none⟩), .agg #[.int .i64 8, .bool neg, .int .u64 n, .string s, av]] w (WrPost base p op (xs ++ 251 :: numBytes 8 n) w) := by
  have R := Row5.new w (.int .i64 8) (.bool neg) (.int .u64 n) (.string s) av
  have hB := (Wrote.refl base p w).alloc hbase (.cells #[.int .i64 8, .bool neg, .int .u64 n, .string s, av] 25)
  have hW1 := hw.alloc (.cells #[.int .i64 8, .bool neg, .int .u64 n, .string s, av] 25)
  have hb1 := Nat.le_trans hbase (hB.size)
  have hc0 := R.c0
  have hc1 := R.c1
  have hc2 := R.c2
  have hc3 := R.c3
  go_enter Tryz.func18, Tryz.ntmps18
  go_wp2_with (go_at_call 37; refine (bits27 base p op xs n (by omega) (by omega) _ hW1 hb1 (by omega)).mono ?_; rintro e w2 ⟨rfl, hw2, hb2⟩)
  go_end0
  exact ⟨rfl, hw2, hB.trans hb2⟩
set_option maxRecDepth 100000 in
set_option maxHeartbeats 4000000 in
theorem item_14 (op : Bool) (neg : Bool) (n : Int) (s : ByteArray) (av : Value) (base p : Nat) (xs : List Int) (w : World) (hbase : base ≤ w.heap.size) (hn0 : 0 ≤ n) (hn1 : n < 18446744073709551616) (hlen : xs.length + s.size + 32 ≤ 140737488340000) (hw : WrIs w base p op xs) :
    Calls Tryz.prog 18 #[.pointer (some ⟨p, 0, none⟩), .agg #[.int .i64 14, .bool neg, .int .u64 n, .string s, av]] w (WrPost base p op (xs ++ []) w) := by
  have R := Row5.new w (.int .i64 14) (.bool neg) (.int .u64 n) (.string s) av
  have hB := (Wrote.refl base p w).alloc hbase (.cells #[.int .i64 14, .bool neg, .int .u64 n, .string s, av] 25)
  have hW1 := hw.alloc (.cells #[.int .i64 14, .bool neg, .int .u64 n, .string s, av] 25)
  have hb1 := Nat.le_trans hbase (hB.size)
  have hc0 := R.c0
  have hc1 := R.c1
  have hc2 := R.c2
  have hc3 := R.c3
  go_enter Tryz.func18, Tryz.ntmps18
  go_wp2
  go_end0
  rw [List.append_nil]
  exact ⟨rfl, hW1, hB⟩
end Go.Proofs.YtfmceonbejlhlaaGreatDoor

/-
  cbor's writer: item (booleans, whole numbers, great numbers).
-/
namespace Go.Proofs.YtfmceonbejlhlaaGreatDoor
open Go.RowKit Go.Proofs.YtfmceonbejlhlaaGreatDoorW.PrintWords Go.Proofs.YtfmceonbejlhlaaGreatDoorW.PrintLast Go.Proofs.YtfmceonbejlhlaaGreatDoorW.PrintMore
set_option linter.unusedVariables false

theorem WrIs.below {W W1 : World} {base p : Nat} {op : Bool} {xs : List Int} (h : WrIs W base p op xs) (hb : Below W.heap.size W W1) : WrIs W1 base p op xs := by
  obtain ⟨v, hv, hrow, hp⟩ := h
  exact ⟨v, hv.below hb, own_move hrow (fun k hk => hb.block k (own_lt hrow k hk)), hp⟩
set_option maxRecDepth 100000 in
set_option maxHeartbeats 4000000 in
theorem item_1 (op : Bool) (neg : Bool) (n : Int) (s : ByteArray) (av : Value) (base p : Nat) (xs : List Int) (w : World) (hbase : base ≤ w.heap.size) (hn2 : n ≤ 1) (hn0 : 0 ≤ n) (hn1 : n < 18446744073709551616) (hlen : xs.length + s.size + 32 ≤ 140737488340000) (hw : WrIs w base p op xs) :
    Calls Tryz.prog 18 #[.pointer (some ⟨p, 0, none⟩), .agg #[.int .i64 1, .bool neg, .int .u64 n, .string s, av]] w (WrPost base p op (xs ++ putF 7 (n + 20)) w) := by
  have R := Row5.new w (.int .i64 1) (.bool neg) (.int .u64 n) (.string s) av
  have hB := (Wrote.refl base p w).alloc hbase (.cells #[.int .i64 1, .bool neg, .int .u64 n, .string s, av] 25)
  have hW1 := hw.alloc (.cells #[.int .i64 1, .bool neg, .int .u64 n, .string s, av] 25)
  have hb1 := Nat.le_trans hbase (hB.size)
  have hc0 := R.c0
  have hc1 := R.c1
  have hc2 := R.c2
  have hc3 := R.c3
  go_enter Tryz.func18, Tryz.ntmps18
  have hB2 := (Wrote.refl base p w).alloc hbase (.cells #[.int .i64 1, .bool neg, .int .u64 (n + 20), .string s, av] 25)
  have hW2 := hw.alloc (.cells #[.int .i64 1, .bool neg, .int .u64 (n + 20), .string s, av] 25)
  have hb2 := Nat.le_trans hbase (hB2.size)
  have hc4 := (Row5.new w (.int .i64 1) (.bool neg) (.int .u64 (n + 20)) (.string s) av).c2
  have hf := R.fz 2
  go_wp2_with (go_at_call 35; refine (head7_any base p op xs (n + 20) (by omega) (by omega) _ hW2 hb2 (by omega)).mono ?_; rintro e w2 ⟨rfl, hw2, hb2⟩)
  go_end0
  exact ⟨rfl, hw2, hB2.trans hb2⟩
set_option maxRecDepth 100000 in
set_option maxHeartbeats 4000000 in
theorem item_4 (op : Bool) (neg : Bool) (n : Int) (s : ByteArray) (av : Value) (base p : Nat) (xs : List Int) (w : World) (hbase : base ≤ w.heap.size) (hn0 : 0 ≤ n) (hn1 : n < 18446744073709551616) (hlen : xs.length + s.size + 32 ≤ 140737488340000) (hw : WrIs w base p op xs) :
    Calls Tryz.prog 18 #[.pointer (some ⟨p, 0, none⟩), .agg #[.int .i64 4, .bool neg, .int .u64 n, .string s, av]] w (WrPost base p op (xs ++ putF (if neg then 1 else 0) n) w) := by
  have R := Row5.new w (.int .i64 4) (.bool neg) (.int .u64 n) (.string s) av
  have hB := (Wrote.refl base p w).alloc hbase (.cells #[.int .i64 4, .bool neg, .int .u64 n, .string s, av] 25)
  have hW1 := hw.alloc (.cells #[.int .i64 4, .bool neg, .int .u64 n, .string s, av] 25)
  have hb1 := Nat.le_trans hbase (hB.size)
  have hc0 := R.c0
  have hc1 := R.c1
  have hc2 := R.c2
  have hc3 := R.c3
  go_enter Tryz.func18, Tryz.ntmps18
  obtain ⟨m, hm, hm1⟩ : ∃ m : Nat, (if neg then (1 : Int) else 0) = (m : Int) ∧ m ≤ 1 := by cases neg; exact ⟨0, rfl, by omega⟩; exact ⟨1, rfl, by omega⟩
  obtain ⟨W1, hW⟩ : ∃ W1, w.alloc (.cells #[.int .i64 4, .bool neg, .int .u64 n, .string s, av] 25) = W1 := ⟨_, rfl⟩
  have hN := number_any neg W1.drew
  rw [hm] at hN ⊢
  have HN := Lib.hid hN
  rw [hW] at R hB hW1 hb1 hc0 hc1 hc2 hc3
  clear hN hm
  go_wp2_with fail
  clear hW
  go_still_tail 6, (by kernel_rfl)
  repeat still_step
  still_call HN.out
  repeat still_step
  refine wpStill_nil ?_
  change wpList _ _ _ _ _ W1.drew
  have hW2 := (show WrIs W1.drew base p op xs from hW1)
  have hB2 := hB.drew
  generalize W1.drew = W2 at hW2 hB2 ⊢
  go_wp2_with (go_at_call 35; refine (head_any base p op xs m n (by omega) (by omega) (by omega) _ hW2 (Nat.le_trans hbase hB2.size) (by omega)).mono ?_; rintro e w2 ⟨rfl, hw2, hb2⟩)
  go_end0
  exact ⟨rfl, hw2, hB2.trans hb2⟩
set_option maxRecDepth 100000 in
set_option maxHeartbeats 4000000 in
theorem item_5 (op : Bool) (neg : Bool) (n : Int) (s : ByteArray) (av : Value) (base p : Nat) (xs : List Int) (w : World) (hbase : base ≤ w.heap.size) (hn0 : 0 ≤ n) (hn1 : n < 18446744073709551616) (hlen : xs.length + s.size + 32 ≤ 140737488340000) (hw : WrIs w base p op xs) :
    Calls Tryz.prog 18 #[.pointer (some ⟨p, 0, none⟩), .agg #[.int .i64 5, .bool neg, .int .u64 n, .string s, av]] w (WrPost base p op (xs ++ putF 6 (2 + if neg then 1 else 0) ++ textF op 2 s) w) := by
  have R := Row5.new w (.int .i64 5) (.bool neg) (.int .u64 n) (.string s) av
  have hB := (Wrote.refl base p w).alloc hbase (.cells #[.int .i64 5, .bool neg, .int .u64 n, .string s, av] 25)
  have hW1 := hw.alloc (.cells #[.int .i64 5, .bool neg, .int .u64 n, .string s, av] 25)
  have hb1 := Nat.le_trans hbase (hB.size)
  have hc0 := R.c0
  have hc1 := R.c1
  have hc2 := R.c2
  have hc3 := R.c3
  go_enter Tryz.func18, Tryz.ntmps18
  obtain ⟨m, hm, hm1⟩ : ∃ m : Nat, (if neg then (1 : Int) else 0) = (m : Int) ∧ m ≤ 1 := by cases neg; exact ⟨0, rfl, by omega⟩; exact ⟨1, rfl, by omega⟩
  have hN := fun W => number_any neg W
  rw [hm] at hN ⊢
  clear hm
  have hpl := putF_len 6 (2 + (m : Int))
  go_wp2_with (first
    | (go_at_call 36; refine (hN _).mono ?_; rintro e w2 ⟨rfl, rfl⟩)
    | (go_at_call 35; refine (head_any base p op xs 6 (2 + (m : Int)) (by omega) (by omega) (by omega) _ hW1 hb1 (by omega)).mono ?_; rintro e w2 ⟨rfl, hw2, hb2⟩; have R2 : Row5 w2 w.heap.size (.int .i64 5) (.bool neg) (.int .u64 n) (.string s) av := hb2.cell R (by decide) (by have := hw.lt; omega); have hk3 := R2.c3)
    | (go_at_call 38; refine (text_any base p op (xs ++ putF 6 (2 + (m : Int))) 2 s (by omega) _ hw2 (Nat.le_trans hb1 hb2.size) (by rw [List.length_append]; omega)).mono ?_; rintro e w3 ⟨rfl, hw3, hb3⟩))
  go_end0
  exact ⟨rfl, hw3, (hB.trans hb2).trans hb3⟩
end Go.Proofs.YtfmceonbejlhlaaGreatDoor

/-
  cbor's writer: item (tags, lists, maps; any value).
-/
namespace Go.Proofs.YtfmceonbejlhlaaGreatDoor
open Go.RowKit Go.Proofs.YtfmceonbejlhlaaGreatDoorW.PrintWords Go.Proofs.YtfmceonbejlhlaaGreatDoorW.PrintLast Go.Proofs.YtfmceonbejlhlaaGreatDoorW.PrintMore
set_option linter.unusedVariables false

/-- A value reads as a tree that no writer turns, and item writes it. -/
def Writes (op : Bool) (base p : Nat) (w : World) (x : T) (xa : Option Addr) (xc : Nat) : Prop :=
  ∀ (xs : List Int) (w' : World), Below base w w' → base ≤ w'.heap.size → xs.length + 32 * bulk x + 64 ≤ 140737488330000 → WrIs w' base p op xs →
    Calls Tryz.prog 18 #[.pointer (some ⟨p, 0, none⟩), .agg #[.int .i64 x.f0, .bool x.f1, .int .u64 x.f2, .string x.f3, .slice xa x.f4.length xc]] w' (WrPost base p op (xs ++ itemF op x) w')
set_option maxRecDepth 100000 in
set_option maxHeartbeats 4000000 in
theorem item_13 (op : Bool) (neg : Bool) (n : Int) (s : ByteArray) (x : T) (xa : Option Addr) (xc c g off : Nat) (base p : Nat) (xs : List Int) (w : World) (hbase : base ≤ w.heap.size) (hn0 : 0 ≤ n) (hn1 : n < 18446744073709551616) (hlen : xs.length + 32 * bulk x + 96 ≤ 140737488330000) (hw : WrIs w base p op xs)
    (hg : g < base) (hc : 1 ≤ c) (e0 : w.cell? ⟨g, off, none⟩ = some (.int .i64 x.f0)) (e1 : w.cell? ⟨g, off + 1, none⟩ = some (.bool x.f1)) (e2 : w.cell? ⟨g, off + 2, none⟩ = some (.int .u64 x.f2)) (e3 : w.cell? ⟨g, off + 3, none⟩ = some (.string x.f3)) (e4 : w.cell? ⟨g, off + 4, none⟩ = some (.slice xa x.f4.length xc))
    (ih : Writes op base p w x xa xc) :
    Calls Tryz.prog 18 #[.pointer (some ⟨p, 0, none⟩), .agg #[.int .i64 13, .bool neg, .int .u64 n, .string s, .slice (some ⟨g, off, none⟩) 1 c]] w (WrPost base p op (xs ++ (putF 6 n ++ itemF op x)) w) := by
  have R := Row5.new w (.int .i64 13) (.bool neg) (.int .u64 n) (.string s) (.slice (some ⟨g, off, none⟩) 1 c)
  have hB := (Wrote.refl base p w).alloc hbase (.cells #[.int .i64 13, .bool neg, .int .u64 n, .string s, .slice (some ⟨g, off, none⟩) 1 c] 25)
  have hW1 := hw.alloc (.cells #[.int .i64 13, .bool neg, .int .u64 n, .string s, .slice (some ⟨g, off, none⟩) 1 c] 25)
  have hb1 := Nat.le_trans hbase (hB.size)
  have hc0 := R.c0
  have hc2 := R.c2
  have hpl := putF_len 6 n
  have hR2 : ∀ w2, Wrote base p (w.alloc (.cells #[.int .i64 13, .bool neg, .int .u64 n, .string s, .slice (some ⟨g, off, none⟩) 1 c] 25)) w2 → w2.cell? ⟨w.heap.size, 4, none⟩ = some (.slice (some ⟨g, off, none⟩) 1 c) := fun w2 h => Row5.c4 (h.cell R (by decide) (by have := hw.lt; omega))
  go_enter Tryz.func18, Tryz.ntmps18
  go_wp2_with (first
    | (go_at_call 35; refine (head_any base p op xs 6 n (by omega) (by omega) (by omega) _ hW1 hb1 (by omega)).mono ?_; rintro e w2 ⟨rfl, hw2, hb2⟩; have hB2 := hB.trans hb2; have k4 := hR2 _ hb2; have k0 := (hB2.1.cell (p := ⟨g, off, none⟩) hg).trans e0; have k1 := (hB2.1.cell (p := ⟨g, off + 1, none⟩) hg).trans e1; have k2 := (hB2.1.cell (p := ⟨g, off + 2, none⟩) hg).trans e2; have k3 := (hB2.1.cell (p := ⟨g, off + 3, none⟩) hg).trans e3; have k5 := (hB2.1.cell (p := ⟨g, off + 4, none⟩) hg).trans e4; clear hc0 hc2 R hR2)
    | (go_at_call 18; refine (ih (xs ++ putF 6 n) w2 hB2.1 (Nat.le_trans hb1 hb2.size) (by rw [List.length_append]; omega) hw2).mono ?_; rintro e w3 ⟨rfl, hw3, hb3⟩))
  go_end0
  exact ⟨rfl, by have := hw3; rw [List.append_assoc] at this; exact this, hB2.trans hb3⟩
theorem bulkL_take : ∀ {l : List T} {i : Nat} {t : T}, l[i]? = some t → bulkL (l.take i) + bulk t ≤ bulkL l
  | x :: r, 0, t, h => by
    simp only [List.getElem?_cons_zero, Option.some.injEq] at h
    subst h
    simp [bulkL]
  | x :: r, i + 1, t, h => by
    have := bulkL_take (l := r) (i := i) (t := t) (by simpa using h)
    simp only [List.take_succ_cons, bulkL]; omega
set_option maxRecDepth 100000 in
set_option maxHeartbeats 4000000 in
theorem item_11 (op : Bool) (neg : Bool) (n : Int) (s : ByteArray) (l : List T) (a : Option Addr) (c : Nat) (base p : Nat) (P : Nat → Prop) (xs : List Int) (w : World) (hbase : base ≤ w.heap.size) (hlen : xs.length + 32 * bulkL l + 96 ≤ 140737488330000) (hw : WrIs w base p op xs)
    (hP : ∀ g, P g → g < base) (hT : l = [] ∨ ∃ g off, a = some ⟨g, off, none⟩ ∧ P g ∧ TreeL w P l g off)
    (ih : ∀ x ∈ l, ∀ xa xc, Tree w P x xa → x.f4.length ≤ xc → Writes op base p w x xa xc) :
    Calls Tryz.prog 18 #[.pointer (some ⟨p, 0, none⟩), .agg #[.int .i64 11, .bool neg, .int .u64 n, .string s, .slice a l.length c]] w (WrPost base p op (xs ++ (openF op 4 l.length ++ (itemsF op l ++ if op then [255] else []))) w) := by
  have R := Row5.new w (.int .i64 11) (.bool neg) (.int .u64 n) (.string s) (.slice a l.length c)
  have hB := (Wrote.refl base p w).alloc hbase (.cells #[.int .i64 11, .bool neg, .int .u64 n, .string s, .slice a l.length c] 25)
  have hW1 := hw.alloc (.cells #[.int .i64 11, .bool neg, .int .u64 n, .string s, .slice a l.length c] 25)
  have hb1 := Nat.le_trans hbase (hB.size)
  have hc0 := R.c0
  have hc4 := R.c4
  have hlb := bulkL_len l
  have hob := openF_len op 4 l.length
  obtain ⟨ys, hys⟩ : ∃ ys, xs ++ openF op 4 l.length = ys := ⟨_, rfl⟩
  have hyl : ys.length ≤ xs.length + 9 := by rw [← hys, List.length_append]; omega
  have hbg := begin_any base p op xs 4 l.length (by omega) (by omega) _ hW1 hb1 (by omega)
  rw [show (((4 : Nat) : Int)) = 4 from rfl] at hbg
  change Calls _ _ _ _ (WrPost base p op (xs ++ openF op 4 l.length) _) at hbg
  rw [hys] at hbg
  rw [← List.append_assoc, hys]
  obtain ⟨tl, htl⟩ : ∃ tl : List Int, (if op = true then [255] else []) = tl := ⟨_, rfl⟩
  have hend := fun zs W h1 h2 h3 => end_any base p op zs W h1 h2 h3
  rw [htl] at hend ⊢
  have HE := Lib.hid hend
  clear hend htl
  have HY := Lib.hid hys
  have HT := Lib.hid hT
  clear hys hob hT
  have hR2 : ∀ w2, Wrote base p (w.alloc (.cells #[.int .i64 11, .bool neg, .int .u64 n, .string s, .slice a l.length c] 25)) w2 → w2.cell? ⟨w.heap.size, 4, none⟩ = some (.slice a l.length c) := fun w2 h => Row5.c4 (h.cell R (by decide) (by have := hw.lt; omega))
  go_enter Tryz.func18, Tryz.ntmps18
  go_wp2_with (go_at_call 39; refine hbg.mono ?_; rintro e w2 ⟨rfl, hw2, hb2⟩; have hB2 := hB.trans hb2; have k4 := hR2 _ hb2)
  clear hbg hW1 R hc0 hc4 hB hR2
  have hb22 := Nat.le_trans hbase hB2.size
  go_loopw [102] (fun i wr => ∃ k : Nat, k ≤ l.length ∧ i = .int .i64 k ∧ WrIs wr base p op (ys ++ itemsF op (l.take k)) ∧ Wrote base p w wr) (fun i _ => l.length - (intOf i).toNat)
  case atStart => exact ⟨0, by omega, rfl, by simpa [itemsF] using hw2, hB2⟩
  case round =>
    obtain ⟨j, hj, rfl, hwj, hBj⟩ := hrel
    have hbj := Nat.le_trans hbase hBj.size
    have hlj := itemsF_len op (l.take j)
    by_cases hlt : j < l.length
    · rcases HT.out with rfl | ⟨g, off, rfl, hg, hTL⟩
      · simp at hlt
      obtain ⟨x, xa, xc, hx, e0, e1, e2, e3, e4, hxc, hxT⟩ := treeL_cells hTL hlt
      have hgb := hP g hg
      have K0 := (hBj.1.cell (p := ⟨g, off + j * 5, none⟩) hgb).trans e0
      have K1 := (hBj.1.cell (p := ⟨g, off + j * 5 + 1, none⟩) hgb).trans e1
      have K2 := (hBj.1.cell (p := ⟨g, off + j * 5 + 2, none⟩) hgb).trans e2
      have K3 := (hBj.1.cell (p := ⟨g, off + j * 5 + 3, none⟩) hgb).trans e3
      have K4 := (hBj.1.cell (p := ⟨g, off + j * 5 + 4, none⟩) hgb).trans e4
      have hbk : bulkL (l.take j) + bulk x ≤ bulkL l := bulkL_take hx
      have hC : ∀ o, Calls Tryz.prog 18 #[.pointer (some ⟨p, 0, none⟩), .agg #[.int .i64 x.f0, .bool x.f1, .int .u64 x.f2, .string x.f3, .slice xa x.f4.length xc]] (wr.alloc o) (WrPost base p op (ys ++ itemsF op (l.take j) ++ itemF op x) (wr.alloc o)) := fun o =>
        ih x (List.mem_of_getElem? hx) xa xc hxT hxc _ _ (hBj.alloc hbj o).1 (by simp; omega) (by rw [List.length_append]; omega) (hwj.alloc o)
      have HX := Lib.hid (itemsF_take (op := op) hx)
      clear e0 e1 e2 e3 e4 hTL hxT ih hx
      go_wp2_with (go_at_call 18; refine (hC _).mono ?_; rintro e w3 ⟨rfl, hw3, hb3⟩)
      go_roundw
      case rel => exact ⟨j + 1, by omega, by go_num, by rw [HX.out, ← List.append_assoc]; exact hw3, (hBj.alloc hbj _).trans hb3⟩
      case measure => simp [intOf]; omega
    · obtain rfl : j = l.length := by omega
      rw [List.take_length] at hwj hlj
      clear ih HT
      go_wp2_with (go_at_call 40; refine (HE.out _ _ hwj hbj (by rw [List.length_append]; omega)).mono ?_; rintro e w3 ⟨rfl, hw3, hb3⟩)
      go_end0
      exact ⟨rfl, by have := hw3; rw [List.append_assoc] at this; exact this, hBj.trans hb3⟩
set_option maxRecDepth 100000 in
set_option maxHeartbeats 4000000 in
theorem item_12 (op : Bool) (neg : Bool) (n : Int) (s : ByteArray) (l : List T) (a : Option Addr) (c : Nat) (base p : Nat) (P : Nat → Prop) (xs : List Int) (w : World) (hbase : base ≤ w.heap.size) (hlen : xs.length + 32 * bulkL l + 96 ≤ 140737488330000) (hw : WrIs w base p op xs)
    (hP : ∀ g, P g → g < base) (hT : l = [] ∨ ∃ g off, a = some ⟨g, off, none⟩ ∧ P g ∧ TreeL w P l g off)
    (ih : ∀ x ∈ l, ∀ xa xc, Tree w P x xa → x.f4.length ≤ xc → Writes op base p w x xa xc) :
    Calls Tryz.prog 18 #[.pointer (some ⟨p, 0, none⟩), .agg #[.int .i64 12, .bool neg, .int .u64 n, .string s, .slice a l.length c]] w (WrPost base p op (xs ++ (openF op 5 (l.length / 2 : Nat) ++ (itemsF op l ++ if op then [255] else []))) w) := by
  have R := Row5.new w (.int .i64 12) (.bool neg) (.int .u64 n) (.string s) (.slice a l.length c)
  have hB := (Wrote.refl base p w).alloc hbase (.cells #[.int .i64 12, .bool neg, .int .u64 n, .string s, .slice a l.length c] 25)
  have hW1 := hw.alloc (.cells #[.int .i64 12, .bool neg, .int .u64 n, .string s, .slice a l.length c] 25)
  have hb1 := Nat.le_trans hbase (hB.size)
  have hc0 := R.c0
  have hc4 := R.c4
  have hlb := bulkL_len l
  have hob := openF_len op 5 (l.length / 2 : Nat)
  obtain ⟨ys, hys⟩ : ∃ ys, xs ++ openF op 5 (l.length / 2 : Nat) = ys := ⟨_, rfl⟩
  have hyl : ys.length ≤ xs.length + 9 := by rw [← hys, List.length_append]; omega
  have hbg := begin_any base p op xs 5 (l.length / 2) (by omega) (by omega) _ hW1 hb1 (by omega)
  rw [show (((5 : Nat) : Int)) = 5 from rfl] at hbg
  change Calls _ _ _ _ (WrPost base p op (xs ++ openF op 5 (l.length / 2 : Nat)) _) at hbg
  rw [hys] at hbg
  rw [← List.append_assoc, hys]
  obtain ⟨tl, htl⟩ : ∃ tl : List Int, (if op = true then [255] else []) = tl := ⟨_, rfl⟩
  have hend := fun zs W h1 h2 h3 => end_any base p op zs W h1 h2 h3
  rw [htl] at hend ⊢
  have HE := Lib.hid hend
  clear hend htl
  have HY := Lib.hid hys
  have HT := Lib.hid hT
  clear hys hob hT
  have hR2 : ∀ w2, Wrote base p (w.alloc (.cells #[.int .i64 12, .bool neg, .int .u64 n, .string s, .slice a l.length c] 25)) w2 → w2.cell? ⟨w.heap.size, 4, none⟩ = some (.slice a l.length c) := fun w2 h => Row5.c4 (h.cell R (by decide) (by have := hw.lt; omega))
  rw [Int.natCast_ediv] at hbg
  go_enter Tryz.func18, Tryz.ntmps18
  go_wp2_with (go_at_call 39; refine hbg.mono ?_; rintro e w2 ⟨rfl, hw2, hb2⟩; have hB2 := hB.trans hb2; have k4 := hR2 _ hb2)
  clear hbg hW1 R hc0 hc4 hB hR2
  have hb22 := Nat.le_trans hbase hB2.size
  go_loopw [102] (fun i wr => ∃ k : Nat, k ≤ l.length ∧ i = .int .i64 k ∧ WrIs wr base p op (ys ++ itemsF op (l.take k)) ∧ Wrote base p w wr) (fun i _ => l.length - (intOf i).toNat)
  case atStart => exact ⟨0, by omega, rfl, by simpa [itemsF] using hw2, hB2⟩
  case round =>
    obtain ⟨j, hj, rfl, hwj, hBj⟩ := hrel
    have hbj := Nat.le_trans hbase hBj.size
    have hlj := itemsF_len op (l.take j)
    by_cases hlt : j < l.length
    · rcases HT.out with rfl | ⟨g, off, rfl, hg, hTL⟩
      · simp at hlt
      obtain ⟨x, xa, xc, hx, e0, e1, e2, e3, e4, hxc, hxT⟩ := treeL_cells hTL hlt
      have hgb := hP g hg
      have K0 := (hBj.1.cell (p := ⟨g, off + j * 5, none⟩) hgb).trans e0
      have K1 := (hBj.1.cell (p := ⟨g, off + j * 5 + 1, none⟩) hgb).trans e1
      have K2 := (hBj.1.cell (p := ⟨g, off + j * 5 + 2, none⟩) hgb).trans e2
      have K3 := (hBj.1.cell (p := ⟨g, off + j * 5 + 3, none⟩) hgb).trans e3
      have K4 := (hBj.1.cell (p := ⟨g, off + j * 5 + 4, none⟩) hgb).trans e4
      have hbk : bulkL (l.take j) + bulk x ≤ bulkL l := bulkL_take hx
      have hC : ∀ o, Calls Tryz.prog 18 #[.pointer (some ⟨p, 0, none⟩), .agg #[.int .i64 x.f0, .bool x.f1, .int .u64 x.f2, .string x.f3, .slice xa x.f4.length xc]] (wr.alloc o) (WrPost base p op (ys ++ itemsF op (l.take j) ++ itemF op x) (wr.alloc o)) := fun o =>
        ih x (List.mem_of_getElem? hx) xa xc hxT hxc _ _ (hBj.alloc hbj o).1 (by simp; omega) (by rw [List.length_append]; omega) (hwj.alloc o)
      have HX := Lib.hid (itemsF_take (op := op) hx)
      clear e0 e1 e2 e3 e4 hTL hxT ih hx
      go_wp2_with (go_at_call 18; refine (hC _).mono ?_; rintro e w3 ⟨rfl, hw3, hb3⟩)
      go_roundw
      case rel => exact ⟨j + 1, by omega, by go_num, by rw [HX.out, ← List.append_assoc]; exact hw3, (hBj.alloc hbj _).trans hb3⟩
      case measure => simp [intOf]; omega
    · obtain rfl : j = l.length := by omega
      rw [List.take_length] at hwj hlj
      clear ih HT
      go_wp2_with (go_at_call 40; refine (HE.out _ _ hwj hbj (by rw [List.length_append]; omega)).mono ?_; rintro e w3 ⟨rfl, hw3, hb3⟩)
      go_end0
      exact ⟨rfl, by have := hw3; rw [List.append_assoc] at this; exact this, hBj.trans hb3⟩
end Go.Proofs.YtfmceonbejlhlaaGreatDoor

/-
  cbor's writer: item writes any right value.
-/
namespace Go.Proofs.YtfmceonbejlhlaaGreatDoor
open Go.RowKit Go.Proofs.YtfmceonbejlhlaaGreatDoorW.PrintWords Go.Proofs.YtfmceonbejlhlaaGreatDoorW.PrintLast Go.Proofs.YtfmceonbejlhlaaGreatDoorW.PrintMore
set_option linter.unusedVariables false

theorem u64_of_wf {n : Int} (h : (Lit.int .u64 n).wf = true) : 0 ≤ n ∧ n < 18446744073709551616 := by
  simp only [Lit.wf, decide_eq_true_eq, Bool.and_eq_true] at h
  have h0 : IntKind.u64.min = 0 := by decide +kernel
  have h1 : IntKind.u64.max = 18446744073709551615 := by decide +kernel
  rw [h0, h1] at h
  omega
theorem one_range {k : Int} {neg : Bool} {n : Int} {s : ByteArray} {l : List T} (h : oneF k neg n s l = true) : 0 ≤ k ∧ k ≤ 14 ∧ (neg = true → k = 4 ∨ k = 5) := by
  unfold oneF at h
  split at h
  · cases h
  · rename_i h1
    refine ⟨by omega, by omega, fun hn => ?_⟩
    by_cases h4 : k = 4
    · exact .inl h4
    · by_cases h5 : k = 5
      · exact .inr h5
      · exact absurd (.inr (.inr ⟨hn, h4, h5⟩)) h1
theorem one_bits {k : Int} {neg : Bool} {n : Int} {s : ByteArray} {l : List T} (h : oneF k neg n s l = true) (hk : bitsF k < 64) : n / 2 ^ (bitsF k).toNat = 0 := by
  unfold oneF at h
  split at h
  · cases h
  · split at h
    · cases h
    · rename_i h1
      by_cases h2 : n / 2 ^ (bitsF k).toNat = 0
      · exact h2
      · exact absurd ⟨hk, h2⟩ h1
theorem one_bool {neg : Bool} {n : Int} {s : ByteArray} {l : List T} (h : oneF 1 neg n s l = true) (h0 : 0 ≤ n) : n ≤ 1 := by
  have h1 := one_bits h (by decide)
  rw [show ((2 : Int) ^ (bitsF 1).toNat) = 2 by decide] at h1
  omega
theorem one_tail {k : Int} {neg : Bool} {n : Int} {s : ByteArray} {l : List T} (h : oneF k neg n s l = true) (hk : k ≠ 10) : tailF k n s l = true := by
  unfold oneF at h
  split at h
  · cases h
  · split at h
    · cases h
    · first
        | exact h
        | (rw [if_neg hk] at h; exact h)
theorem one_tag {neg : Bool} {n : Int} {s : ByteArray} {l : List T} (h : oneF 13 neg n s l = true) : l.length = 1 := by
  have h1 := one_tail h (by decide)
  unfold tailF at h1
  rw [if_neg (by decide), if_neg (by decide), if_neg (by simp), if_neg (by simp)] at h1
  by_cases h2 : l.length = 1
  · exact h2
  · rw [if_pos ⟨rfl, .inl h2⟩] at h1; cases h1

theorem item_any (op : Bool) (base p : Nat) (P : Nat → Prop) (hP : ∀ g, P g → g < base) : ∀ (t : T) (a : Option Addr) (c : Nat) (w : World), Tree w P t a → t.f4.length ≤ c → Rt t → Wf t → base ≤ w.heap.size → Writes op base p w t a c := by
  intro t
  induction t using T.ind with
  | h k neg n s l ih =>
    intro a c w hT hc hr hwf hbase xs w' hb hbase' hlen hw
    obtain ⟨_, hwn, hwl⟩ := hwf
    have hn0 : 0 ≤ n ∧ n < 18446744073709551616 := u64_of_wf hwn
    obtain ⟨⟨h1, hleaf⟩, hrl⟩ := hr
    have hT' := tree_keep (W' := w') (P' := P) (fun _ h => h) (fun g hg => hb.block g (hP g hg)) hT
    obtain ⟨_, hT'⟩ := tree_list hT'
    have hk := one_range h1
    simp only [bulk] at hlen
    have hih : ∀ x ∈ l, ∀ xa xc, Tree w' P x xa → x.f4.length ≤ xc → Writes op base p w' x xa xc := fun x hx xa xc h2 h3 => ih x hx xa xc w' h2 h3 (rtL_mem hrl hx) (wfL_mem hwl hx) hbase'
    dsimp only at hc ⊢
    rw [itemF]
    by_cases h0 : k = 0
    · rw [if_pos h0]; subst h0; exact item_0 op neg n s _ base p xs w' hbase' hn0.1 hn0.2 (by omega) hw
    rw [if_neg h0]
    by_cases h0 : k = 1
    · rw [if_pos h0]; subst h0; exact item_1 op neg n s _ base p xs w' hbase' (one_bool h1 hn0.1) hn0.1 hn0.2 (by omega) hw
    rw [if_neg h0]
    by_cases h0 : k = 2
    · rw [if_pos h0]; subst h0; exact item_2 op neg n s _ base p xs w' hbase' hn0.1 hn0.2 (by omega) hw
    rw [if_neg h0]
    by_cases h0 : k = 3
    · rw [if_pos h0]; subst h0; exact item_3 op neg n s _ base p xs w' hbase' hn0.1 hn0.2 (by omega) hw
    rw [if_neg h0]
    by_cases h0 : k = 4
    · rw [if_pos h0]; subst h0; exact item_4 op neg n s _ base p xs w' hbase' hn0.1 hn0.2 (by omega) hw
    rw [if_neg h0]
    by_cases h0 : k = 5
    · rw [if_pos h0]; subst h0; rw [← List.append_assoc]; exact item_5 op neg n s _ base p xs w' hbase' hn0.1 hn0.2 (by omega) hw
    rw [if_neg h0]
    by_cases h0 : k = 6
    · rw [if_pos h0]; subst h0; exact item_6 op neg n s _ base p xs w' hbase' hn0.1 hn0.2 (by omega) hw
    rw [if_neg h0]
    by_cases h0 : k = 7
    · rw [if_pos h0]; subst h0; exact item_7 op neg n s _ base p xs w' hbase' hn0.1 hn0.2 (by omega) hw
    rw [if_neg h0]
    by_cases h0 : k = 8
    · rw [if_pos h0]; subst h0; exact item_8 op neg n s _ base p xs w' hbase' hn0.1 hn0.2 (by omega) hw
    rw [if_neg h0]
    by_cases h0 : k = 9
    · rw [if_pos h0]; subst h0; exact item_9 op neg n s _ base p xs w' hbase' hn0.1 hn0.2 (by omega) hw
    rw [if_neg h0]
    by_cases h0 : k = 10
    · rw [if_pos h0]; subst h0; exact item_10 op neg n s _ base p xs w' hbase' hn0.1 hn0.2 (by omega) hw
    rw [if_neg h0]
    by_cases h0 : k = 11
    · rw [if_pos h0]; subst h0; exact item_11 op neg n s l a c base p P xs w' hbase' (by omega) hw hP hT' hih
    rw [if_neg h0]
    by_cases h0 : k = 12
    · rw [if_pos h0]; subst h0; exact item_12 op neg n s l a c base p P xs w' hbase' (by omega) hw hP hT' hih
    rw [if_neg h0]
    by_cases h0 : k = 13
    · rw [if_pos h0]; subst h0
      have hl1 := one_tag h1
      match l, hl1 with
      | [x], _ =>
        rcases hT' with h | ⟨g, off, rfl, hg, hTL⟩
        · cases h
        obtain ⟨y, xa, xc, hx, e0, e1, e2, e3, e4, hxc, hxT⟩ := treeL_cells hTL (i := 0) (by simp)
        simp only [List.getElem?_cons_zero, Option.some.injEq] at hx
        subst hx
        simp only [Nat.zero_mul, Nat.add_zero] at e0 e1 e2 e3 e4
        have : bulkL [x] = bulk x := by simp [bulkL]
        rw [show itemsF op [x] = itemF op x by simp [itemsF]]
        exact item_13 op neg n s x xa xc c g off base p xs w' hbase' hn0.1 hn0.2 (by omega) hw (hP g hg) (by simpa using hc) e0 e1 e2 e3 e4 (hih x (List.mem_cons_self ..) xa xc hxT hxc)
    rw [if_neg h0]
    obtain rfl : k = 14 := by omega
    exact item_14 op neg n s _ base p xs w' hbase' hn0.1 hn0.2 (by omega) hw
end Go.Proofs.YtfmceonbejlhlaaGreatDoor

/-
  value's each: the nodes of a tree in their order; what a round keeps.
-/
namespace Go.Proofs.YtfmceonbejlhlaaGreatDoor
open Go.RowKit Go.Proofs.YtfmceonbejlhlaaGreatDoorW.PrintWords Go.Proofs.YtfmceonbejlhlaaGreatDoorW.PrintLast Go.Proofs.YtfmceonbejlhlaaGreatDoorW.PrintMore
set_option linter.unusedVariables false

mutual
/-- The values of a tree, each ahead of those within it. -/
def preF : T → List T | ⟨k, neg, n, s, l⟩ => ⟨k, neg, n, s, l⟩ :: preL l
def preL : List T → List T | [] => [] | t :: r => preF t ++ preL r
end
theorem preF_bulk : ∀ t : T, (preF t).length ≤ bulk t := by
  intro t
  induction t using T.ind with
  | h k neg n s l ih =>
    have hl : (preL l).length ≤ bulkL l := by
      clear k neg n s
      induction l with
      | nil => simp [preL, bulkL]
      | cons t r ih2 =>
        have h1 := ih t (List.mem_cons_self ..)
        have h2 := ih2 fun u hu => ih u (List.mem_cons_of_mem _ hu)
        simp only [preL, bulkL, List.length_append]; omega
    simp only [preF, bulk, List.length_cons]; omega
theorem preL_snoc (t : T) : ∀ r : List T, preL (r ++ [t]) = preL r ++ preF t
  | [] => by simp [preL]
  | a :: r => by simp only [List.cons_append, preL]; rw [preL_snoc t r, List.append_assoc]
theorem preL_take {l : List T} {i : Nat} {t : T} (h : l[i]? = some t) : preL (l.take (i + 1)) = preL (l.take i) ++ preF t := by
  rw [List.take_add_one, h, Option.toList_some, preL_snoc]
theorem preL_take_len {l : List T} {i : Nat} {t : T} (h : l[i]? = some t) : ∃ r, preL l = preL (l.take i) ++ (preF t ++ r) := by
  refine ⟨preL (l.drop (i + 1)), ?_⟩
  have app : ∀ a b : List T, preL (a ++ b) = preL a ++ preL b := by
    intro a b
    induction a with
    | nil => rfl
    | cons x a ih => simp only [List.cons_append, preL, ih, List.append_assoc]
  have hl : l = l.take i ++ (t :: l.drop (i + 1)) := by
    have hi := (List.getElem?_eq_some_iff.1 h)
    obtain ⟨hi, he⟩ := hi
    rw [← he, List.getElem_cons_drop, List.take_append_drop]
  rw [show preL l = preL (l.take i ++ (t :: l.drop (i + 1))) from congrArg preL hl, app]
  rfl

/-- Nothing but the blocks of X (and what is no cells) is turned. -/
def KeepC (X : Nat → Prop) (A B : World) : Prop := A.heap.size ≤ B.heap.size ∧ ∀ (g : Nat) (cs : Array Value) (t : TypeId) (fr : Nat × Nat), ¬ X g → A.heap[g]? = some (.cells cs t fr) → B.heap[g]? = some (.cells cs t fr)
theorem KeepC.refl (X : Nat → Prop) (A : World) : KeepC X A A := ⟨Nat.le_refl _, fun _ _ _ _ _ h => h⟩
theorem KeepC.trans {X : Nat → Prop} {A B C : World} (h : KeepC X A B) (k : KeepC X B C) : KeepC X A C := ⟨Nat.le_trans h.1 k.1, fun g cs t fr hx hg => k.2 g cs t fr hx (h.2 g cs t fr hx hg)⟩
theorem KeepC.of_below {X : Nat → Prop} {A B : World} (h : Below A.heap.size A B) : KeepC X A B := ⟨h.size, fun g cs t fr _ hg => (h.block g (Array.getElem?_eq_some_iff.1 hg).1).trans hg⟩
theorem KeepC.putObj {X : Nat → Prop} (W : World) (l : Nat) (o o' : Obj) (h : W.heap[l]? = some o) (ho : o.isCells = false) : KeepC X W (W.putObj l o') := ⟨by simp, fun g cs t fr _ hg => by
  rw [World.putObj_heap_other (fun e => by subst e; rw [h] at hg; cases hg; cases ho)]
  exact hg⟩
theorem KeepC.setCell {X : Nat → Prop} (W : World) {b : Nat} (hb : X b) (j : Nat) (u : Value) : KeepC X W (W.setCell ⟨b, j, none⟩ u) := ⟨by simp [World.setCell], fun g cs t fr hx hg => by
  rw [Below.heap_setCell W ⟨b, j, none⟩ u g (fun e => hx (by rw [e]; exact hb))]
  exact hg⟩
theorem KeepC.boxed {X : Nat → Prop} {A B : World} (h : KeepC X A B) {b : Nat} {t : TypeId} {v : Value} (hb : Boxed A b t v) (hx : ¬ X b) : Boxed B b t v := h.2 b _ _ _ hx hb
theorem KeepC.row5 {X : Nat → Prop} {A B : World} (h : KeepC X A B) {g : Nat} {a b c d e : Value} (hb : Row5 A g a b c d e) (hx : ¬ X g) : Row5 B g a b c d e := h.2 g _ _ _ hx hb
theorem KeepC.cell {X : Nat → Prop} {A B : World} (h : KeepC X A B) {g j : Nat} {v : Value} (hx : ¬ X g) (hc : A.cell? ⟨g, j, none⟩ = some v) : B.cell? ⟨g, j, none⟩ = some v := by
  unfold World.cell? at hc ⊢
  dsimp only at hc ⊢
  cases ho : A.heap[g]? with
  | none => rw [ho] at hc; simp at hc
  | some o =>
    rw [ho] at hc
    cases o with
    | cells cs t fr => rw [h.2 g cs t fr hx ho]; exact hc
    | _ => simp at hc
theorem abides_below {β : Type} {B : Nat} {J : β → World → Prop} (hJ : AbidesFrom B J) {x : β} {W W' : World} (h : J x W) (hb : Below W.heap.size W W') : J x W' :=
  hJ x W W' none h ⟨hb.os, hb.tape, hb.output, hb.size, fun k hk _ => hb.block k hk⟩ (fun r e => by cases e)
theorem yieldAt_room {m m' : Nat} {P : Program} {l : Nat} {args : Array Value} {W : World} {R : Ending → World → Prop} (h : YieldAt Fence.wide m P l args W R) : YieldAt Fence.wide m' P l args W R := by
  obtain ⟨fn, tmps, assign, body, hy, hf, hR⟩ := h
  exact ⟨fn, tmps, assign, body, hy, hf, fun c cs _ => hR c cs (room_wide _)⟩

/-- A value of the tree as the iterator tells it: its path, its content, where it lies. -/
structure Node (w0 : World) (P : Nat → Prop) (M : Nat) where
  path : Value
  t : T
  a : Option Addr
  c : Nat
  tree : Tree w0 P t a
  cap : t.f4.length ≤ c
  small : bulk t ≤ M
def encN {w0 : World} {P : Nat → Prop} {M : Nat} (x : Node w0 P M) : Array Value := #[x.path, .agg #[.int .i64 x.t.f0, .bool x.t.f1, .int .u64 x.t.f2, .string x.t.f3, .slice x.a x.t.f4.length x.c]]
end Go.Proofs.YtfmceonbejlhlaaGreatDoor

/-
  value's each: the closure that goes down a tree.
-/
namespace Go.Proofs.YtfmceonbejlhlaaGreatDoor
open Go.RowKit Go.Proofs.YtfmceonbejlhlaaGreatDoorW.PrintWords Go.Proofs.YtfmceonbejlhlaaGreatDoorW.PrintLast Go.Proofs.YtfmceonbejlhlaaGreatDoorW.PrintMore
set_option linter.unusedVariables false
attribute [local go_sem] Oper.semAt_some

theorem info3 : (Tryz.prog.info? 3).map (fun i => (i.zero, i.size, i.bytes)) = some (some (.int .i64 0), 1, 8) := by kernel_rfl
/-- What down tells: all of a tree went by, or a round has ended it. -/
def DownB {w0 : World} {P : Nat → Prop} {M : Nat} (X : Nat → Prop) (J Jx : List (Node w0 P M) → World → Prop) (pre : List (Node w0 P M)) (want : List T) (W W' : World) : Bool → Prop
  | true => (∃ ys : List (Node w0 P M), ys.map (·.t) = want ∧ J (pre ++ ys) W') ∧ KeepC X W W'
  | false => ∃ ys : List (Node w0 P M), (ys.map (·.t) <+: want) ∧ Jx (pre ++ ys) W'
def DownPost {w0 : World} {P : Nat → Prop} {M : Nat} (X : Nat → Prop) (J Jx : List (Node w0 P M) → World → Prop) (pre : List (Node w0 P M)) (want : List T) (W : World) (e : Ending) (W' : World) : Prop :=
  ∃ b, e = .returned (.bool b) ∧ DownB X J Jx pre want W W' b
/-- The path's cells. -/
def PathIs (X : Nat → Prop) (W : World) (A : Option Addr) (m c : Nat) (xs : List Value) : Prop :=
  (A = none → m = 0 ∧ c = 0) ∧ m ≤ c ∧ xs.length = m * 1 ∧ (∀ u ∈ xs, u.oneCell' = true) ∧ ∀ b, A = some b → ∃ g, b = ⟨g, 0, none⟩ ∧ ¬ X g ∧ ∀ j u, xs[j]? = some u → W.cell? ⟨g, j, none⟩ = some u
theorem PathIs.keep {X : Nat → Prop} {W W' : World} {A : Option Addr} {m c : Nat} {xs : List Value} (h : PathIs X W A m c xs) (hk : KeepC X W W') : PathIs X W' A m c xs := by
  obtain ⟨h1, h2, h3, h4, h5⟩ := h
  refine ⟨h1, h2, h3, h4, fun b hb => ?_⟩
  obtain ⟨g, e, hx, hc⟩ := h5 b hb
  exact ⟨g, e, hx, fun j u hu => hk.cell hx (hc j u hu)⟩

theorem path_cell {X : Nat → Prop} {wr : World} {A : Option Addr} {m pc : Nat} {xs : List Value} (h : PathIs X wr A m pc xs) {W : World} (hb : Below wr.heap.size wr W) {b : Addr} (he : A = some b) {j : Nat} {u : Value} (hu : xs[j]? = some u) : W.cell? (b.add j) = some u := by
  obtain ⟨g, rfl, hx, hc⟩ := h.2.2.2.2 b he
  have h1 := hc j u hu
  rw [WideShapes.add_plain, Nat.zero_add]
  exact (hb.cell (p := ⟨g, j, none⟩) (block_lt_of_cell h1)).trans h1
theorem one_snoc {xs : List Value} (h : ∀ u ∈ xs, u.oneCell' = true) (j : Nat) : ∀ u ∈ xs ++ [Value.int .i64 j], u.oneCell' = true := by
  intro u hu
  rcases List.mem_append.1 hu with hu | hu
  · exact h u hu
  · rw [List.mem_singleton] at hu; subst hu; rfl
theorem news_one (W : World) (i : Int) (j : Nat) (u : Value) (hu : ([.int .i64 i] : List Value)[j]? = some u) : ((W.alloc (.cells #[.int .i64 i] 3)).drew).cell? ((⟨W.heap.size, 0, none⟩ : Addr).add j) = some u := by
  rw [WideShapes.add_plain, Nat.zero_add]
  exact (cell_of_row _ _ j _ _ _ (heap_alloc_new W _)).trans (by simpa using hu)
theorem path_own {X : Nat → Prop} {W : World} {base m g cap : Nat} {xs : List Value} (h : W.ownsRow base 3 1 (.slice (some ⟨g, 0, none⟩) (m + 1) cap) (m + 1) xs) (hx : ¬ X g) (h1 : ∀ u ∈ xs, u.oneCell' = true) : PathIs X W (some ⟨g, 0, none⟩) (m + 1) cap xs := by
  refine ⟨(fun e => by cases e), ?_, h.1, h1, fun b hb => ?_⟩
  · rcases h.2 with ⟨e, _⟩ | ⟨g', cap', cur, e, _, _, h3, _⟩
    · cases e
    · injection e with _ _ e; omega
  · cases hb
    refine ⟨g, rfl, hx, fun j u hu => ?_⟩
    have := h.cells (g := g) rfl j u hu
    rwa [WideShapes.add_plain, Nat.zero_add] at this
set_option maxRecDepth 100000 in
set_option maxHeartbeats 4000000 in
theorem down_in (w0 : World) (P : Nat → Prop) (M : Nat) (hP : ∀ g, P g → g < w0.heap.size) (X : Nat → Prop) (hX : ∀ g, X g → g < w0.heap.size) (hPX : ∀ g, P g → ¬ X g) (hM : M ≤ 4294967296)
    (l yb db : Nat) (hyb : ¬ X yb) (hdb : ¬ X db) (B N : Nat) (J Jx : List (Node w0 P M) → World → Prop) (hJ : AbidesFrom B J)
    (hY : ∀ pre (x : Node w0 P M) W, J pre W → pre.length < N → YieldAt Fence.wide 1 Tryz.prog l (encN x) W fun e W' =>
      (e = .returned (.bool true) ∧ J (pre ++ [x]) W' ∧ KeepC X W W') ∨ (e = .returned (.bool false) ∧ Jx (pre ++ [x]) W')) :
    ∀ (t : T) (a : Option Addr) (c : Nat) (n : Nat) (pre : List (Node w0 P M)) (A : Option Addr) (m pc : Nat) (xs : List Value) (W : World), 1 ≤ n → Tree w0 P t a → t.f4.length ≤ c → bulk t ≤ M → KeepC X w0 W → Boxed W yb 114 (.func (.yield l) #[] #[]) → Boxed W db 114 (.func (.func 61) #[] #[.pointer (some ⟨yb, 0, none⟩), .pointer (some ⟨db, 0, none⟩)]) →
      PathIs X W A m pc xs → m + bulk t ≤ 8589934592 → J pre W → pre.length + (preF t).length ≤ N →
      CallsIn Fence.wide n Tryz.prog 61 #[.slice A m pc, .agg #[.int .i64 t.f0, .bool t.f1, .int .u64 t.f2, .string t.f3, .slice a t.f4.length c], .pointer (some ⟨yb, 0, none⟩), .pointer (some ⟨db, 0, none⟩)] W (DownPost X J Jx pre (preF t) W) := by
  intro t
  induction t using T.ind with
  | h k neg nn s ll ih =>
    intro a c n pre A m pc xs W hn hT hcc hbk hKW hBy hBd hPath hmb hJW hN
    have hT0 := hT
    obtain ⟨hlen, hT⟩ := tree_list hT
    dsimp only at hT hlen hcc ⊢
    have hbk' := hbk
    simp only [bulk] at hbk hmb
    have hlb := bulkL_len ll
    have hNl : (preF ⟨k, neg, nn, s, ll⟩).length = (preL ll).length + 1 := by simp [preF]
    have hcY := hBy.cell
    have hcD := hBd.cell
    have R := Row5.new W (.int .i64 k) (.bool neg) (.int .u64 nn) (.string s) (.slice a ll.length c)
    have hBel : Below W.heap.size W (W.alloc (.cells #[.int .i64 k, .bool neg, .int .u64 nn, .string s, .slice a ll.length c] 25)) := (Below.refl _ _).alloc (Nat.le_refl _) _
    have hy := yieldAt_room (m' := n - 1) (hY pre ⟨.slice A m pc, ⟨k, neg, nn, s, ll⟩, a, c, hT0, hcc, hbk'⟩ _ (abides_below hJ hJW hBel) (by omega))
    dsimp only [encN] at hy
    obtain ⟨W1, hW1⟩ : ∃ W1, W.alloc (.cells #[.int .i64 k, .bool neg, .int .u64 nn, .string s, .slice a ll.length c] 25) = W1 := ⟨_, rfl⟩
    rw [hW1] at R hBel hy
    have hc0 := R.c0
    have hc1 := R.c1
    have hc2 := R.c2
    have hc3 := R.c3
    have hc4 := R.c4
    obtain ⟨fn, tmps, assign, body, hyr, hR⟩ := hy
    have hBy1 := (KeepC.of_below (X := X) hBel).boxed hBy hyb
    have hcy1 := hBy1.cell
    have HN := Lib.hid hN
    have HNl := Lib.hid hNl
    have HP := Lib.hid hPath
    have HT := Lib.hid hT
    clear hN hNl hPath hT hcY
    refine callsIn_of_wp Tryz.func61 rfl trivial ?_ rfl
    simp only [Tryz.ntmps61, List.size_toArray, List.length_cons, List.length_nil, Nat.reduceAdd, Nat.reduceSub, Array.replicate_succ, Array.replicate_zero, List.push_toArray, List.append_toArray, List.nil_append, List.cons_append]
    gi_wp2
    refine hR.mono ?_
    rintro e W2 (⟨rfl, hJ2, hk2⟩ | ⟨rfl, hJx2⟩)
    rotate_left
    · gi_wp2
      go_ret
      exact ⟨false, rfl, [⟨.slice A m pc, ⟨k, neg, nn, s, ll⟩, a, c, hT0, hcc, hbk'⟩], ⟨preL ll, by simp [preF]⟩, hJx2⟩
    · have hx0 : ¬ X W.heap.size := fun h => by have := hX _ h; have := hKW.1; omega
      have R2 := hk2.row5 R hx0
      have hKW2 : KeepC X W W2 := (KeepC.of_below hBel).trans hk2
      have d4 := R2.c4
      clear hR hyr hc0 hc1 hc2 hc3 hc4 R hcy1 hBy1 hBel hk2 hcD
      gi_wp2
      gi_loopw [17] (fun i wr => ∃ (k' : Nat) (ys : List (Node w0 P M)), k' ≤ ll.length ∧ i = .int .i64 k' ∧ Hid (ys.map (·.t) = ⟨k, neg, nn, s, ll⟩ :: preL (ll.take k')) ∧ J (pre ++ ys) wr ∧ KeepC X W wr) (fun i _ => ll.length - (intOf i).toNat)
      case atStart => exact ⟨0, [⟨.slice A m pc, ⟨k, neg, nn, s, ll⟩, a, c, hT0, hcc, hbk'⟩], by omega, rfl, Lib.hid (by simp [preL]), hJ2, hKW2⟩
      case round =>
        obtain ⟨j, ys, hj, rfl, hys, hJj, hKj⟩ := hrel
        by_cases hlt : j < ll.length
        · rcases HT.out with rfl | ⟨g, off, rfl, hg, hTL⟩
          · simp at hlt
          obtain ⟨x, xa, xc, hx, e0, e1, e2, e3, e4, hxc, hxT⟩ := treeL_cells hTL hlt
          have hK0 := hKW.trans hKj
          have hgx := hPX g hg
          have K0 := hK0.cell hgx e0
          have K1 := hK0.cell hgx e1
          have K2 := hK0.cell hgx e2
          have K3 := hK0.cell hgx e3
          have K4 := hK0.cell hgx e4
          clear e0 e1 e2 e3 e4
          have hBdj := hKj.boxed hBd hdb
          have hPj := HP.out.keep hKj
          obtain ⟨wr1, hwr1⟩ : ∃ wr1, wr.alloc (.cells #[.int .i64 x.f0, .bool x.f1, .int .u64 x.f2, .string x.f3, .slice xa x.f4.length xc] 25) = wr1 := ⟨_, rfl⟩
          have Rx := Row5.new wr (.int .i64 x.f0) (.bool x.f1) (.int .u64 x.f2) (.string x.f3) (.slice xa x.f4.length xc)
          have hb1 : Below wr.heap.size wr wr1 := hwr1 ▸ (Below.refl _ _).alloc (Nat.le_refl _) _
          rw [hwr1] at Rx
          have hBd1 := (KeepC.of_below (X := X) hb1).boxed hBdj hdb
          have cD := hBd1.cell
          have c0 := Rx.c0
          have c1 := Rx.c1
          have c2 := Rx.c2
          have c3 := Rx.c3
          have c4 := Rx.c4
          have cD' := fun ob => (hBd1.alloc ob).cell
          have c0' := fun ob => (Rx.alloc ob).c0
          have c1' := fun ob => (Rx.alloc ob).c1
          have c2' := fun ob => (Rx.alloc ob).c2
          have c3' := fun ob => (Rx.alloc ob).c3
          have c4' := fun ob => (Rx.alloc ob).c4
          have hxm := List.mem_of_getElem? hx
          have hxb := bulkL_mem hxm
          have hC : ∀ (w2 : World) (g' cap' : Nat), Below wr.heap.size wr w2 → PathIs X w2 (some ⟨g', 0, none⟩) (m + 1) cap' (xs ++ [.int .i64 j]) →
              Calls Tryz.prog 61 #[.slice (some ⟨g', 0, none⟩) (m + 1) cap', .agg #[.int .i64 x.f0, .bool x.f1, .int .u64 x.f2, .string x.f3, .slice xa x.f4.length xc], .pointer (some ⟨yb, 0, none⟩), .pointer (some ⟨db, 0, none⟩)] w2 (DownPost X J Jx (pre ++ ys) (preF x) w2) := fun w2 g' cap' hb hp => by
            have hk2 := hKj.trans (KeepC.of_below (X := X) hb)
            refine callsIn_wide.1 (ih x hxm xa xc 1 (pre ++ ys) _ _ _ _ w2 (Nat.le_refl _) hxT hxc (by omega) (hKW.trans hk2) (hk2.boxed hBy hyb) (hk2.boxed hBd hdb) hp (by omega) (abides_below hJ hJj hb) ?_)
            have h1 := congrArg List.length hys.out
            obtain ⟨r, hr⟩ := preL_take_len hx
            have h2 := congrArg List.length hr
            have h3 := HN.out
            have h4 := HNl.out
            simp only [List.length_append, List.length_map, List.length_cons] at h1 h2 h3 h4 ⊢
            omega
          have HC := Lib.hid hC
          have hmp : m ≤ pc := hPj.2.1
          have HPj := Lib.hid hPj
          have HK0 := Lib.hid hK0
          have hxq : ¬ X wr.heap.size := fun h => by have := hX _ h; have := hK0.1; omega
          have HB1 := Lib.hid hb1
          have HX := Lib.hid hx
          have HPre : Hid (∀ zs : List T, zs <+: preF x → (⟨k, neg, nn, s, ll⟩ :: preL (ll.take j)) ++ zs <+: preF ⟨k, neg, nn, s, ll⟩) := Lib.hid (fun zs hz => by
            obtain ⟨r, hr⟩ := preL_take_len hx
            obtain ⟨q, hq⟩ := hz
            exact ⟨q ++ r, by rw [preF, hr, ← hq]; simp⟩)
          have hgn : ¬ X wr1.heap.size := fun h => by have := hX _ h; have := hK0.1; have := hb1.size; omega
          obtain ⟨i0, hi, hz0, hz1, hz2⟩ := info_parts info3
          have hWs : ∀ v, Below wr.heap.size wr (wr1.alloc v).drew := fun v => (hb1.alloc hb1.size v).drew
          have HWs := Lib.hid hWs
          clear hC hPj ih hxm hb1 HN HNl hWs
          gi_wp2_with fail
          refine wpIn_wide.2 ?_
          go_region_law (first
            | (refine step_append_grows rfl (.tmp 28) (.tmp 30) 63 rfl 3 i0 (.int .i64 0) 1 8 Tryz.underlying63 hi hz0 hz1 hz2 rfl (by decide) A m m xs (by simp [Act.eval]) (fun e => ⟨(HPj.out.1 e).1, (HPj.out.1 e).1⟩) HPj.out.2.2.1 (fun b hb j' u hu => path_cell HPj.out (HWs.out _) hb hu) ⟨wr1.heap.size, 0, none⟩ 1 1 [.int .i64 j] (by simp [Act.eval]) rfl (fun j' u hu => news_one wr1 j j' u hu) (by intro u hu; rw [List.mem_singleton] at hu; subst hu; rfl) (by omega) (by unfold maxLen; omega) (by omega) ?_
               intro v' w2 hown hgr
               obtain ⟨g', cap', rfl⟩ := ownsRow_succ hown
               have hB2 : Below wr1.heap.size wr1 w2 := (((Below.refl _ wr1).alloc (Nat.le_refl _) _).drew).grown hgr (by simp) (fun k e => by cases e)
               have hk2 := KeepC.of_below (X := X) hB2
               have hP2 := path_own (X := X) hown (fun h => by have h1 := hX _ h; have h2 := own_base hown g' rfl; have h3 := HB1.out.size; have h4 := HK0.out.1; simp at h2; omega) (one_snoc HPj.out.2.2.2.1 j)
               have cD2 := (hk2.boxed hBd1 hdb).cell
               have Rx2 := hk2.row5 Rx hxq
               have b0 := Rx2.c0
               have b1 := Rx2.c1
               have b2 := Rx2.c2
               have b3 := Rx2.c3
               have b4 := Rx2.c4
               have HP2 := Lib.hid hP2
               have HB2 := Lib.hid (HB1.out.trans (hB2.mono HB1.out.size))
               clear hown hgr hB2 hk2 hP2 Rx2)
            | (go_simp; go_at_call 61; refine (HC.out _ _ _ HB2.out HP2.out).mono ?_; rintro e w3 ⟨bb, rfl, hbb⟩))
          all_goals
            clear b0 b1 b2 b3 b4 cD2 K0 K1 K2 K3 K4 c0 c1 c2 c3 c4 c0' c1' c2' c3' c4' cD cD' HC HWs HP2 hi hz0 hz1 hz2 HPj
            cases bb
            · obtain ⟨ys2, hpre, hJx⟩ := hbb
              gi_wp2
              go_ret
              exact ⟨false, rfl, ys ++ ys2, by rw [List.map_append, hys.out]; exact HPre.out _ hpre, by rw [← List.append_assoc]; exact hJx⟩
            · obtain ⟨⟨ys2, hy2, hJ3⟩, hk3⟩ := hbb
              gi_wp2
              go_roundw
              case rel => exact ⟨j + 1, ys ++ ys2, by omega, by go_num, Lib.hid (by rw [List.map_append, hys.out, hy2, preL_take HX.out]; rfl), by rw [← List.append_assoc]; exact hJ3, hKj.trans ((KeepC.of_below HB2.out).trans hk3)⟩
              case measure => simp [intOf]; omega
        · obtain rfl : j = ll.length := by omega
          rw [List.take_length] at hys
          gi_wp2
          go_ret
          exact ⟨true, rfl, ⟨ys, by rw [hys.out]; rfl, hJj⟩, hKj⟩
end Go.Proofs.YtfmceonbejlhlaaGreatDoor

/-
  value's each: the iterator.
-/
namespace Go.Proofs.YtfmceonbejlhlaaGreatDoor
open Go.RowKit Go.Proofs.YtfmceonbejlhlaaGreatDoorW.PrintWords Go.Proofs.YtfmceonbejlhlaaGreatDoorW.PrintLast Go.Proofs.YtfmceonbejlhlaaGreatDoorW.PrintMore
set_option linter.unusedVariables false
attribute [local go_sem] Oper.semAt_some

theorem run_store_func {P : Program} {w : World} {a : Addr} {m : Mode} (f : Fn) (xs ys : Array Value) : (store a (.func f xs ys) m).run P w = stored P w a (.func f xs ys) m := run_store P w a _ m rfl
attribute [local go_sem] run_store_func
set_option maxRecDepth 100000 in
set_option maxHeartbeats 4000000 in
theorem each1_in (n : Nat) (hn : 2 ≤ n) (w0 : World) (P : Nat → Prop) (M : Nat) (hP : ∀ g, P g → g < w0.heap.size) (X : Nat → Prop) (hX : ∀ g, X g → g < w0.heap.size) (hPX : ∀ g, P g → ¬ X g) (hM : M ≤ 4294967296)
    (t : T) (a : Option Addr) (c : Nat) (hT : Tree w0 P t a) (hc : t.f4.length ≤ c) (hb : bulk t ≤ M) (vb : Nat) (hvx : ¬ X vb) (hv : Row5 w0 vb (.int .i64 t.f0) (.bool t.f1) (.int .u64 t.f2) (.string t.f3) (.slice a t.f4.length c)) :
    SeqStopsK Fence.wide n Tryz.prog 60 #[.pointer (some ⟨vb, 0, none⟩)] (encN (w0 := w0) (P := P) (M := M)) (KeepC X) (fun xs => xs.map (·.t) = preF t) (fun pre => pre.map (·.t) <+: preF t) (preF t).length w0 := by
  intro l J Jx W hbW hJ hJx hY hJ0
  have hy2 := fun pre (x : Node w0 P M) W h h' => yieldAt_room (m' := 1) (hY pre x W h h')
  have hdn := down_in w0 P M hP X hX hPX hM l W.heap.size (W.heap.size + 1) (fun h => by have := hX _ h; have := hbW.size; omega) (fun h => by have := hX _ h; have := hbW.size; omega) W.heap.size (preF t).length J Jx hJ hy2 t a c
  have hdn2 : ∀ W2, Below W.heap.size W W2 → Boxed W2 W.heap.size 114 (.func (.yield l) #[] #[]) → Boxed W2 (W.heap.size + 1) 114 (.func (.func 61) #[] #[.pointer (some ⟨W.heap.size, 0, none⟩), .pointer (some ⟨W.heap.size + 1, 0, none⟩)]) → CallsIn Fence.wide (n - 1) Tryz.prog 61 #[.slice none 0 0, .agg #[.int .i64 t.f0, .bool t.f1, .int .u64 t.f2, .string t.f3, .slice a t.f4.length c], .pointer (some ⟨W.heap.size, 0, none⟩), .pointer (some ⟨W.heap.size + 1, 0, none⟩)] W2 (DownPost X J Jx [] (preF t) W2) := fun W2 hb2 h1 h2 =>
    hdn (n - 1) [] none 0 0 [] W2 (by omega) hT hc hb (KeepC.of_below (hbW.trans (hb2.mono hbW.size))) h1 h2 ⟨fun _ => ⟨rfl, rfl⟩, Nat.le_refl _, rfl, by simp, fun b e => by cases e⟩ (by omega) (abides_below hJ hJ0 hb2) (by simp)
  have hv1 : Row5 W vb _ _ _ _ _ := (hbW.block vb hv.lt).trans hv
  have R0 := hv1.alloc (.cells #[.func (.yield l) #[] #[]] 114)
  have R1 := R0.alloc (.cells #[.func (.func 61) #[] #[.pointer (some ⟨W.heap.size, 0, none⟩), .pointer (some ⟨W.heap.size + 1, 0, none⟩)]] 114)
  have b0 := (Boxed.new W 114 (.func (.yield l) #[] #[])).alloc (.cells #[.func (.func 61) #[] #[.pointer (some ⟨W.heap.size, 0, none⟩), .pointer (some ⟨W.heap.size + 1, 0, none⟩)]] 114)
  have b1 := Boxed.new (W.alloc (.cells #[.func (.yield l) #[] #[]] 114)) 114 (.func (.func 61) #[] #[.pointer (some ⟨W.heap.size, 0, none⟩), .pointer (some ⟨W.heap.size + 1, 0, none⟩)])
  have hB := ((Below.refl _ W).alloc (Nat.le_refl _) (.cells #[.func (.yield l) #[] #[]] 114)).alloc (by simp) (.cells #[.func (.func 61) #[] #[.pointer (some ⟨W.heap.size, 0, none⟩), .pointer (some ⟨W.heap.size + 1, 0, none⟩)]] 114)
  have k0 := R1.c0
  have k1 := R1.c1
  have k2 := R1.c2
  have k3 := R1.c3
  have k4 := R1.c4
  rw [World.size_alloc] at b1
  have cb1 := b1.cell
  have f1 := (Boxed.new (W.alloc (.cells #[.func (.yield l) #[] #[]] 114)) 114 .nilFunc).frozen
  have cn1 := (Boxed.new (W.alloc (.cells #[.func (.yield l) #[] #[]] 114)) 114 .nilFunc).cell
  rw [World.size_alloc] at f1 cn1
  have hC := Lib.hid (hdn2 _ hB b0 b1)
  clear hdn hdn2
  refine callsIn_of_wp Tryz.func60 rfl trivial ?_ rfl
  simp only [Tryz.ntmps60, List.size_toArray, List.length_cons, List.length_nil, Nat.reduceAdd, Nat.reduceSub, Array.replicate_succ, Array.replicate_zero, List.push_toArray, List.append_toArray, List.nil_append, List.cons_append]
  gi_wp2_with fail
  refine ⟨trivial, (fun h => by cases h), hC.out.mono ?_⟩
  rintro e w2 ⟨b, rfl, hb⟩
  gi_wp2
  refine bodyPost_end (results_none rfl _ _ _) rfl ?_
  cases b
  · obtain ⟨ys, hpre, hJ2⟩ := hb
    exact ⟨⟨_, rfl⟩, .inr ⟨ys, hpre, hJ2⟩⟩
  · obtain ⟨⟨ys, hy, hJ2⟩, _⟩ := hb
    exact ⟨⟨_, rfl⟩, .inl ⟨ys, hy, hJ2⟩⟩
theorem each_in (n : Nat) (w : World) (a b c d e : Value) :
    CallsIn Fence.wide n Tryz.prog 32 #[.agg #[a, b, c, d, e]] w fun en w' => en = .returned (.func (.func 60) #[] #[.pointer (some ⟨w.heap.size, 0, none⟩)]) ∧ w' = w.alloc (.cells #[a, b, c, d, e] 25) := by
  refine callsIn_of_wp Tryz.func32 rfl trivial ?_ rfl
  simp only [Tryz.ntmps32, List.size_toArray, List.length_cons, List.length_nil, Nat.reduceAdd, Nat.reduceSub, Array.replicate_succ, Array.replicate_zero, List.push_toArray, List.append_toArray, List.nil_append, List.cons_append]
  gi_wp2
  go_ret
  exact ⟨rfl, rfl⟩
end Go.Proofs.YtfmceonbejlhlaaGreatDoor

/-
  value's Count.
-/
namespace Go.Proofs.YtfmceonbejlhlaaGreatDoor
open Go.RowKit Go.Shelf Go.Proofs.YtfmceonbejlhlaaGreatDoorW.PrintWords Go.Proofs.YtfmceonbejlhlaaGreatDoorW.PrintLast Go.Proofs.YtfmceonbejlhlaaGreatDoorW.PrintMore
set_option linter.unusedVariables false
attribute [local go_sem] Oper.semAt_some

set_option maxRecDepth 100000 in
set_option maxHeartbeats 4000000 in
theorem count_in (n : Nat) (hn : 5 ≤ n) (t : T) (a : Option Addr) (c : Nat) (w : World) (P : Nat → Prop) (hP : ∀ g, P g → g < w.heap.size) (hT : Tree w P t a) (hc : t.f4.length ≤ c) (hb : bulk t ≤ 2147483648) :
    CallsIn Fence.wide n Tryz.prog 14 #[.agg #[.int .i64 t.f0, .bool t.f1, .int .u64 t.f2, .string t.f3, .slice a t.f4.length c]] w (Ret (.int .i64 (preF t).length) w) := by
  have h1 : 1 ≤ n := by omega
  have hpb := preF_bulk t
  have R0 := ((Row5.new w (.int .i64 t.f0) (.bool t.f1) (.int .u64 t.f2) (.string t.f3) (.slice a t.f4.length c)).alloc (.cells #[.int .i64 0] 3))
  have k0 := R0.c0
  have k1 := R0.c1
  have k2 := R0.c2
  have k3 := R0.c3
  have k4 := R0.c4
  have f1 := (Boxed.new (w.alloc (.cells #[.int .i64 t.f0, .bool t.f1, .int .u64 t.f2, .string t.f3, .slice a t.f4.length c] 25)) 3 (.int .i64 0)).frozen
  have g1 := (Boxed.new (w.alloc (.cells #[.int .i64 t.f0, .bool t.f1, .int .u64 t.f2, .string t.f3, .slice a t.f4.length c] 25)) 3 (.int .i64 0)).cell
  rw [World.size_alloc] at f1 g1
  refine callsIn_of_wp_marks Tryz.func14 rfl trivial ?_ rfl
  simp only [Tryz.ntmps14, List.size_toArray, List.length_cons, List.length_nil, Nat.reduceAdd, Nat.reduceSub, Array.replicate_succ, Array.replicate_zero, List.push_toArray, List.append_toArray, List.nil_append, List.cons_append]
  gi_wp2_with (refine ⟨trivial, ?_⟩; gi_at_call 32; refine (each_in (n - 1) _ _ _ _ _ _).mono ?_; rintro e w' ⟨rfl, rfl⟩)
  have bC := (Boxed.new (w.alloc (.cells #[.int .i64 t.f0, .bool t.f1, .int .u64 t.f2, .string t.f3, .slice a t.f4.length c] 25)) 3 (.int .i64 0)).alloc (.cells #[.int .i64 t.f0, .bool t.f1, .int .u64 t.f2, .string t.f3, .slice a t.f4.length c] 25)
  have bV := Row5.new ((w.alloc (.cells #[.int .i64 t.f0, .bool t.f1, .int .u64 t.f2, .string t.f3, .slice a t.f4.length c] 25)).alloc (.cells #[.int .i64 0] 3)) (.int .i64 t.f0) (.bool t.f1) (.int .u64 t.f2) (.string t.f3) (.slice a t.f4.length c)
  have hB0 := (((Below.refl _ w).alloc (Nat.le_refl _) (.cells #[.int .i64 t.f0, .bool t.f1, .int .u64 t.f2, .string t.f3, .slice a t.f4.length c] 25)).alloc (by simp) (.cells #[.int .i64 0] 3)).alloc (by simp; omega) (.cells #[.int .i64 t.f0, .bool t.f1, .int .u64 t.f2, .string t.f3, .slice a t.f4.length c] 25)
  have hsz : (((w.alloc (.cells #[.int .i64 t.f0, .bool t.f1, .int .u64 t.f2, .string t.f3, .slice a t.f4.length c] 25)).alloc (.cells #[.int .i64 0] 3)).alloc (.cells #[.int .i64 t.f0, .bool t.f1, .int .u64 t.f2, .string t.f3, .slice a t.f4.length c] 25)).heap.size = w.heap.size + 3 := by simp
  simp only [World.size_alloc] at bC bV
  obtain ⟨W0, hW0⟩ : ∃ W0, ((w.alloc (.cells #[.int .i64 t.f0, .bool t.f1, .int .u64 t.f2, .string t.f3, .slice a t.f4.length c] 25)).alloc (.cells #[.int .i64 0] 3)).alloc (.cells #[.int .i64 t.f0, .bool t.f1, .int .u64 t.f2, .string t.f3, .slice a t.f4.length c] 25) = W0 := ⟨_, rfl⟩
  rw [hW0] at bC bV hB0 hsz ⊢
  clear hW0 R0 k0 k1 k2 k3 k4 f1 g1
  have hT0 : Tree W0 P t a := tree_keep (fun _ h => h) (fun g hg => hB0.block g (hP g hg)) hT
  refine wpIn_rangeFunc_ownH rfl h1 (gf := 60) (lb := #[.pointer (some ⟨w.heap.size + 1 + 1, 0, none⟩)]) rfl trivial (enters_of Tryz.func60 (by kernel_rfl) rfl)
    (each1_in (n - 1) (by omega) W0 P (2147483648) (fun g h => by have := hP g h; omega) (fun g => g = w.heap.size + 1) (fun g h => by omega) (fun g h h' => by have := hP g h; omega) (by omega) t a c hT0 hc hb (w.heap.size + 1 + 1) (by omega) bV)
    (fun h h' => h.trans h') (fun W l o o' _ ho hc _ => KeepC.putObj W l o o' ho hc) (Below.refl _ _) (fun _ => rfl)
    (fun pre W => Boxed W (w.heap.size + 1) 3 (.int .i64 pre.length) ∧ Below w.heap.size w W)
    (fun c pre W => False)
    ?hI ?hIx ?h0
    (fun x a' W => a' = { tmps := #[.agg #[.int .i64 t.f0, .bool t.f1, .int .u64 t.f2, .string t.f3, .slice a t.f4.length c], .pointer (some ⟨w.heap.size, 0, none⟩), .int .i64 0, .pointer (some ⟨w.heap.size + 1, 0, none⟩), .agg #[.int .i64 t.f0, .bool t.f1, .int .u64 t.f2, .string t.f3, .slice a t.f4.length c], .func (.func 60) #[] #[.pointer (some ⟨w.heap.size + 1 + 1, 0, none⟩)], x.path, .agg #[.int .i64 x.t.f0, .bool x.t.f1, .int .u64 x.t.f2, .string x.t.f3, .slice x.a x.t.f4.length x.c], undef, undef, undef], defers := [] })
    (fun x a' _ X Y row hs hg hr => hs)
    ?assign ?body ?done ?stop
  case hI => exact OwnFrom.and (Own.from (boxed_own _ _ (fun (pre : List (Node W0 P 2147483648)) => .int .i64 pre.length)) _) (ownFrom_below (by omega) (by omega))
  case hIx => exact fun c s' X Y row h hg hr => h
  case h0 => exact ⟨bC, hB0⟩
  case assign =>
    intro l pre x W K hI hK
    dsimp only [encN] at hK ⊢
    gi_wp2
    exact hK _ _ (KeepsFrom.refl _ _) (KeepC.refl _ _) hI (by simp)
  case body =>
    rintro l pre x a' W hl hr ⟨hbx, hbel⟩ rfl hlt
    have c1 := hbx.cell
    have f1 := hbx.frozen
    gi_wp2
    refine ⟨(KeepsOthers.setCell _ _ _).from _, KeepC.setCell (X := fun g => g = w.heap.size + 1) W rfl _ _, ?_, hbel.setCell (p := ⟨w.heap.size + 1, 0, none⟩) (by show w.heap.size ≤ w.heap.size + 1; omega) _⟩
    have := hbx.set (.int .i64 (pre.length + 1))
    simpa using this
  case done =>
    rintro D ys W hD hys ⟨hbx, hbel⟩ hK
    have hlen : (ys.length : Int) = (preF t).length := by rw [← hys]; simp
    have c1 := hbx.cell
    rw [hlen] at c1
    gi_wp2
    refine ⟨by simp, .inl ⟨_, _, rfl, run_takeDeferred hK, ?_⟩⟩
    refine ⟨.int .i64 (preF t).length, by simp [results, Tryz.f14, go_sem], rfl, ?_⟩
    exact hbel.trans (belowK_b (w := w) (Nat.le_refl _) _ D _ _ (by omega) hK rfl rfl)
  case stop => exact fun D c pre W _ _ h _ => h.elim
theorem count_any (t : T) (a : Option Addr) (c : Nat) (w : World) (P : Nat → Prop) (hP : ∀ g, P g → g < w.heap.size) (hT : Tree w P t a) (hc : t.f4.length ≤ c) (hb : bulk t ≤ 2147483648) :
    Calls Tryz.prog 14 #[.agg #[.int .i64 t.f0, .bool t.f1, .int .u64 t.f2, .string t.f3, .slice a t.f4.length c]] w (Ret (.int .i64 (preF t).length) w) :=
  callsIn_wide.1 (count_in 5 (Nat.le_refl _) t a c w P hP hT hc hb)
end Go.Proofs.YtfmceonbejlhlaaGreatDoor

/-
  value's Check.
-/
namespace Go.Proofs.YtfmceonbejlhlaaGreatDoor
open Go.RowKit Go.Shelf Go.Proofs.YtfmceonbejlhlaaGreatDoorW.PrintWords Go.Proofs.YtfmceonbejlhlaaGreatDoorW.PrintLast Go.Proofs.YtfmceonbejlhlaaGreatDoorW.PrintMore
set_option linter.unusedVariables false
attribute [local go_sem] Oper.semAt_some

/-- A value of a tree is right, but for those within it. -/
def nodeB (t : T) : Bool := oneF t.f0 t.f1 t.f2 t.f3 t.f4 && !(leafF t.f0 && decide (0 < t.f4.length))
/-- May a tree be. -/
def checkF (t : T) : Int := if 64 < depthF t ∨ 65536 < (preF t).length then 2 else if (preF t).all nodeB then 0 else 9
theorem keepsOthers_below {W W' : World} (h : Below W.heap.size W W') : KeepsOthers W W' := ⟨h.size, fun k o hk ho => (h.block k (Array.getElem?_eq_some_iff.1 hk).1).trans hk⟩
theorem row5_own {β : Type} (B : Nat) (f : β → Value × Value × Value × Value × Value) : Own (fun s W => Row5 W B (f s).1 (f s).2.1 (f s).2.2.1 (f s).2.2.2.1 (f s).2.2.2.2) := fun s X Y row hs hg hrow =>
  (hg.block B hs.lt (fun e' => by obtain ⟨o, ho, hc⟩ := hrow B e'.symm; rw [show X.heap[B]? = _ from hs] at ho; cases ho; cases hc)).trans hs
theorem bulk_str (t : T) : bulk t = t.f3.size + bulkL t.f4 + 1 := by
  obtain ⟨_, _, _, _, _⟩ := t
  simp [bulk]

set_option maxRecDepth 100000 in
set_option maxHeartbeats 8000000 in
theorem checkT_in (n : Nat) (hn : 8 ≤ n) (t : T) (a : Option Addr) (c : Nat) (w : World) (P : Nat → Prop) (hP : ∀ g, P g → g < w.heap.size) (hT : Tree w P t a) (hc : t.f4.length ≤ c) (hb : bulk t ≤ 2147483648) :
    CallsIn Fence.wide n Tryz.prog 16 #[.agg #[.int .i64 t.f0, .bool t.f1, .int .u64 t.f2, .string t.f3, .slice a t.f4.length c]] w (Ret (.int .i64 (checkF t)) w) := by
  have h1 : 1 ≤ n := by omega
  have hpb := preF_bulk t
  have hdb := depth_bulk t
  have R0 := ((Row5.new w (.int .i64 t.f0) (.bool t.f1) (.int .u64 t.f2) (.string t.f3) (.slice a t.f4.length c)).alloc (.cells #[.int .i64 0] 27))
  have k0 := R0.c0
  have k1 := R0.c1
  have k2 := R0.c2
  have k3 := R0.c3
  have k4 := R0.c4
  have B1 := Boxed.new (w.alloc (.cells #[.int .i64 t.f0, .bool t.f1, .int .u64 t.f2, .string t.f3, .slice a t.f4.length c] 25)) 27 (.int .i64 0)
  have f1 := B1.frozen
  have g1 := B1.cell
  rw [World.size_alloc] at f1 g1 B1
  obtain ⟨d, hd⟩ : ∃ d, depthF t = d := ⟨_, rfl⟩
  obtain ⟨m, hm⟩ : ∃ m, (preF t).length = m := ⟨_, rfl⟩
  have hDep : ∀ W, Below w.heap.size w W → Calls Tryz.prog 15 #[.agg #[.int .i64 t.f0, .bool t.f1, .int .u64 t.f2, .string t.f3, .slice a t.f4.length c]] W (Ret (.int .i64 d) W) := fun W h => by
    have := depth_any t a c W P (fun g hg => Nat.lt_of_lt_of_le (hP g hg) h.size) (tree_keep (fun _ h => h) (fun g hg => h.block g (hP g hg)) hT) (by omega)
    rw [hd] at this
    exact this
  have hCnt : ∀ W, Below w.heap.size w W → Calls Tryz.prog 14 #[.agg #[.int .i64 t.f0, .bool t.f1, .int .u64 t.f2, .string t.f3, .slice a t.f4.length c]] W (Ret (.int .i64 m) W) := fun W h => by
    have := count_any t a c W P (fun g hg => Nat.lt_of_lt_of_le (hP g hg) h.size) (tree_keep (fun _ h => h) (fun g hg => h.block g (hP g hg)) hT) hc hb
    rw [hm] at this
    exact this
  have HD := Lib.hid hDep
  have HC := Lib.hid hCnt
  have Hd := Lib.hid hd
  have Hm := Lib.hid hm
  rw [hd] at hdb
  rw [hm] at hpb
  clear hDep hCnt hd hm
  have hB2 := ((Below.refl _ w).alloc (Nat.le_refl _) (.cells #[.int .i64 t.f0, .bool t.f1, .int .u64 t.f2, .string t.f3, .slice a t.f4.length c] 25)).alloc (by simp) (.cells #[.int .i64 0] 27)
  have HB2 := Lib.hid hB2
  clear hB2
  refine callsIn_of_wp_marks Tryz.func16 rfl trivial ?_ rfl
  simp only [Tryz.ntmps16, List.size_toArray, List.length_cons, List.length_nil, Nat.reduceAdd, Nat.reduceSub, Array.replicate_succ, Array.replicate_zero, List.push_toArray, List.append_toArray, List.nil_append, List.cons_append]
  by_cases hd64 : 64 < d
  · have q1 : decide ((64 : Int) < (d : Int)) = true := by simp; omega
    gi_wp2_with (refine ⟨trivial, ?_⟩; gi_at_call 15; refine (callsIn_wide.2 (HD.out _ HB2.out)).mono ?_; rintro e w1 ⟨rfl, hb1⟩; have hbx := (show Boxed w1 (w.heap.size + 1) 27 _ from (hb1.block _ B1.lt).trans B1); have c1 := hbx.cell; have f1 := hbx.frozen)
    refine ⟨trivial, ?_⟩
    go_at_K
    gi_wp2
    refine ⟨.int .i64 2, ?_, ?_⟩
    · have c2 := (hbx.set (.int .i64 2)).cell
      simp [results, Tryz.f16, go_sem, c2]
    · refine ⟨?_, (HB2.out.trans (hb1.mono HB2.out.size)).setCell (p := ⟨w.heap.size + 1, 0, none⟩) (by show w.heap.size ≤ w.heap.size + 1; omega) _⟩
      unfold checkF; rw [if_pos (.inl (by rw [Hd.out]; exact hd64))]
  · have q1 : decide ((64 : Int) < (d : Int)) = false := by simp; omega
    by_cases hm6 : 65536 < m
    · have q2 : decide ((65536 : Int) < (m : Int)) = true := by simp; omega
      gi_wp2_with (first
        | (refine ⟨trivial, ?_⟩; gi_at_call 15; refine (callsIn_wide.2 (HD.out _ HB2.out)).mono ?_; rintro e w1 ⟨rfl, hb1⟩; have R1 := (show Row5 w1 w.heap.size _ _ _ _ _ from (hb1.block _ R0.lt).trans R0); have k0 := R1.c0; have k1 := R1.c1; have k2 := R1.c2; have k3 := R1.c3; have k4 := R1.c4)
        | (refine ⟨trivial, ?_⟩; gi_at_call 14; refine (callsIn_wide.2 (HC.out _ (HB2.out.trans (hb1.mono HB2.out.size)))).mono ?_; rintro e w2 ⟨rfl, hb2⟩; have hb12 := hb1.trans (hb2.mono hb1.size); have hbx := (show Boxed w2 (w.heap.size + 1) 27 _ from (hb12.block _ B1.lt).trans B1); have c1 := hbx.cell; have f1 := hbx.frozen))
      refine ⟨.int .i64 2, ?_, ?_⟩
      · have c2 := (hbx.set (.int .i64 2)).cell
        simp [results, Tryz.f16, go_sem, c2]
      · refine ⟨?_, (HB2.out.trans (hb12.mono HB2.out.size)).setCell (p := ⟨w.heap.size + 1, 0, none⟩) (by show w.heap.size ≤ w.heap.size + 1; omega) _⟩
        unfold checkF; rw [if_pos (.inr (by rw [Hm.out]; exact hm6))]
    · have q2 : decide ((65536 : Int) < (m : Int)) = false := by simp; omega
      gi_wp2_with (first
        | (refine ⟨trivial, ?_⟩; gi_at_call 15; refine (callsIn_wide.2 (HD.out _ HB2.out)).mono ?_; rintro e w1 ⟨rfl, hb1⟩; have R1 := (show Row5 w1 w.heap.size _ _ _ _ _ from (hb1.block _ R0.lt).trans R0); have k0 := R1.c0; have k1 := R1.c1; have k2 := R1.c2; have k3 := R1.c3; have k4 := R1.c4)
        | (refine ⟨trivial, ?_⟩; gi_at_call 14; refine (callsIn_wide.2 (HC.out _ (HB2.out.trans (hb1.mono HB2.out.size)))).mono ?_; rintro e w2 ⟨rfl, hb2⟩; have hb12 := hb1.trans (hb2.mono hb1.size); have hbx := (show Boxed w2 (w.heap.size + 1) 27 _ from (hb12.block _ B1.lt).trans B1); have R2 := (show Row5 w2 w.heap.size _ _ _ _ _ from (hb12.block _ R0.lt).trans R0); have k0 := R2.c0; have k1 := R2.c1; have k2 := R2.c2; have k3 := R2.c3; have k4 := R2.c4)
        | (refine ⟨trivial, ?_⟩; gi_at_call 32; refine (each_in (n - 1) _ _ _ _ _ _).mono ?_; rintro e w' ⟨rfl, rfl⟩))
      have hB3 := (HB2.out.trans (hb12.mono HB2.out.size)).alloc (HB2.out.trans (hb12.mono HB2.out.size)).size (.cells #[.int .i64 t.f0, .bool t.f1, .int .u64 t.f2, .string t.f3, .slice a t.f4.length c] 25)
      have hq : w.heap.size + 2 ≤ w2.heap.size := by have := hb12.size; simp at this; omega
      have bR := hbx.alloc (.cells #[.int .i64 t.f0, .bool t.f1, .int .u64 t.f2, .string t.f3, .slice a t.f4.length c] 25)
      have bV := Row5.new w2 (.int .i64 t.f0) (.bool t.f1) (.int .u64 t.f2) (.string t.f3) (.slice a t.f4.length c)
      have hsz : (w2.alloc (.cells #[.int .i64 t.f0, .bool t.f1, .int .u64 t.f2, .string t.f3, .slice a t.f4.length c] 25)).heap.size = w2.heap.size + 1 := by simp
      obtain ⟨W0, hW0⟩ : ∃ W0, w2.alloc (.cells #[.int .i64 t.f0, .bool t.f1, .int .u64 t.f2, .string t.f3, .slice a t.f4.length c] 25) = W0 := ⟨_, rfl⟩
      rw [hW0] at bR bV hB3 hsz ⊢
      clear hW0 R0 R1 R2 k0 k1 k2 k3 k4 f1 g1 hb12 hb1 hb2 HB2 HD HC hbx B1
      have hT0 : Tree W0 P t a := tree_keep (fun _ h => h) (fun g hg => hB3.block g (hP g hg)) hT
      refine wpIn_rangeFunc_ownH rfl h1 (gf := 60) (lb := #[.pointer (some ⟨w2.heap.size, 0, none⟩)]) rfl trivial (enters_of Tryz.func60 (by kernel_rfl) rfl)
        (each1_in (n - 1) (by omega) W0 P (2147483648) (fun g h => by have := hP g h; omega) (fun g => False) (fun g h => h.elim) (fun g _ h' => h') (by omega) t a c hT0 hc hb w2.heap.size (fun h => h) bV)
        (fun h h' => h.trans h') (fun W l o o' _ ho hc _ => KeepC.putObj W l o o' ho hc) (Below.refl _ _) (fun _ => rfl)
        (fun pre W => (∀ x ∈ pre, nodeB x.t = true) ∧ Below W0.heap.size W0 W)
        (fun c pre W => ((c = .ret ∧ ∃ x ∈ pre, nodeB x.t = false) ∧ Boxed W (w.heap.size + 1) 27 (.int .i64 9)) ∧ Below w.heap.size w W)
        ?hI ?hIx ?h0
        (fun x a' W => ∃ Bx, w2.heap.size ≤ Bx ∧ Row5 W Bx (.int .i64 x.t.f0) (.bool x.t.f1) (.int .u64 x.t.f2) (.string x.t.f3) (.slice x.a x.t.f4.length x.c) ∧ a' = { tmps := #[.agg #[.int .i64 t.f0, .bool t.f1, .int .u64 t.f2, .string t.f3, .slice a t.f4.length c], .pointer (some ⟨w.heap.size, 0, none⟩), .pointer (some ⟨w.heap.size + 1, 0, none⟩), undef, .pointer (some ⟨Bx, 0, none⟩), .agg #[.int .i64 t.f0, .bool t.f1, .int .u64 t.f2, .string t.f3, .slice a t.f4.length c], .int .i64 d, .bool false, .bool false, .agg #[.int .i64 t.f0, .bool t.f1, .int .u64 t.f2, .string t.f3, .slice a t.f4.length c], .int .i64 m, .bool false, .bool false, .agg #[.int .i64 t.f0, .bool t.f1, .int .u64 t.f2, .string t.f3, .slice a t.f4.length c], .func (.func 60) #[] #[.pointer (some ⟨w2.heap.size, 0, none⟩)], x.path, .agg #[.int .i64 x.t.f0, .bool x.t.f1, .int .u64 x.t.f2, .string x.t.f3, .slice x.a x.t.f4.length x.c], undef, undef, undef, undef, undef, undef, undef, undef, undef, undef, undef, undef, undef], defers := [] })
        (fun x a' _ X Y row hs hg hr => by obtain ⟨Bx, h1, h2, h3⟩ := hs; exact ⟨Bx, h1, row5_own Bx (fun (_ : Unit) => (Value.int .i64 x.t.f0, Value.bool x.t.f1, Value.int .u64 x.t.f2, Value.string x.t.f3, Value.slice x.a x.t.f4.length x.c)) () X Y row h2 hg (fun r e => (hr r e).2), h3⟩)
        ?assign ?body ?done ?stop
      case hI => exact OwnFrom.and (ownFrom_pure _ (fun (pre : List (Node W0 P 2147483648)) => ∀ x ∈ pre, nodeB x.t = true)) (ownFrom_below (Nat.le_refl _) (Nat.le_refl _))
      case hIx =>
        intro cc
        exact OwnFrom.and (OwnFrom.and (ownFrom_pure _ (fun (pre : List (Node W0 P 2147483648)) => cc = .ret ∧ ∃ x ∈ pre, nodeB x.t = false)) (Own.from (boxed_own _ _ (fun _ => .int .i64 9)) _)) (ownFrom_below (Nat.le_refl _) (by omega))
      case h0 => exact ⟨by simp, Below.refl _ _⟩
      case assign =>
        intro l pre x W K hI hK
        dsimp only [encN] at hK ⊢
        gi_wp2
        exact hK _ _ ((KeepsOthers.alloc _ _).from _) (KeepC.of_below ((Below.refl _ W).alloc (Nat.le_refl _) _)) ⟨hI.1, hI.2.alloc hI.2.size _⟩ ⟨W.heap.size, by have := hI.2.size; omega, Row5.new W _ _ _ _ _, by simp⟩
      case body =>
        rintro l pre x a' W hl hr ⟨hall, hbel⟩ ⟨Bx, hBx, bT, rfl⟩ hlt
        have tc0 := bT.c0
        have tc1 := bT.c1
        have tc2 := bT.c2
        have tc3 := bT.c3
        have tc4 := bT.c4
        have hxs := bulk_str x.t
        have hxm := x.small
        have hbR := (hbel.block _ bR.lt).trans bR
        have hbRc : Boxed W (w.heap.size + 1) 27 (.int .i64 0) := hbR
        have hxT : ∀ W', Below W.heap.size W W' → Tree W' P x.t x.a := fun W' h => tree_keep (fun _ h => h) (fun g hg => ((hbel.trans (h.mono hbel.size)).block g (by have := hP g hg; omega))) x.tree
        obtain ⟨o, ho⟩ : ∃ o, oneF x.t.f0 x.t.f1 x.t.f2 x.t.f3 x.t.f4 = o := ⟨_, rfl⟩
        obtain ⟨lf, hlf⟩ : ∃ lf, leafF x.t.f0 = lf := ⟨_, rfl⟩
        have hO : ∀ W', Below W.heap.size W W' → Calls Tryz.prog 34 #[.agg #[.int .i64 x.t.f0, .bool x.t.f1, .int .u64 x.t.f2, .string x.t.f3, .slice x.a x.t.f4.length x.c]] W' (Ret (.bool o) W') := fun W' h => by
          have := one_any x.t x.a x.c W' P (hxT W' h) x.cap (by omega)
          rw [ho] at this
          exact this
        have hLf : ∀ W', Calls Tryz.prog 33 #[.agg #[.int .i64 x.t.f0, .bool x.t.f1, .int .u64 x.t.f2, .string x.t.f3, .slice x.a x.t.f4.length x.c]] W' (Ret (.bool lf) W') := fun W' => by
          have := leaf_any x.t.f0 (.bool x.t.f1) (.int .u64 x.t.f2) (.string x.t.f3) (.slice x.a x.t.f4.length x.c) W'
          rw [hlf] at this
          exact this
        have HO := Lib.hid hO
        have HL := Lib.hid hLf
        have hN : nodeB x.t = (o && !(lf && decide (0 < x.t.f4.length))) := by unfold nodeB; rw [ho, hlf]
        have HN := Lib.hid hN
        clear hO hLf hN ho hlf hxT hbR
        have hgo : ∀ W', Below W.heap.size W W' → nodeB x.t = true → (KeepsFrom W0.heap.size W W' ∧ KeepC (fun g => False) W W' ∧ (∀ y ∈ pre ++ [x], nodeB y.t = true) ∧ Below W0.heap.size W0 W') := fun W' h hn => ⟨(keepsOthers_below h).from _, KeepC.of_below h, (fun y hy => by rcases List.mem_append.1 hy with hy | hy; exact hall y hy; rw [List.mem_singleton] at hy; subst hy; exact hn), hbel.trans (h.mono hbel.size)⟩
        have hst : ∀ W', Below W.heap.size W W' → nodeB x.t = false → (KeepsFrom W0.heap.size W (W'.setCell ⟨w.heap.size + 1, 0, none⟩ (.int .i64 9)) ∧ ((∃ y ∈ pre ++ [x], nodeB y.t = false) ∧ Boxed (W'.setCell ⟨w.heap.size + 1, 0, none⟩ (.int .i64 9)) (w.heap.size + 1) 27 (.int .i64 9)) ∧ Below w.heap.size w (W'.setCell ⟨w.heap.size + 1, 0, none⟩ (.int .i64 9))) := fun W' h hn =>
          ⟨((keepsOthers_below h).trans (KeepsOthers.setCell _ _ _)).from _, ⟨⟨x, by simp, hn⟩, Boxed.set _ ((h.block _ hbRc.lt).trans hbRc)⟩, ((hB3.trans (hbel.mono hB3.size)).trans (h.mono (by have := hB3.size; have := hbel.size; omega))).setCell (p := ⟨w.heap.size + 1, 0, none⟩) (by show w.heap.size ≤ w.heap.size + 1; omega) _⟩
        have Hgo := Lib.hid hgo
        have Hst := Lib.hid hst
        clear hgo hst hall
        cases o
        · gi_wp2_with (first | (refine ⟨trivial, (fun h => by cases h), ?_⟩; refine ((callsIn_wide.2 (HO.out _ (Below.refl _ _))).inRound l).mono ?_; rintro e w3 ⟨rfl, hb3⟩; have hq3 := (show Boxed w3 _ _ _ from (hb3.block _ hbRc.lt).trans hbRc); have c1 := hq3.cell; have f1 := hq3.frozen; have T3 := (show Row5 w3 Bx _ _ _ _ _ from (hb3.block _ bT.lt).trans bT); have tc0 := T3.c0; have tc1 := T3.c1; have tc2 := T3.c2; have tc3 := T3.c3; have tc4 := T3.c4))
          refine ⟨trivial, ?_⟩
          go_at_K
          gi_wp2_with (refine wpListIn_skip rfl rfl ?_)
          obtain ⟨q1, ⟨q2, q3⟩, q4⟩ := Hst.out _ hb3 (by rw [HN.out]; rfl)
          exact ⟨q1, ⟨⟨rfl, q2⟩, q3⟩, q4⟩
        · cases lf
          · gi_wp2_with (first | (refine ⟨trivial, (fun h => by cases h), ?_⟩; refine ((callsIn_wide.2 (HO.out _ (Below.refl _ _))).inRound l).mono ?_; rintro e w3 ⟨rfl, hb3⟩; have hq3 := (show Boxed w3 _ _ _ from (hb3.block _ hbRc.lt).trans hbRc); have c1 := hq3.cell; have f1 := hq3.frozen; have T3 := (show Row5 w3 Bx _ _ _ _ _ from (hb3.block _ bT.lt).trans bT); have tc0 := T3.c0; have tc1 := T3.c1; have tc2 := T3.c2; have tc3 := T3.c3; have tc4 := T3.c4) | (refine ⟨trivial, (fun h => by cases h), ?_⟩; refine ((callsIn_wide.2 (HL.out _)).inRound l).mono ?_; rintro e w4 ⟨rfl, hb4⟩; have hb34 := hb3.trans (hb4.mono hb3.size); have hq4 := (show Boxed w4 _ _ _ from (hb34.block _ hbRc.lt).trans hbRc); have c1 := hq4.cell; have f1 := hq4.frozen; have T4 := (show Row5 w4 Bx _ _ _ _ _ from (hb34.block _ bT.lt).trans bT); have tc4 := T4.c4))
            exact Hgo.out _ hb34 (by rw [HN.out]; rfl)
          · by_cases hx0 : 0 < x.t.f4.length
            · have q3 : decide ((0 : Int) < (x.t.f4.length : Int)) = true := by simpa using hx0
              gi_wp2_with (first | (refine ⟨trivial, (fun h => by cases h), ?_⟩; refine ((callsIn_wide.2 (HO.out _ (Below.refl _ _))).inRound l).mono ?_; rintro e w3 ⟨rfl, hb3⟩; have hq3 := (show Boxed w3 _ _ _ from (hb3.block _ hbRc.lt).trans hbRc); have c1 := hq3.cell; have f1 := hq3.frozen; have T3 := (show Row5 w3 Bx _ _ _ _ _ from (hb3.block _ bT.lt).trans bT); have tc0 := T3.c0; have tc1 := T3.c1; have tc2 := T3.c2; have tc3 := T3.c3; have tc4 := T3.c4) | (refine ⟨trivial, (fun h => by cases h), ?_⟩; refine ((callsIn_wide.2 (HL.out _)).inRound l).mono ?_; rintro e w4 ⟨rfl, hb4⟩; have hb34 := hb3.trans (hb4.mono hb3.size); have hq4 := (show Boxed w4 _ _ _ from (hb34.block _ hbRc.lt).trans hbRc); have c1 := hq4.cell; have f1 := hq4.frozen; have T4 := (show Row5 w4 Bx _ _ _ _ _ from (hb34.block _ bT.lt).trans bT); have tc4 := T4.c4))
              obtain ⟨q1, ⟨q2, q3⟩, q4⟩ := Hst.out _ hb34 (by rw [HN.out]; simp [hx0])
              exact ⟨q1, ⟨⟨rfl, q2⟩, q3⟩, q4⟩
            · have q3 : decide ((0 : Int) < (x.t.f4.length : Int)) = false := by simpa using hx0
              gi_wp2_with (first | (refine ⟨trivial, (fun h => by cases h), ?_⟩; refine ((callsIn_wide.2 (HO.out _ (Below.refl _ _))).inRound l).mono ?_; rintro e w3 ⟨rfl, hb3⟩; have hq3 := (show Boxed w3 _ _ _ from (hb3.block _ hbRc.lt).trans hbRc); have c1 := hq3.cell; have f1 := hq3.frozen; have T3 := (show Row5 w3 Bx _ _ _ _ _ from (hb3.block _ bT.lt).trans bT); have tc0 := T3.c0; have tc1 := T3.c1; have tc2 := T3.c2; have tc3 := T3.c3; have tc4 := T3.c4) | (refine ⟨trivial, (fun h => by cases h), ?_⟩; refine ((callsIn_wide.2 (HL.out _)).inRound l).mono ?_; rintro e w4 ⟨rfl, hb4⟩; have hb34 := hb3.trans (hb4.mono hb3.size); have hq4 := (show Boxed w4 _ _ _ from (hb34.block _ hbRc.lt).trans hbRc); have c1 := hq4.cell; have f1 := hq4.frozen; have T4 := (show Row5 w4 Bx _ _ _ _ _ from (hb34.block _ bT.lt).trans bT); have tc4 := T4.c4))
              exact Hgo.out _ hb34 (by rw [HN.out]; simp [hx0])
      case done =>
        rintro D ys W hD hys ⟨hall, hbel⟩ hK
        have hbR := (show Boxed W (w.heap.size + 1) 27 (.int .i64 0) from (hbel.block _ bR.lt).trans bR)
        have c1 := hbR.cell
        have f1 := hbR.frozen
        have kR := ((hbR.set (.int .i64 0)).kept (grownBy_putObj' _ D (.deferred none)) (by intro h; cases h; omega)).cell
        have hK2 : (W.setCell ⟨w.heap.size + 1, 0, none⟩ (.int .i64 0)).heap[D]? = some (.deferred (some [])) := (Below.heap_setCell _ _ _ D (fun e => by have : D = w.heap.size + 1 := e; omega)).trans hK
        gi_wp2
        refine ⟨by simp, .inl ⟨_, _, rfl, run_takeDeferred hK2, ?_⟩⟩
        refine ⟨.int .i64 0, by simp [results, Tryz.f16, go_sem, kR], ?_, ?_⟩
        · have : checkF t = 0 := by
            unfold checkF
            rw [if_neg (by rw [Hd.out, Hm.out]; omega), if_pos]
            refine List.all_eq_true.2 fun y hy => ?_
            rw [← hys] at hy
            obtain ⟨x, hx, rfl⟩ := List.mem_map.1 hy
            exact hall x hx
          rw [this]
        · exact ((hB3.trans (hbel.mono hB3.size)).setCell (p := ⟨w.heap.size + 1, 0, none⟩) (by show w.heap.size ≤ w.heap.size + 1; omega) _).trans (belowK_b (w := w) (Nat.le_refl _) _ D _ _ (by omega) hK2 rfl rfl)
      case stop =>
        rintro D cc pre W hD hpre ⟨⟨⟨rfl, x, hx, hxn⟩, hbR⟩, hbel⟩ hK
        have kR := (hbR.kept (grownBy_putObj' _ D (.deferred none)) (by intro h; cases h; omega)).cell
        gi_wp2
        refine ⟨by simp, .inl ⟨_, _, rfl, run_takeDeferred hK, ?_⟩⟩
        refine ⟨.int .i64 9, by simp [results, Tryz.f16, go_sem, kR], ?_, ?_⟩
        · have : checkF t = 9 := by
            unfold checkF
            rw [if_neg (by rw [Hd.out, Hm.out]; omega), if_neg]
            intro hall
            have h1 : x.t ∈ preF t := hpre.subset (List.mem_map_of_mem hx)
            have := List.all_eq_true.1 hall _ h1
            rw [hxn] at this; cases this
          rw [this]
        · exact hbel.trans (belowK_b (w := w) (Nat.le_refl _) _ D _ _ (by omega) hK rfl rfl)
theorem checkT_any (t : T) (a : Option Addr) (c : Nat) (w : World) (P : Nat → Prop) (hP : ∀ g, P g → g < w.heap.size) (hT : Tree w P t a) (hc : t.f4.length ≤ c) (hb : bulk t ≤ 2147483648) :
    Calls Tryz.prog 16 #[.agg #[.int .i64 t.f0, .bool t.f1, .int .u64 t.f2, .string t.f3, .slice a t.f4.length c]] w (Ret (.int .i64 (checkF t)) w) :=
  callsIn_wide.1 (checkT_in 8 (Nat.le_refl _) t a c w P hP hT hc hb)
end Go.Proofs.YtfmceonbejlhlaaGreatDoor

/-
  cbor's Encode.
-/
namespace Go.Proofs.YtfmceonbejlhlaaGreatDoor
open Go.RowKit Go.Shelf Go.Proofs.YtfmceonbejlhlaaGreatDoorW.PrintWords Go.Proofs.YtfmceonbejlhlaaGreatDoorW.PrintLast Go.Proofs.YtfmceonbejlhlaaGreatDoorW.PrintMore
set_option linter.unusedVariables false

/-- A block that is known whole. -/
def Blk (w : World) (g : Nat) (t : TypeId) (cs : Array Value) : Prop := w.heap[g]? = some (.cells cs t (0, 0))
section
variable {w w' : World} {g : Nat} {t : TypeId} {cs : Array Value}
theorem Blk.lt (h : Blk w g t cs) : g < w.heap.size := (Array.getElem?_eq_some_iff.1 h).1
theorem Blk.cell (h : Blk w g t cs) {i : Nat} {v : Value} (hi : cs[i]? = some v) : w.cell? ⟨g, i, none⟩ = some v := (cell_of_row w g i cs t (0, 0) h).trans hi
theorem Blk.frozen (h : Blk w g t cs) (i : Nat) : w.frozen? ⟨g, i, none⟩ = false := frozen_of_row w g i _ _ h
theorem Blk.new (w : World) (t : TypeId) (cs : Array Value) : Blk (w.alloc (.cells cs t)) w.heap.size t cs := heap_alloc_new w _
theorem Blk.alloc (h : Blk w g t cs) (o : Obj) : Blk (w.alloc o) g t cs := (Below.heap_alloc w o g h.lt).trans h
theorem Blk.set_ (h : Blk w g t cs) (i : Nat) (u : Value) : Blk (w.setCell ⟨g, i, none⟩ u) g t (cs.setIfInBounds i u) := by
  unfold Blk at h ⊢
  simp [World.setCell, Array.getElem?_modify, h]
theorem Blk.far (h : Blk w g t cs) {p : Addr} (hp : g ≠ p.block) (u : Value) : Blk (w.setCell p u) g t cs := (Below.heap_setCell w p u g hp).trans h
theorem Blk.below {B : Nat} (h : Blk w g t cs) (hb : Below B w w') (hg : g < B) : Blk w' g t cs := (hb.block g hg).trans h
theorem Blk.grown {row : Option Nat} (h : Blk w g t cs) (hb : w.grownBy w' row) (hg : some g ≠ row) : Blk w' g t cs := (hb.block g h.lt hg).trans h
end
theorem rt_of_nodes : ∀ t : T, (preF t).all nodeB = true → Rt t := by
  intro t
  induction t using T.ind with
  | h k neg n s l ih =>
    intro h
    simp only [preF, List.all_cons, Bool.and_eq_true] at h
    obtain ⟨h1, h2⟩ := h
    unfold nodeB at h1
    simp only [Bool.and_eq_true, Bool.not_eq_true', Bool.and_eq_false_iff, decide_eq_false_iff_not] at h1
    refine ⟨⟨h1.1, fun hl => ?_⟩, ?_⟩
    · rcases h1.2 with h | h
      · rw [hl] at h; cases h
      · exact List.eq_nil_of_length_eq_zero (by omega)
    · clear h1
      have : ∀ r : List T, (∀ t ∈ r, t ∈ l) → (preL r).all nodeB = true → RtL r := by
        intro r
        induction r with
        | nil => intro _ _; trivial
        | cons x r ih2 =>
          intro hm h
          simp only [preL, List.all_append, Bool.and_eq_true] at h
          exact ⟨ih x (hm x (List.mem_cons_self ..)) h.1, ih2 (fun t ht => hm t (List.mem_cons_of_mem _ ht)) h.2⟩
      exact this l (fun t h => h) h2
theorem rt_of_check {t : T} (h : checkF t = 0) : Rt t := by
  unfold checkF at h
  split at h
  · cases h
  · split at h
    · exact rt_of_nodes t (by assumption)
    · cases h
/-- Encode's error. -/
def encE (t : T) : Int := if checkF t ≠ 0 then checkF t else if saysF t then 0 else 10
/-- What Encode tells: the bytes, the error. -/
def EncPost (op : Bool) (t : T) (w : World) (e : Ending) (w' : World) : Prop := ∃ v, e = .returned (.tuple #[v, .int .i64 (encE t)]) ∧ Below w.heap.size w w' ∧ (encE t ≠ 0 → v = .slice none 0 0) ∧ (encE t = 0 → w'.ownsRow w.heap.size 5 1 v (itemF op t).length ((itemF op t).map (Value.int .u8)))

set_option maxRecDepth 100000 in
set_option maxHeartbeats 8000000 in
theorem encode_any (op : Bool) (t : T) (a : Option Addr) (c : Nat) (w : World) (P : Nat → Prop) (hP : ∀ g, P g → g < w.heap.size) (hT : Tree w P t a) (hc : t.f4.length ≤ c) (hwf : Wf t) (hb : bulk t ≤ 2147483648) :
    Calls Tryz.prog 5 #[.agg #[.int .i64 t.f0, .bool t.f1, .int .u64 t.f2, .string t.f3, .slice a t.f4.length c], .agg #[.bool op, .int .i64 0, .bool false]] w (EncPost op t w) := by
  have R0 := ((Row5.new w (.int .i64 t.f0) (.bool t.f1) (.int .u64 t.f2) (.string t.f3) (.slice a t.f4.length c)).alloc (.cells #[.bool op, .int .i64 0, .bool false] 31))
  have k0 := R0.c0
  have k1 := R0.c1
  have k2 := R0.c2
  have k3 := R0.c3
  have k4 := R0.c4
  obtain ⟨m, hm⟩ : ∃ m, checkF t = m := ⟨_, rfl⟩
  obtain ⟨sy, hsy⟩ : ∃ m, saysF t = m := ⟨_, rfl⟩
  have hTW : ∀ W, Below w.heap.size w W → Tree W P t a := fun W h => tree_keep (fun _ h => h) (fun g hg => h.block g (hP g hg)) hT
  have hChk : ∀ W, Below w.heap.size w W → Calls Tryz.prog 16 #[.agg #[.int .i64 t.f0, .bool t.f1, .int .u64 t.f2, .string t.f3, .slice a t.f4.length c]] W (Ret (.int .i64 m) W) := fun W h => by
    have := checkT_any t a c W P (fun g hg => Nat.lt_of_lt_of_le (hP g hg) h.size) (hTW W h) hc hb
    rw [hm] at this
    exact this
  have hSay : ∀ W, Below w.heap.size w W → Calls Tryz.prog 17 #[.agg #[.int .i64 t.f0, .bool t.f1, .int .u64 t.f2, .string t.f3, .slice a t.f4.length c]] W (Ret (.bool sy) W) := fun W h => by
    have := says_any t a c W P (fun g hg => Nat.lt_of_lt_of_le (hP g hg) h.size) (hTW W h) (by omega)
    rw [hsy] at this
    exact this
  have hIt : m = 0 → ∀ (p : Nat) W, Below w.heap.size w W → WrIs W w.heap.size p op [] → Calls Tryz.prog 18 #[.pointer (some ⟨p, 0, none⟩), .agg #[.int .i64 t.f0, .bool t.f1, .int .u64 t.f2, .string t.f3, .slice a t.f4.length c]] W (WrPost w.heap.size p op (itemF op t) W) := fun h0 p W h hw => by
    have := item_any op w.heap.size p P hP t a c W (hTW W h) hc (rt_of_check (by rw [hm]; exact h0)) hwf h.size [] W (Below.refl _ _) h.size (by simp; omega) hw
    rw [List.nil_append] at this
    exact this
  have HC := Lib.hid hChk
  have HS := Lib.hid hSay
  have HI := Lib.hid hIt
  have HE : Hid (encE t = if m ≠ 0 then m else if sy then 0 else 10) := Lib.hid (by unfold encE; rw [hm, hsy])
  clear hChk hSay hIt hTW hm hsy
  have B1 := Blk.new (w.alloc (.cells #[.int .i64 t.f0, .bool t.f1, .int .u64 t.f2, .string t.f3, .slice a t.f4.length c] 25)) 31 #[.bool op, .int .i64 0, .bool false]
  rw [World.size_alloc] at B1
  have HB2 := Lib.hid (((Below.refl _ w).alloc (Nat.le_refl _) (.cells #[.int .i64 t.f0, .bool t.f1, .int .u64 t.f2, .string t.f3, .slice a t.f4.length c] 25)).alloc (by simp) (.cells #[.bool op, .int .i64 0, .bool false] 31))
  go_enter Tryz.func5, Tryz.ntmps5
  by_cases h0 : m = 0
  · subst h0
    have HI2 := Lib.hid (HI.out rfl)
    clear HI
    cases sy
    · go_wp2_with (first
        | (go_at_call 16; refine (HC.out _ HB2.out).mono ?_; rintro e w1 ⟨rfl, hb1⟩; have R1 := (show Row5 w1 w.heap.size _ _ _ _ _ from (hb1.block _ R0.lt).trans R0); have k0 := R1.c0; have k1 := R1.c1; have k2 := R1.c2; have k3 := R1.c3; have k4 := R1.c4)
        | (go_at_call 17; refine (HS.out _ (HB2.out.trans (hb1.mono HB2.out.size))).mono ?_; rintro e w2 ⟨rfl, hb2⟩; have hb12 := hb1.trans (hb2.mono hb1.size); have B2 := B1.below hb12 B1.lt; have b0 := B2.cell (i := 0) rfl; have b1 := B2.cell (i := 1) rfl; have b2 := B2.cell (i := 2) rfl; have R2 := (show Row5 w2 w.heap.size _ _ _ _ _ from (hb12.block _ R0.lt).trans R0); have R3 := R2.alloc (.cells #[.slice none 0 0, .bool op, .int .i64 0, .bool false] 52); have k0 := R3.c0; have k1 := R3.c1; have k2 := R3.c2; have k3 := R3.c3; have k4 := R3.c4; have hbw := HB2.out.trans (hb12.mono HB2.out.size); have hbw3 := hbw.alloc hbw.size (.cells #[.slice none 0 0, .bool op, .int .i64 0, .bool false] 52); have hW := (⟨_, heap_alloc_new w2 _, World.ownsRow_nil _ _ _ _, hbw.size⟩ : WrIs (w2.alloc (.cells #[.slice none 0 0, .bool op, .int .i64 0, .bool false] 52)) w.heap.size w2.heap.size op []))
        | (go_at_call 18; refine (HI2.out _ _ hbw3 hW).mono ?_; rintro e w3 ⟨rfl, ⟨v, hv, hrow, hp⟩, hwr⟩; have c0 := hv.c0))
      refine bodyPost_ret (v := .tuple #[.slice none 0 0, .int .i64 10]) (by simp [results, Tryz.results5, go_sem]) rfl ?_
      exact ⟨_, by rw [HE.out]; rfl, HB2.out.trans ((hb1.trans (hb2.mono hb1.size)).mono HB2.out.size), fun _ => rfl, fun h => by rw [HE.out] at h; simp at h⟩
    · go_wp2_with (first
        | (go_at_call 16; refine (HC.out _ HB2.out).mono ?_; rintro e w1 ⟨rfl, hb1⟩; have R1 := (show Row5 w1 w.heap.size _ _ _ _ _ from (hb1.block _ R0.lt).trans R0); have k0 := R1.c0; have k1 := R1.c1; have k2 := R1.c2; have k3 := R1.c3; have k4 := R1.c4)
        | (go_at_call 17; refine (HS.out _ (HB2.out.trans (hb1.mono HB2.out.size))).mono ?_; rintro e w2 ⟨rfl, hb2⟩; have hb12 := hb1.trans (hb2.mono hb1.size); have B2 := B1.below hb12 B1.lt; have b0 := B2.cell (i := 0) rfl; have b1 := B2.cell (i := 1) rfl; have b2 := B2.cell (i := 2) rfl; have R2 := (show Row5 w2 w.heap.size _ _ _ _ _ from (hb12.block _ R0.lt).trans R0); have R3 := R2.alloc (.cells #[.slice none 0 0, .bool op, .int .i64 0, .bool false] 52); have k0 := R3.c0; have k1 := R3.c1; have k2 := R3.c2; have k3 := R3.c3; have k4 := R3.c4; have hbw := HB2.out.trans (hb12.mono HB2.out.size); have hbw3 := hbw.alloc hbw.size (.cells #[.slice none 0 0, .bool op, .int .i64 0, .bool false] 52); have hW := (⟨_, heap_alloc_new w2 _, World.ownsRow_nil _ _ _ _, hbw.size⟩ : WrIs (w2.alloc (.cells #[.slice none 0 0, .bool op, .int .i64 0, .bool false] 52)) w.heap.size w2.heap.size op []))
        | (go_at_call 18; refine (HI2.out _ _ hbw3 hW).mono ?_; rintro e w3 ⟨rfl, ⟨v, hv, hrow, hp⟩, hwr⟩; have c0 := hv.c0))
      refine bodyPost_ret (v := .tuple #[v, .int .i64 0]) (by simp [results, Tryz.results5, go_sem]) rfl ?_
      have he : encE t = 0 := by rw [HE.out]; rfl
      exact ⟨v, by rw [he], hbw3.trans hwr.1, fun h => absurd he h, fun _ => hrow⟩
  · have hmb : (m != 0) = true := by simpa using h0
    go_wp2_with (go_at_call 16; refine (HC.out _ HB2.out).mono ?_; rintro e w1 ⟨rfl, hb1⟩)
    refine bodyPost_ret (v := .tuple #[.slice none 0 0, .int .i64 m]) (by simp [results, Tryz.results5, go_sem]) rfl ?_
    have he : encE t = m := by rw [HE.out, if_pos h0]
    exact ⟨_, by rw [he], HB2.out.trans (hb1.mono HB2.out.size), fun _ => rfl, fun h => absurd (he.symm.trans h) h0⟩
end Go.Proofs.YtfmceonbejlhlaaGreatDoor
