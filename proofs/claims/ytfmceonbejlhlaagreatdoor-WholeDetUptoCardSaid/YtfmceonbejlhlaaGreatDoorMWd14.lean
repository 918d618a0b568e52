import Derived.Deep.QuietTactic
import Derived.Deep.RegionWith
import Derived.Laws.BitsLemmas
import Derived.OwnWalk
import Derived.Laws.OwnMore
import Derived.RegionTactic
import Derived.Test.YtfmceonbejlhlaaGreatDoorMWd3
import Derived.Test.YtfmceonbejlhlaaGreatDoorMWd4
/-
  A region that draws its order, that only reads, and whose callees read and may lay blocks: walked once.
-/
namespace Go.Proofs.YtfmceonbejlhlaaGreatDoor
open Go.RowKit
set_option linter.unusedVariables false

/-- A world that has grown out of another one. -/
structure Gb (w : World) where
  wd : World
  below : Below w.heap.size w wd
instance (w : World) : Inhabited (Gb w) := ⟨⟨w, Below.refl _ w⟩⟩
theorem wp_region_below {P : Program} {id : Nat} {Q : Exit → Act → World → Prop} {a : Act} {w : World} {l : List Oper} (hm : P.follows .mixedOrders = true) (hB : Region.lexB .any l.toArray = true)
    (h : wpQuiet P l.toArray (fun w' => ∃ p : Gb w, w' = p.wd) (fun a' => ∀ w', (∃ p : Gb w, w' = p.wd) → Q .normal a' w') l a) : (Code.region id l.toArray true).wp P Q a w :=
  wp_region_quiet (C := fun w' => ∃ p : Gb w, w' = p.wd) hm hB ⟨⟨w.drew, (Below.refl _ w).drew⟩, rfl⟩ (by simpa using h)
theorem Calls.gb_of {P : Program} {f : FuncId} {args : Array Value} {w : World} {p : Gb w} {v : Value} (h : Calls P f args p.wd (Ret v p.wd)) : Calls P f args p.wd fun e w'' => e = .returned v ∧ ∃ p' : Gb w, w'' = p'.wd :=
  h.mono fun e w' ⟨he, hb⟩ => ⟨he, ⟨w', p.below.trans (hb.mono p.below.size)⟩, rfl⟩
theorem Gb.cell {w : World} (p : Gb w) {a : Addr} {v : Value} (h : w.cell? a = some v) : p.wd.cell? a = some v := (p.below.cell (block_lt_of_cell h)).trans h
end Go.Proofs.YtfmceonbejlhlaaGreatDoor

-- Written by a program of this session (joint.sh) out of the translation. Not trusted: Lean checks it.
namespace Go.Proofs.YtfmceonbejlhlaaGreatDoor.P
open Go.RowKit Go.Proofs.YtfmceonbejlhlaaGreatDoorW.PrintWords Go.Proofs.YtfmceonbejlhlaaGreatDoorW.PrintLast Go.Proofs.YtfmceonbejlhlaaGreatDoorW.PrintMore
attribute [local go_sem] max2_int min2_int max_two min_two max_three min_three max_four min_four   -- for this text's walks alone
set_option linter.unusedVariables false
set_option linter.unusedSimpArgs false

/-! ### fbits_width_top: function 99 -/
def fbits_width_top.f (a0_0 : Int) (a0_1 : Int) (a0_2 : Int) : Option (Int) := if 0 ≤ a0_1 then (some (wrap64 ((shl .i64 1 a0_1) - 1))) else (none)
set_option maxHeartbeats 8000000 in
set_option maxRecDepth 100000 in
theorem fbits_width_top.calls (a0_0 : Int) (a0_1 : Int) (a0_2 : Int) (r : Int) (w : World) (h : fbits_width_top.f a0_0 a0_1 a0_2 = some r) :
    Calls Tryz.prog 99 #[.agg #[.int .i64 a0_0, .int .i64 a0_1, .int .i64 a0_2]] w fun e w' => e = .returned (.int .i64 r) ∧ Below w.heap.size w w' := by
  have hu168 := Tryz.underlying168
  have HB := Aside0.mk (Below.refl w.heap.size w)
  have H : (if 0 ≤ a0_1 then (some (wrap64 ((shl .i64 1 a0_1) - 1))) else (none)) = some r := h
  clear h
  by_cases c2 : 0 ≤ a0_1
  · rw [if_pos c2] at H
    have c2b0 := eq_true c2
    have c2b1 : decide (0 ≤ a0_1) = true := decide_eq_true c2
    clear c2
    obtain ⟨ji3, hji3⟩ : ∃ j_ : Int, (shl .i64 1 a0_1) = j_ := ⟨_, rfl⟩
    replace H : (some (wrap64 ((ji3) - 1))) = some r := by first | (rw [hji3] at H; exact H) | (simp only [hji3] at H ⊢; exact H)
    have hji3_ : (IntKind.i64.wrap (1 * 2 ^ min a0_1.toNat 64)) = ji3 := hji3
    have hji3z : a0_1 ≤ 64 → (IntKind.i64.wrap (1 * 2 ^ a0_1.toNat)) = ji3 := shl_small hji3
    have hji3u : (IntKind.i64.wrap (2 ^ min a0_1.toNat 64)) = ji3 := by have h_ := hji3_; rw [Int.one_mul] at h_; exact h_
    have hji3v : a0_1 ≤ 64 → (IntKind.i64.wrap (2 ^ a0_1.toNat)) = ji3 := fun hle_ => by have h_ := hji3z hle_; rw [Int.one_mul] at h_; exact h_
    have hji3y : (wrap64 (1 * 2 ^ min a0_1.toNat 64)) = ji3 := (i64_w _).symm.trans hji3_
    have hji3x : a0_1 ≤ 64 → (wrap64 (1 * 2 ^ a0_1.toNat)) = ji3 := fun h_ => (i64_w _).symm.trans (hji3z h_)
    obtain rfl := Option.some.inj H
    go_enter Tryz.func99, Tryz.ntmps99
    go_wp2_with (first | ((with_reducible refine gate_dst (N := 1) rfl ?_); refine box_event ?hg (N := 1) ?hd (cs := #[.int .i64 a0_0, .int .i64 a0_1, .int .i64 a0_2]) (t := 168) ?hr ?_; (case hd => rfl); (case hg => rfl); (case hr => first | (go_simp; done) | (go_simp; rfl)); intro gb158 hg w4 hbox hb; have n0_ := Aside0.mk (below_step (by repeat (first | (with_reducible first | exact HB.out | apply below_alloc | apply pw_below_drewN | apply below_drew1) | exact HB.out)) hb); have n1_ := Aside0.mk (hbox); have n2_ := Aside0.mk ((by rw [hg]; exact (below_size (by repeat (first | (with_reducible first | exact HB.out | apply below_alloc | apply pw_below_drewN | apply below_drew1) | exact HB.out))) : w.heap.size ≤ gb158)); have n3_ := Aside0.mk ((by rw [hg]; exact (below_size (by repeat (first | (with_reducible first | exact HB.out | apply below_alloc | apply pw_below_drewN | apply below_drew1) | exact HB.out))) : w.heap.size ≤ gb158)); clear HB; have HB := n0_; have BK158 := n1_; have GW158 := n2_; have GE158 := n3_; clear n0_ n1_ n2_ n3_; clear hb hbox hg; have hcz5_0 : w4.cell? ⟨gb158, 0, none⟩ = some (.int .i64 a0_0) := (blk_cell BK158.out 0).trans rfl; have hcz5_1 : w4.cell? ⟨gb158, 1, none⟩ = some (.int .i64 a0_1) := (blk_cell BK158.out 1).trans rfl; have hcz5_2 : w4.cell? ⟨gb158, 2, none⟩ = some (.int .i64 a0_2) := (blk_cell BK158.out 2).trans rfl; have hfz5_0 := blk_frozen BK158.out 0; have hfz5_1 := blk_frozen BK158.out 1; have hfz5_2 := blk_frozen BK158.out 2))
    go_ret
    exact ⟨by first | rfl | (simp [errW_none, errW_some] <;> rfl) | (simp only [← hji3]; first | rfl | (simp [errW_none, errW_some] <;> rfl)) | (simp [*, errW_none, errW_some] <;> rfl), by repeat (first | (with_reducible first | exact HB.out | apply below_alloc | apply pw_below_drewN | apply below_drew1 | refine below_set ?_ GE158.out) | exact HB.out)⟩
  · rw [if_neg c2] at H
    exact absurd H (by simp)

end Go.Proofs.YtfmceonbejlhlaaGreatDoor.P

-- Written by a program of this session (joint.sh) out of the translation. Not trusted: Lean checks it.
namespace Go.Proofs.YtfmceonbejlhlaaGreatDoor.P
open Go.RowKit Go.Proofs.YtfmceonbejlhlaaGreatDoorW.PrintWords Go.Proofs.YtfmceonbejlhlaaGreatDoorW.PrintLast Go.Proofs.YtfmceonbejlhlaaGreatDoorW.PrintMore
attribute [local go_sem] max2_int min2_int max_two min_two max_three min_three max_four min_four   -- for this text's walks alone
set_option linter.unusedVariables false
set_option linter.unusedSimpArgs false

/-! ### fbits_width_split: function 93 -/
def fbits_width_split.f (a0_0 : Int) (a0_1 : Int) (a0_2 : Int) (a1 : Int) : Option (Bool × Int × Int) := if 0 ≤ (wrap64 (a0_0 - 1)) then (if 0 ≤ a0_2 then ((fbits_width_top.f a0_0 a0_1 a0_2).bind fun t161 => (some (((shr .u64 a1 (wrap64 (a0_0 - 1))) == 1), Go.bits .and .i64 (wrap64 (shr .u64 a1 a0_2)) t161, Go.bits .and .u64 a1 (IntKind.u64.wrap ((shl .u64 1 a0_2) - 1))))) else (none)) else (none)
def fbits_width_split.T1 : Bool × List (List Nat × List Nat) := (true, [([], []), ([], []), ([1], [1]), ([2], [2]), ([0, 3], [0, 3]), ([4], [4]), ([], []), ([], []), ([7], [7]), ([6, 8], [6, 8]), ([9], [9]), ([], []), ([11], [11]), ([10, 12], [10, 12]), ([], []), ([], []), ([15], [15]), ([16], [16]), ([17], [17]), ([14, 18], [14, 18]), ([5, 13, 19], [5, 13, 19]), ([20, 12, 0, 1, 2, 3, 4, 5, 6, 7, 8, 9, 10, 11, 12, 13, 14, 15, 16, 17, 18, 19, 20], [20])])
def fbits_width_split.B1 : List Nat := [0, 0, 2, 6, 15, 31, 0, 0, 128, 448, 960, 0, 2048, 8128, 0, 0, 32768, 98304, 229376, 507904, 1048575, 2097151]
theorem fbits_width_split.tab1 : rtab .any (opsOf Tryz.f93 1) = fbits_width_split.T1 := by kernel_rfl
theorem fbits_width_split.bits1 : waitsOk fbits_width_split.T1.2 fbits_width_split.B1 = true := by kernel_rfl
set_option maxHeartbeats 8000000 in
set_option maxRecDepth 100000 in
theorem fbits_width_split.calls (a0_0 : Int) (a0_1 : Int) (a0_2 : Int) (a1 : Int) (r1 : Bool) (r2 : Int) (r3 : Int) (w : World) (h : fbits_width_split.f a0_0 a0_1 a0_2 a1 = some (r1, r2, r3)) :
    Calls Tryz.prog 93 #[.agg #[.int .i64 a0_0, .int .i64 a0_1, .int .i64 a0_2], .int .u64 a1] w fun e w' => e = .returned (.agg #[.bool r1, .int .i64 r2, .int .u64 r3]) ∧ Below w.heap.size w w' := by
  have hu168 := Tryz.underlying168
  have hu172 := Tryz.underlying172
  have HB := Aside0.mk (Below.refl w.heap.size w)
  have H : (if 0 ≤ (wrap64 (a0_0 - 1)) then (if 0 ≤ a0_2 then ((fbits_width_top.f a0_0 a0_1 a0_2).bind fun t161 => (some (((shr .u64 a1 (wrap64 (a0_0 - 1))) == 1), Go.bits .and .i64 (wrap64 (shr .u64 a1 a0_2)) t161, Go.bits .and .u64 a1 (IntKind.u64.wrap ((shl .u64 1 a0_2) - 1))))) else (none)) else (none)) = some (r1, r2, r3) := h
  clear h
  obtain ⟨ji3, hji3⟩ : ∃ j_ : Int, (wrap64 (a0_0 - 1)) = j_ := ⟨_, rfl⟩
  replace H : (if 0 ≤ (ji3) then (if 0 ≤ a0_2 then ((fbits_width_top.f a0_0 a0_1 a0_2).bind fun t161 => (some (((shr .u64 a1 (ji3)) == 1), Go.bits .and .i64 (wrap64 (shr .u64 a1 a0_2)) t161, Go.bits .and .u64 a1 (IntKind.u64.wrap ((shl .u64 1 a0_2) - 1))))) else (none)) else (none)) = some (r1, r2, r3) := by first | (rw [hji3] at H; exact H) | (simp only [hji3] at H ⊢; exact H)
  have hji3w : (IntKind.i64.wrap (a0_0 - 1)) = ji3 := (i64_w _).trans hji3
  by_cases c4 : 0 ≤ (ji3)
  · rw [if_pos c4] at H
    have c4b0 := eq_true c4
    have c4b1 : decide (0 ≤ (ji3)) = true := decide_eq_true c4
    clear c4
    obtain ⟨ji5, hji5⟩ : ∃ j_ : Int, (shr .u64 a1 (ji3)) = j_ := ⟨_, rfl⟩
    replace H : (if 0 ≤ a0_2 then ((fbits_width_top.f a0_0 a0_1 a0_2).bind fun t161 => (some (((ji5) == 1), Go.bits .and .i64 (wrap64 (shr .u64 a1 a0_2)) t161, Go.bits .and .u64 a1 (IntKind.u64.wrap ((shl .u64 1 a0_2) - 1))))) else (none)) = some (r1, r2, r3) := by first | (rw [hji5] at H; exact H) | (simp only [hji5] at H ⊢; exact H)
    have hji5_ : (a1 / 2 ^ min (ji3).toNat 64) = ji5 := hji5
    have hji5z : (ji3) ≤ 64 → (a1 / 2 ^ (ji3).toNat) = ji5 := shr_small hji5
    by_cases c6 : 0 ≤ a0_2
    · rw [if_pos c6] at H
      have c6b0 := eq_true c6
      have c6b1 : decide (0 ≤ a0_2) = true := decide_eq_true c6
      clear c6
      obtain ⟨ji7, hji7⟩ : ∃ j_ : Int, (shr .u64 a1 a0_2) = j_ := ⟨_, rfl⟩
      replace H : ((fbits_width_top.f a0_0 a0_1 a0_2).bind fun t161 => (some (((ji5) == 1), Go.bits .and .i64 (wrap64 (ji7)) t161, Go.bits .and .u64 a1 (IntKind.u64.wrap ((shl .u64 1 a0_2) - 1))))) = some (r1, r2, r3) := by first | (rw [hji7] at H; exact H) | (simp only [hji7] at H ⊢; exact H)
      have hji7_ : (a1 / 2 ^ min a0_2.toNat 64) = ji7 := hji7
      have hji7z : a0_2 ≤ 64 → (a1 / 2 ^ a0_2.toNat) = ji7 := shr_small hji7
      replace H := Option.bind_eq_some_iff.mp H
      obtain ⟨t161, A80, H⟩ := H
      replace H : (some (((ji5) == 1), Go.bits .and .i64 (wrap64 (ji7)) t161, Go.bits .and .u64 a1 (IntKind.u64.wrap ((shl .u64 1 a0_2) - 1)))) = some (r1, r2, r3) := H
      have A8 := Aside0.mk A80
      clear A80
      have c9b0 := eq_true (of_decide_eq_true (by first | (with_reducible assumption) | assumption) : 0 ≤ a0_2)
      obtain ⟨ji10, hji10⟩ : ∃ j_ : Int, (shl .u64 1 a0_2) = j_ := ⟨_, rfl⟩
      replace H : (some (((ji5) == 1), Go.bits .and .i64 (wrap64 (ji7)) t161, Go.bits .and .u64 a1 (IntKind.u64.wrap ((ji10) - 1)))) = some (r1, r2, r3) := by first | (rw [hji10] at H; exact H) | (simp only [hji10] at H ⊢; exact H)
      (try rw [hji10] at A8)
      have hji10_ : (IntKind.u64.wrap (1 * 2 ^ min a0_2.toNat 64)) = ji10 := hji10
      have hji10z : a0_2 ≤ 64 → (IntKind.u64.wrap (1 * 2 ^ a0_2.toNat)) = ji10 := shl_small hji10
      have hji10u : (IntKind.u64.wrap (2 ^ min a0_2.toNat 64)) = ji10 := by have h_ := hji10_; rw [Int.one_mul] at h_; exact h_
      have hji10v : a0_2 ≤ 64 → (IntKind.u64.wrap (2 ^ a0_2.toNat)) = ji10 := fun hle_ => by have h_ := hji10z hle_; rw [Int.one_mul] at h_; exact h_
      simp only [Option.some.injEq, Prod.mk.injEq] at H
      obtain ⟨rfl, rfl, rfl⟩ := H
      go_enter Tryz.func93, Tryz.ntmps93
      try go_wp2_with (first | ((with_reducible refine gate_dst (N := 2) rfl ?_); refine box_event ?hg (N := 2) ?hd (cs := #[.int .i64 a0_0, .int .i64 a0_1, .int .i64 a0_2]) (t := 168) ?hr ?_; (case hd => rfl); (case hg => rfl); (case hr => first | (go_simp; done) | (go_simp; rfl)); intro gb159 hg w11 hbox hb; have n0_ := Aside0.mk (below_step (by repeat (first | (with_reducible first | exact HB.out | apply below_alloc | apply pw_below_drewN | apply below_drew1) | exact HB.out)) hb); have n1_ := Aside0.mk (hbox); have n2_ := Aside0.mk ((by rw [hg]; exact (below_size (by repeat (first | (with_reducible first | exact HB.out | apply below_alloc | apply pw_below_drewN | apply below_drew1) | exact HB.out))) : w.heap.size ≤ gb159)); have n3_ := Aside0.mk ((by rw [hg]; exact (below_size (by repeat (first | (with_reducible first | exact HB.out | apply below_alloc | apply pw_below_drewN | apply below_drew1) | exact HB.out))) : w.heap.size ≤ gb159)); clear HB; have HB := n0_; have BK159 := n1_; have GW159 := n2_; have GE159 := n3_; clear n0_ n1_ n2_ n3_; clear hb hbox hg) | ((with_reducible refine gate_dst (N := 4) rfl ?_); refine box_event ?hg (N := 4) ?hd (cs := #[.bool false, .int .i64 0, .int .u64 0]) (t := 172) ?hr ?_; (case hd => rfl); (case hg => rfl); (case hr => first | (go_simp; done) | (go_simp; rfl)); intro gb160 hg w12 hbox hb; have n0_ := Aside0.mk (blk_below (g := gb159) (o := .cells #[.int .i64 a0_0, .int .i64 a0_1, .int .i64 a0_2] 168 (0, 0)) (by (with_reducible repeat (first | refine blk_drewN ?_ _ | refine blk_drew ?_ | refine blk_alloc ?_ _)); exact BK159.out) hb); have n1_ := Aside0.mk (below_step (by repeat (first | (with_reducible first | exact HB.out | apply below_alloc | apply pw_below_drewN | apply below_drew1 | refine below_set ?_ GE159.out) | exact HB.out)) hb); have n2_ := Aside0.mk (hbox); have n3_ := Aside0.mk ((by rw [hg]; exact (below_size (by repeat (first | (with_reducible first | exact HB.out | apply below_alloc | apply pw_below_drewN | apply below_drew1 | refine below_set ?_ GE159.out) | exact HB.out))) : w.heap.size ≤ gb160)); have n4_ := Aside0.mk ((by rw [hg]; exact (below_size (by repeat (first | (with_reducible first | exact HB.out | apply below_alloc | apply pw_below_drewN | apply below_drew1 | refine below_set ?_ GE159.out) | exact HB.out))) : w.heap.size ≤ gb160)); have n5_ := Aside0.mk ((by rw [hg]; exact Nat.ne_of_lt (blk_lt (g := gb159) (o := .cells #[.int .i64 a0_0, .int .i64 a0_1, .int .i64 a0_2] 168 (0, 0)) (by (with_reducible repeat (first | refine blk_drewN ?_ _ | refine blk_drew ?_ | refine blk_alloc ?_ _)); exact BK159.out)) : gb159 ≠ gb160)); have n6_ := Aside0.mk ((by rw [hg]; exact Nat.ne_of_gt (blk_lt (g := gb159) (o := .cells #[.int .i64 a0_0, .int .i64 a0_1, .int .i64 a0_2] 168 (0, 0)) (by (with_reducible repeat (first | refine blk_drewN ?_ _ | refine blk_drew ?_ | refine blk_alloc ?_ _)); exact BK159.out)) : gb160 ≠ gb159)); clear BK159; clear HB; have BK159 := n0_; have HB := n1_; have BK160 := n2_; have GW160 := n3_; have GE160 := n4_; have NB159_160 := n5_; have NB160_159 := n6_; clear n0_ n1_ n2_ n3_ n4_ n5_ n6_; clear hb hbox hg))
      have n0_ := Aside0.mk (blk_drew BK159.out)
      have n1_ := Aside0.mk (blk_drew BK160.out)
      have n2_ := Aside0.mk (below_drew1 HB.out)
      clear BK159
      clear BK160
      clear HB
      have BK159 := n0_
      have BK160 := n1_
      have HB := n2_
      clear n0_ n1_ n2_
      refine start_ (n := 22) (S := fun w' => w'.cell? ⟨gb159, 0, none⟩ = some (.int .i64 a0_0) ∧ w'.cell? ⟨gb159, 1, none⟩ = some (.int .i64 a0_1) ∧ w'.cell? ⟨gb159, 2, none⟩ = some (.int .i64 a0_2)) (ds := []) #[false, false, false, false, false, false, false, false, false, false, false, false, false, false, false, false, false, false, false, false, false, false] (by kernel_rfl) rfl rfl ⟨(blk_cell BK159.out 0).trans rfl, (blk_cell BK159.out 1).trans rfl, (blk_cell BK159.out 2).trans rfl⟩ (fun hHeld => ?_); refine with_tabW fbits_width_split.tab1 fbits_width_split.bits1 (fun HT_ HW_ => ?_)
      generalize w12.drew = w13 at BK159 BK160 HB hHeld ⊢
      refine pure_ (i := 0) (N := some 5) (v := ?_) (a' := ?_) #[true, false, false, false, false, false, false, false, false, false, false, false, false, false, false, false, false, false, false, false, false, false] rfl rfl (any_of HT_.out (by kernel_rfl)) (fun _ _ _ h => h) (Or.inl ⟨by rfl, ?_⟩) ?_ ?_
      rotate_left
      · intro w'
        go_simp
        with_reducible rfl
      rotate_left
      · simp only [Act.put, List.setIfInBounds_toArray, List.set_cons_zero, List.set_cons_succ, i64_w, i32_w]
        rfl
      refine pure_ (i := 1) (N := some 6) (v := ?_) (a' := ?_) #[true, true, false, false, false, false, false, false, false, false, false, false, false, false, false, false, false, false, false, false, false, false] rfl rfl (any_of HT_.out (by kernel_rfl)) (fun _ _ _ h => h) (Or.inl ⟨by rfl, ?_⟩) ?_ ?_
      rotate_left
      · intro w'
        go_simp
        with_reducible rfl
      rotate_left
      · simp only [Act.put, List.setIfInBounds_toArray, List.set_cons_zero, List.set_cons_succ, i64_w, i32_w]
        rfl
      refine pure_ (i := 6) (N := some 11) (v := ?_) (a' := ?_) #[true, true, false, false, false, false, true, false, false, false, false, false, false, false, false, false, false, false, false, false, false, false] rfl rfl (any_of HT_.out (by kernel_rfl)) (fun _ _ _ h => h) (Or.inl ⟨by rfl, ?_⟩) ?_ ?_
      rotate_left
      · intro w'
        go_simp
        with_reducible rfl
      rotate_left
      · simp only [Act.put, List.setIfInBounds_toArray, List.set_cons_zero, List.set_cons_succ, i64_w, i32_w]
        rfl
      refine pure_ (i := 7) (N := some 12) (v := ?_) (a' := ?_) #[true, true, false, false, false, false, true, true, false, false, false, false, false, false, false, false, false, false, false, false, false, false] rfl rfl (any_of HT_.out (by kernel_rfl)) (fun _ _ _ h => h) (Or.inl ⟨by rfl, ?_⟩) ?_ ?_
      rotate_left
      · intro w'
        go_simp
        with_reducible rfl
      rotate_left
      · simp only [Act.put, List.setIfInBounds_toArray, List.set_cons_zero, List.set_cons_succ, i64_w, i32_w]
        rfl
      refine pure_ (i := 14) (N := some 19) (v := ?_) (a' := ?_) #[true, true, false, false, false, false, true, true, false, false, false, false, false, false, true, false, false, false, false, false, false, false] rfl rfl (any_of HT_.out (by kernel_rfl)) (fun _ _ _ h => h) (Or.inl ⟨by rfl, ?_⟩) ?_ ?_
      rotate_left
      · intro w'
        go_simp
        with_reducible rfl
      rotate_left
      · simp only [Act.put, List.setIfInBounds_toArray, List.set_cons_zero, List.set_cons_succ, i64_w, i32_w]
        rfl
      refine pure_ (i := 15) (N := some 20) (v := ?_) (a' := ?_) #[true, true, false, false, false, false, true, true, false, false, false, false, false, false, true, true, false, false, false, false, false, false] rfl rfl (any_of HT_.out (by kernel_rfl)) (fun _ _ _ h => h) (Or.inl ⟨by rfl, ?_⟩) ?_ ?_
      rotate_left
      · intro w'
        go_simp
        with_reducible rfl
      rotate_left
      · simp only [Act.put, List.setIfInBounds_toArray, List.set_cons_zero, List.set_cons_succ, i64_w, i32_w]
        rfl
      refine take_ (i := 2) (N := some 7) (v := ?_) (a' := ?_) #[true, true, true, false, false, false, true, true, false, false, false, false, false, false, true, true, false, false, false, false, false, false] rfl rfl (take_ofW HT_.out HW_.out (by kernel_rfl)) (fun _ _ _ h => h) (Or.inl ⟨by rfl, ?_⟩) hHeld ?_ ?_
      rotate_left
      · rintro w' ⟨s0, s1, s2⟩
        go_simp
        with_reducible rfl
      rotate_left
      · simp only [Act.put, List.setIfInBounds_toArray, List.set_cons_zero, List.set_cons_succ, i64_w, i32_w]
        rfl
      refine pure_ (i := 3) (N := some 8) (v := ?_) (a' := ?_) #[true, true, true, true, false, false, true, true, false, false, false, false, false, false, true, true, false, false, false, false, false, false] rfl rfl (any_of HT_.out (by kernel_rfl)) (fun _ _ _ h => h) (Or.inl ⟨by rfl, ?_⟩) ?_ ?_
      rotate_left
      · intro w'
        go_simp
        with_reducible rfl
      rotate_left
      · simp only [Act.put, List.setIfInBounds_toArray, List.set_cons_zero, List.set_cons_succ, i64_w, i32_w]
        rfl
      refine pure_ (i := 4) (N := some 9) (v := ?_) (a' := ?_) #[true, true, true, true, true, false, true, true, false, false, false, false, false, false, true, true, false, false, false, false, false, false] rfl rfl (any_of HT_.out (by kernel_rfl)) (fun _ _ _ h => h) (Or.inl ⟨by rfl, ?_⟩) ?_ ?_
      rotate_left
      · intro w'
        go_simp
        with_reducible rfl
      rotate_left
      · simp only [Act.put, List.setIfInBounds_toArray, List.set_cons_zero, List.set_cons_succ, i64_w, i32_w]
        rfl
      refine pure_ (i := 5) (N := some 10) (v := ?_) (a' := ?_) #[true, true, true, true, true, true, true, true, false, false, false, false, false, false, true, true, false, false, false, false, false, false] rfl rfl (any_of HT_.out (by kernel_rfl)) (fun _ _ _ h => h) (Or.inl ⟨by rfl, ?_⟩) ?_ ?_
      rotate_left
      · intro w'
        go_simp
        with_reducible rfl
      rotate_left
      · simp only [Act.put, List.setIfInBounds_toArray, List.set_cons_zero, List.set_cons_succ, i64_w, i32_w]
        rfl
      refine take_ (i := 8) (N := some 13) (v := ?_) (a' := ?_) #[true, true, true, true, true, true, true, true, true, false, false, false, false, false, true, true, false, false, false, false, false, false] rfl rfl (take_ofW HT_.out HW_.out (by kernel_rfl)) (fun _ _ _ h => h) (Or.inl ⟨by rfl, ?_⟩) hHeld ?_ ?_
      rotate_left
      · rintro w' ⟨s0, s1, s2⟩
        go_simp
        with_reducible rfl
      rotate_left
      · simp only [Act.put, List.setIfInBounds_toArray, List.set_cons_zero, List.set_cons_succ, i64_w, i32_w]
        rfl
      refine pure_ (i := 9) (N := some 14) (v := ?_) (a' := ?_) #[true, true, true, true, true, true, true, true, true, true, false, false, false, false, true, true, false, false, false, false, false, false] rfl rfl (any_of HT_.out (by kernel_rfl)) (fun _ _ _ h => h) (Or.inl ⟨by rfl, ?_⟩) ?_ ?_
      rotate_left
      · intro w'
        go_simp
        with_reducible rfl
      rotate_left
      · simp only [Act.put, List.setIfInBounds_toArray, List.set_cons_zero, List.set_cons_succ, i64_w, i32_w]
        rfl
      refine pure_ (i := 10) (N := some 15) (v := ?_) (a' := ?_) #[true, true, true, true, true, true, true, true, true, true, true, false, false, false, true, true, false, false, false, false, false, false] rfl rfl (any_of HT_.out (by kernel_rfl)) (fun _ _ _ h => h) (Or.inl ⟨by rfl, ?_⟩) ?_ ?_
      rotate_left
      · intro w'
        go_simp
        with_reducible rfl
      rotate_left
      · simp only [Act.put, List.setIfInBounds_toArray, List.set_cons_zero, List.set_cons_succ, i64_w, i32_w]
        rfl
      refine take_ (i := 11) (N := some 16) (v := ?_) (a' := ?_) #[true, true, true, true, true, true, true, true, true, true, true, true, false, false, true, true, false, false, false, false, false, false] rfl rfl (take_ofW HT_.out HW_.out (by kernel_rfl)) (fun _ _ _ h => h) (Or.inl ⟨by rfl, ?_⟩) hHeld ?_ ?_
      rotate_left
      · rintro w' ⟨s0, s1, s2⟩
        go_simp
        with_reducible rfl
      rotate_left
      · simp only [Act.put, List.setIfInBounds_toArray, List.set_cons_zero, List.set_cons_succ, i64_w, i32_w]
        rfl
      refine take_ (i := 16) (N := some 21) (v := ?_) (a' := ?_) #[true, true, true, true, true, true, true, true, true, true, true, true, false, false, true, true, true, false, false, false, false, false] rfl rfl (take_ofW HT_.out HW_.out (by kernel_rfl)) (fun _ _ _ h => h) (Or.inl ⟨by rfl, ?_⟩) hHeld ?_ ?_
      rotate_left
      · rintro w' ⟨s0, s1, s2⟩
        go_simp
        with_reducible rfl
      rotate_left
      · simp only [Act.put, List.setIfInBounds_toArray, List.set_cons_zero, List.set_cons_succ, i64_w, i32_w]
        rfl
      refine pure_ (i := 17) (N := some 22) (v := ?_) (a' := ?_) #[true, true, true, true, true, true, true, true, true, true, true, true, false, false, true, true, true, true, false, false, false, false] rfl rfl (any_of HT_.out (by kernel_rfl)) (fun _ _ _ h => h) (Or.inl ⟨by rfl, ?_⟩) ?_ ?_
      rotate_left
      · intro w'
        go_simp
        with_reducible rfl
      rotate_left
      · simp only [Act.put, List.setIfInBounds_toArray, List.set_cons_zero, List.set_cons_succ, i64_w, i32_w]
        rfl
      refine pure_ (i := 18) (N := some 23) (v := ?_) (a' := ?_) #[true, true, true, true, true, true, true, true, true, true, true, true, false, false, true, true, true, true, true, false, false, false] rfl rfl (any_of HT_.out (by kernel_rfl)) (fun _ _ _ h => h) (Or.inl ⟨by rfl, ?_⟩) ?_ ?_
      rotate_left
      · intro w'
        go_simp
        with_reducible rfl
      rotate_left
      · simp only [Act.put, List.setIfInBounds_toArray, List.set_cons_zero, List.set_cons_succ, i64_w, i32_w]
        rfl
      refine pure_ (i := 19) (N := some 24) (v := ?_) (a' := ?_) #[true, true, true, true, true, true, true, true, true, true, true, true, false, false, true, true, true, true, true, true, false, false] rfl rfl (any_of HT_.out (by kernel_rfl)) (fun _ _ _ h => h) (Or.inl ⟨by rfl, ?_⟩) ?_ ?_
      rotate_left
      · intro w'
        go_simp
        with_reducible rfl
      rotate_left
      · simp only [Act.put, List.setIfInBounds_toArray, List.set_cons_zero, List.set_cons_succ, i64_w, i32_w]
        rfl
      refine one_ (i := 12) (N := some 17) #[true, true, true, true, true, true, true, true, true, true, true, true, true, false, true, true, true, true, true, true, false, false] rfl rfl (one_of HT_.out (by kernel_rfl)) (by decide) (fun K hK => ?_)
      refine goes_ Tryz.func99 (by kernel_rfl) rfl #[.agg #[.int .i64 a0_0, .int .i64 a0_1, .int .i64 a0_2]] (by rfl) rfl rfl (by (try simp only [List.map_toArray, List.map_cons, List.map_nil]); first | done | rfl | (simp only [List.length_drop, List.length_take]; rfl)) ?_
      with_reducible refine (fbits_width_top.calls a0_0 a0_1 a0_2 t161 _ A8.out).mono ?_
      rintro e w14 ⟨rfl, hb⟩
      refine ⟨_, rfl, ?_⟩
      have n0_ := Aside0.mk (blk_below (g := gb159) (o := .cells #[.int .i64 a0_0, .int .i64 a0_1, .int .i64 a0_2] 168 (0, 0)) (by (with_reducible repeat (first | refine blk_drewN ?_ _ | refine blk_drew ?_ | refine blk_alloc ?_ _)); exact BK159.out) hb)
      have n1_ := Aside0.mk (blk_below (g := gb160) (o := .cells #[.bool false, .int .i64 0, .int .u64 0] 172 (0, 0)) (by (with_reducible repeat (first | refine blk_drewN ?_ _ | refine blk_drew ?_ | refine blk_alloc ?_ _)); exact BK160.out) hb)
      have n2_ := Aside0.mk (below_step (by repeat (first | (with_reducible first | exact HB.out | apply below_alloc | apply pw_below_drewN | apply below_drew1 | refine below_set ?_ GE159.out | refine below_set ?_ GE160.out) | exact HB.out)) hb)
      clear BK159
      clear BK160
      clear HB
      have BK159 := n0_
      have BK160 := n1_
      have HB := n2_
      clear n0_ n1_ n2_
      (try clear hb)
      (try clear hb2)
      (try clear hk)
      (try clear hi)
      refine hK.out _ _ ⟨(blk_cell BK159.out 0).trans rfl, (blk_cell BK159.out 1).trans rfl, (blk_cell BK159.out 2).trans rfl⟩ (fun hHeld => ?_)
      clear hK K
      refine norm_ (a' := ?_) ?_ ?_
      rotate_left
      · show Act.put _ (some 17) _ = _
        simp only [Act.put, List.setIfInBounds_toArray, List.set_cons_zero, List.set_cons_succ, i64_w, i32_w]
        rfl
      refine pure_ (i := 13) (N := some 18) (v := ?_) (a' := ?_) #[true, true, true, true, true, true, true, true, true, true, true, true, true, true, true, true, true, true, true, true, false, false] rfl rfl (any_of HT_.out (by kernel_rfl)) (fun _ _ _ h => h) (Or.inl ⟨by rfl, ?_⟩) ?_ ?_
      rotate_left
      · intro w'
        go_simp
        with_reducible rfl
      rotate_left
      · simp only [Act.put, List.setIfInBounds_toArray, List.set_cons_zero, List.set_cons_succ, i64_w, i32_w]
        rfl
      refine pure_ (i := 20) (N := some 25) (v := ?_) (a' := ?_) #[true, true, true, true, true, true, true, true, true, true, true, true, true, true, true, true, true, true, true, true, true, false] rfl rfl (any_of HT_.out (by kernel_rfl)) (fun _ _ _ h => h) (Or.inl ⟨by rfl, ?_⟩) ?_ ?_
      rotate_left
      · intro w'
        go_simp
        with_reducible rfl
      rotate_left
      · simp only [Act.put, List.setIfInBounds_toArray, List.set_cons_zero, List.set_cons_succ, i64_w, i32_w]
        rfl
      refine one_ (i := 21) (N := none) #[true, true, true, true, true, true, true, true, true, true, true, true, true, true, true, true, true, true, true, true, true, true] rfl rfl (one_of HT_.out (by kernel_rfl)) (by decide) (fun K hK => ?_)
      have hs15 : w14.cell? ⟨gb160, 0, none⟩ = some (.bool false) := (blk_cell BK160.out 0).trans rfl
      have hfs15 := blk_frozen BK160.out 0
      have hns15_0 := NB159_160.out
      have hms15_0 := NB160_159.out
      have hs16 : w14.cell? ⟨gb160, 1, none⟩ = some (.int .i64 0) := (blk_cell BK160.out 1).trans rfl
      have hfs16 := blk_frozen BK160.out 1
      have hns16_0 := NB159_160.out
      have hms16_0 := NB160_159.out
      have hs17 : w14.cell? ⟨gb160, 2, none⟩ = some (.int .u64 0) := (blk_cell BK160.out 2).trans rfl
      have hfs17 := blk_frozen BK160.out 2
      have hns17_0 := NB159_160.out
      have hms17_0 := NB160_159.out
      refine skip_ (w1 := ?_) (by rfl) rfl ?_ ?_
      rotate_left
      · go_simp
        rfl
      refine hK.out _ _ ⟨((cell_far (p := ⟨gb160, _, none⟩) NB159_160.out _).trans (((cell_far (p := ⟨gb160, _, none⟩) NB159_160.out _).trans (((cell_far (p := ⟨gb160, _, none⟩) NB159_160.out _).trans (hHeld.1)))))), ((cell_far (p := ⟨gb160, _, none⟩) NB159_160.out _).trans (((cell_far (p := ⟨gb160, _, none⟩) NB159_160.out _).trans (((cell_far (p := ⟨gb160, _, none⟩) NB159_160.out _).trans (hHeld.2.1)))))), ((cell_far (p := ⟨gb160, _, none⟩) NB159_160.out _).trans (((cell_far (p := ⟨gb160, _, none⟩) NB159_160.out _).trans (((cell_far (p := ⟨gb160, _, none⟩) NB159_160.out _).trans (hHeld.2.2))))))⟩ (fun hHeld => ?_)
      clear hK K
      refine done_ (done_of HT_.out (by kernel_rfl)) ?_
      try go_wp2
      refine bodyPost_ret (results_cell_row rfl _ _ gb160 172 #[.bool ((ji5) == 1), .int .i64 (Go.bits .and .i64 (wrap64 (ji7)) t161), .int .u64 (Go.bits .and .u64 a1 (IntKind.u64.wrap ((ji10) - 1)))] (0, 0) _ rfl (by (with_reducible repeat (first | refine blk_drewN ?_ _ | refine blk_drew ?_ | refine blk_alloc ?_ _)); refine blk_put (cs := #[.bool ((ji5) == 1), .int .i64 (Go.bits .and .i64 (wrap64 (ji7)) t161), .int .u64 0]) ?_ 2 _ rfl; (with_reducible repeat (first | refine blk_drewN ?_ _ | refine blk_drew ?_ | refine blk_alloc ?_ _)); refine blk_put (cs := #[.bool ((ji5) == 1), .int .i64 0, .int .u64 0]) ?_ 1 _ rfl; (with_reducible repeat (first | refine blk_drewN ?_ _ | refine blk_drew ?_ | refine blk_alloc ?_ _)); refine blk_put (cs := #[.bool false, .int .i64 0, .int .u64 0]) ?_ 0 _ rfl; (with_reducible repeat (first | refine blk_drewN ?_ _ | refine blk_drew ?_ | refine blk_alloc ?_ _)); exact BK160.out) Tryz.underlying172 rfl (by kernel_rfl)) rfl ?_
      exact ⟨by first | rfl | (simp [errW_none, errW_some] <;> rfl) | (simp only [← hji3, ← hji5, ← hji7, ← hji10]; first | rfl | (simp [errW_none, errW_some] <;> rfl)) | (simp [*, errW_none, errW_some] <;> rfl), by repeat (first | (with_reducible first | exact HB.out | apply below_alloc | apply pw_below_drewN | apply below_drew1 | refine below_set ?_ GE159.out | refine below_set ?_ GE160.out) | exact HB.out)⟩
    · rw [if_neg c6] at H
      exact absurd H (by simp)
  · rw [if_neg c4] at H
    exact absurd H (by simp)

end Go.Proofs.YtfmceonbejlhlaaGreatDoor.P

-- Written by a program of this session (joint.sh) out of the translation. Not trusted: Lean checks it.
namespace Go.Proofs.YtfmceonbejlhlaaGreatDoor.P
open Go.RowKit Go.Proofs.YtfmceonbejlhlaaGreatDoorW.PrintWords Go.Proofs.YtfmceonbejlhlaaGreatDoorW.PrintLast Go.Proofs.YtfmceonbejlhlaaGreatDoorW.PrintMore
attribute [local go_sem] max2_int min2_int max_two min_two max_three min_three max_four min_four   -- for this text's walks alone
set_option linter.unusedVariables false
set_option linter.unusedSimpArgs false

/-! ### fbits_width_class: function 94 -/
def fbits_width_class.j0 : Nat → Bool → Int → Int → Int → Bool → Int → Int → Option (Int)
  | 0, _, _, _, _, _, _, _ => none
  | k + 1, x5, x163000, x163001, x163002, x164000, x164001, x164002 => if x5 = true then (some 4) else ((fbits_width_top.f x163000 x163001 x163002).bind fun t165 => (if x164001 = t165 then (some 3) else (if x164001 = 0 then (if x164002 = 0 then (some 0) else (some 1)) else (some 2))))
def fbits_width_class.f (k : Nat) (a0_0 : Int) (a0_1 : Int) (a0_2 : Int) (a1_0 : Bool) (a1_1 : Int) (a1_2 : Int) : Option (Int) := (fbits_width_top.f a0_0 a0_1 a0_2).bind fun t164 => (if a1_1 = t164 then (fbits_width_class.j0 k (a1_2 != 0) a0_0 a0_1 a0_2 a1_0 a1_1 a1_2) else (fbits_width_class.j0 k false a0_0 a0_1 a0_2 a1_0 a1_1 a1_2))
theorem fbits_width_class.mono_l : ∀ k, (∀ y0 y1 y2 y3 y4 y5 y6, LeO (fbits_width_class.j0 k y0 y1 y2 y3 y4 y5 y6) (fbits_width_class.j0 (k + 1) y0 y1 y2 y3 y4 y5 y6))
  | 0 => fun _ _ _ _ _ _ _ r h => by simp [fbits_width_class.j0] at h
  | k + 1 => by
    have ih0 := fbits_width_class.mono_l k
    · intro y0 y1 y2 y3 y4 y5 y6
      unfold fbits_width_class.j0
      repeat' first
      | (with_reducible exact ih0 _ _ _ _ _ _ _)
      | (with_reducible exact LeO.refl _)
      | (with_reducible exact LeO.none _)
      | (with_reducible refine LeO.ite ?_ ?_)
      | (with_reducible refine LeO.bind ?_ (fun _ => ?_))
      | exact ih0 _ _ _ _ _ _ _
      | exact LeO.none _
      | refine LeO.ite ?_ ?_
      | refine LeO.bind ?_ (fun _ => ?_)
theorem fbits_width_class.mono : ∀ a0 a1 a2 a3 a4 a5 k, LeO (fbits_width_class.f k a0 a1 a2 a3 a4 a5) (fbits_width_class.f (k + 1) a0 a1 a2 a3 a4 a5) := by
  intro a0 a1 a2 a3 a4 a5 k
  have ih0 := fbits_width_class.mono_l k
  unfold fbits_width_class.f
  repeat' first
      | (with_reducible exact ih0 _ _ _ _ _ _ _)
      | (with_reducible exact LeO.refl _)
      | (with_reducible exact LeO.none _)
      | (with_reducible refine LeO.ite ?_ ?_)
      | (with_reducible refine LeO.bind ?_ (fun _ => ?_))
      | exact ih0 _ _ _ _ _ _ _
      | exact LeO.none _
      | refine LeO.ite ?_ ?_
      | refine LeO.bind ?_ (fun _ => ?_)
def fbits_width_class.T1 : Bool × List (List Nat × List Nat) := (true, [([], []), ([0], [0]), ([], []), ([2], [2]), ([1, 3], [1, 3]), ([4, 3], [4]), ([5], [5]), ([6, 5], [5, 6]), ([7, 5], [5, 7]), ([5, 8], [5, 8]), ([9, 5], [9])])
def fbits_width_class.B1 : List Nat := [0, 1, 0, 4, 15, 31, 63, 127, 255, 511, 1023]
theorem fbits_width_class.tab1 : rtab .any (opsOf Tryz.f94 1) = fbits_width_class.T1 := by kernel_rfl
theorem fbits_width_class.bits1 : waitsOk fbits_width_class.T1.2 fbits_width_class.B1 = true := by kernel_rfl
set_option maxHeartbeats 8000000 in
set_option maxRecDepth 100000 in
theorem fbits_width_class.calls (k : Nat) (a0_0 : Int) (a0_1 : Int) (a0_2 : Int) (a1_0 : Bool) (a1_1 : Int) (a1_2 : Int) (r : Int) (w : World) (h : fbits_width_class.f k a0_0 a0_1 a0_2 a1_0 a1_1 a1_2 = some r) :
    Calls Tryz.prog 94 #[.agg #[.int .i64 a0_0, .int .i64 a0_1, .int .i64 a0_2], .agg #[.bool a1_0, .int .i64 a1_1, .int .u64 a1_2]] w fun e w' => e = .returned (.int .i64 r) ∧ Below w.heap.size w w' := by
  have hu168 := Tryz.underlying168
  have hu172 := Tryz.underlying172
  have HB := Aside0.mk (Below.refl w.heap.size w)
  have H : ((fbits_width_top.f a0_0 a0_1 a0_2).bind fun t164 => (if a1_1 = t164 then (fbits_width_class.j0 k (a1_2 != 0) a0_0 a0_1 a0_2 a1_0 a1_1 a1_2) else (fbits_width_class.j0 k false a0_0 a0_1 a0_2 a1_0 a1_1 a1_2))) = some r := h
  clear h
  have HC3 := Aside0.mk H
  clear H
  go_enter Tryz.func94, Tryz.ntmps94
  go_upto_region 1 with (first | ((with_reducible refine gate_dst (N := 2) rfl ?_); refine box_event ?hg (N := 2) ?hd (cs := #[.int .i64 a0_0, .int .i64 a0_1, .int .i64 a0_2]) (t := 168) ?hr ?_; (case hd => rfl); (case hg => rfl); (case hr => first | (go_simp; done) | (go_simp; rfl)); intro gb162 hg w4 hbox hb; have n0_ := Aside0.mk (below_step (by repeat (first | (with_reducible first | exact HB.out | apply below_alloc | apply pw_below_drewN | apply below_drew1) | exact HB.out)) hb); have n1_ := Aside0.mk (hbox); have n2_ := Aside0.mk ((by rw [hg]; exact (below_size (by repeat (first | (with_reducible first | exact HB.out | apply below_alloc | apply pw_below_drewN | apply below_drew1) | exact HB.out))) : w.heap.size ≤ gb162)); have n3_ := Aside0.mk ((by rw [hg]; exact (below_size (by repeat (first | (with_reducible first | exact HB.out | apply below_alloc | apply pw_below_drewN | apply below_drew1) | exact HB.out))) : w.heap.size ≤ gb162)); clear HB; have HB := n0_; have BK162 := n1_; have GW162 := n2_; have GE162 := n3_; clear n0_ n1_ n2_ n3_; clear hb hbox hg) | ((with_reducible refine gate_dst (N := 3) rfl ?_); refine box_event ?hg (N := 3) ?hd (cs := #[.bool a1_0, .int .i64 a1_1, .int .u64 a1_2]) (t := 172) ?hr ?_; (case hd => rfl); (case hg => rfl); (case hr => first | (go_simp; done) | (go_simp; rfl)); intro gb163 hg w5 hbox hb; have n0_ := Aside0.mk (blk_below (g := gb162) (o := .cells #[.int .i64 a0_0, .int .i64 a0_1, .int .i64 a0_2] 168 (0, 0)) (by (with_reducible repeat (first | refine blk_drewN ?_ _ | refine blk_drew ?_ | refine blk_alloc ?_ _)); exact BK162.out) hb); have n1_ := Aside0.mk (below_step (by repeat (first | (with_reducible first | exact HB.out | apply below_alloc | apply pw_below_drewN | apply below_drew1 | refine below_set ?_ GE162.out) | exact HB.out)) hb); have n2_ := Aside0.mk (hbox); have n3_ := Aside0.mk ((by rw [hg]; exact (below_size (by repeat (first | (with_reducible first | exact HB.out | apply below_alloc | apply pw_below_drewN | apply below_drew1 | refine below_set ?_ GE162.out) | exact HB.out))) : w.heap.size ≤ gb163)); have n4_ := Aside0.mk ((by rw [hg]; exact (below_size (by repeat (first | (with_reducible first | exact HB.out | apply below_alloc | apply pw_below_drewN | apply below_drew1 | refine below_set ?_ GE162.out) | exact HB.out))) : w.heap.size ≤ gb163)); have n5_ := Aside0.mk ((by rw [hg]; exact Nat.ne_of_lt (blk_lt (g := gb162) (o := .cells #[.int .i64 a0_0, .int .i64 a0_1, .int .i64 a0_2] 168 (0, 0)) (by (with_reducible repeat (first | refine blk_drewN ?_ _ | refine blk_drew ?_ | refine blk_alloc ?_ _)); exact BK162.out)) : gb162 ≠ gb163)); have n6_ := Aside0.mk ((by rw [hg]; exact Nat.ne_of_gt (blk_lt (g := gb162) (o := .cells #[.int .i64 a0_0, .int .i64 a0_1, .int .i64 a0_2] 168 (0, 0)) (by (with_reducible repeat (first | refine blk_drewN ?_ _ | refine blk_drew ?_ | refine blk_alloc ?_ _)); exact BK162.out)) : gb163 ≠ gb162)); clear BK162; clear HB; have BK162 := n0_; have HB := n1_; have BK163 := n2_; have GW163 := n3_; have GE163 := n4_; have NB162_163 := n5_; have NB163_162 := n6_; clear n0_ n1_ n2_ n3_ n4_ n5_ n6_; clear hb hbox hg))
  (try simp only [Act.put, List.setIfInBounds_toArray, List.set_cons_zero, List.set_cons_succ])
  go_cut [5] (fun v5 wc => ∃ (kq : Nat) (x5_2 : Bool), v5 = .bool x5_2 ∧ Aside0 (fbits_width_class.j0 kq x5_2 a0_0 a0_1 a0_2 a1_0 a1_1 a1_2 = some r) ∧ Aside0 (kq ≤ k) ∧ Aside0 (wc.heap[gb162]? = some (.cells #[.int .i64 a0_0, .int .i64 a0_1, .int .i64 a0_2] 168 (0, 0))) ∧ Aside0 (wc.heap[gb163]? = some (.cells #[.bool a1_0, .int .i64 a1_1, .int .u64 a1_2] 172 (0, 0))) ∧ Aside0 (Below w.heap.size w wc))
  case first =>
    have H := HC3.out
    clear HC3
    replace H := Option.bind_eq_some_iff.mp H
    obtain ⟨t164, A60, H⟩ := H
    replace H : (if a1_1 = t164 then (fbits_width_class.j0 k (a1_2 != 0) a0_0 a0_1 a0_2 a1_0 a1_1 a1_2) else (fbits_width_class.j0 k false a0_0 a0_1 a0_2 a1_0 a1_1 a1_2)) = some r := H
    have A6 := Aside0.mk A60
    clear A60
    by_cases c7 : a1_1 = t164
    · rw [if_pos c7] at H
      have c7b0 : (a1_1 == t164) = true := beq_iff_eq.mpr c7
      have c7b1 : (a1_1 != t164) = false := bne_eq_false_iff_eq.mpr c7
      clear c7
      (first | rw [c7b0] | (simp only [i64_w, i32_w]; rw [c7b0]) | skip)
      have H' := Aside0.mk H
      clear H
      try go_wp2
      have n0_ := Aside0.mk (blk_drew BK162.out)
      have n1_ := Aside0.mk (blk_drew BK163.out)
      have n2_ := Aside0.mk (below_drew1 HB.out)
      clear BK162
      clear BK163
      clear HB
      have BK162 := n0_
      have BK163 := n1_
      have HB := n2_
      clear n0_ n1_ n2_
      refine start_ (n := 11) (S := fun w' => w'.cell? ⟨gb163, 0, none⟩ = some (.bool a1_0) ∧ w'.cell? ⟨gb163, 1, none⟩ = some (.int .i64 a1_1) ∧ w'.cell? ⟨gb163, 2, none⟩ = some (.int .u64 a1_2) ∧ w'.cell? ⟨gb162, 0, none⟩ = some (.int .i64 a0_0) ∧ w'.cell? ⟨gb162, 1, none⟩ = some (.int .i64 a0_1) ∧ w'.cell? ⟨gb162, 2, none⟩ = some (.int .i64 a0_2)) (ds := []) #[false, false, false, false, false, false, false, false, false, false, false] (by kernel_rfl) rfl rfl ⟨(blk_cell BK163.out 0).trans rfl, (blk_cell BK163.out 1).trans rfl, (blk_cell BK163.out 2).trans rfl, (blk_cell BK162.out 0).trans rfl, (blk_cell BK162.out 1).trans rfl, (blk_cell BK162.out 2).trans rfl⟩ (fun hHeld => ?_); refine with_tabW fbits_width_class.tab1 fbits_width_class.bits1 (fun HT_ HW_ => ?_)
      generalize w5.drew = w8 at BK162 BK163 HB hHeld ⊢
      refine pure_ (i := 0) (N := some 6) (v := ?_) (a' := ?_) #[true, false, false, false, false, false, false, false, false, false, false] rfl rfl (any_of HT_.out (by kernel_rfl)) (fun _ _ _ h => h) (Or.inl ⟨by rfl, ?_⟩) ?_ ?_
      rotate_left
      · intro w'
        go_simp
        with_reducible rfl
      rotate_left
      · simp only [Act.put, List.setIfInBounds_toArray, List.set_cons_zero, List.set_cons_succ, i64_w, i32_w]
        rfl
      refine take_ (i := 1) (N := some 7) (v := ?_) (a' := ?_) #[true, true, false, false, false, false, false, false, false, false, false] rfl rfl (take_ofW HT_.out HW_.out (by kernel_rfl)) (fun _ _ _ h => h) (Or.inl ⟨by rfl, ?_⟩) hHeld ?_ ?_
      rotate_left
      · rintro w' ⟨s0, s1, s2, s3, s4, s5⟩
        go_simp
        with_reducible rfl
      rotate_left
      · simp only [Act.put, List.setIfInBounds_toArray, List.set_cons_zero, List.set_cons_succ, i64_w, i32_w]
        rfl
      refine take_ (i := 2) (N := some 8) (v := ?_) (a' := ?_) #[true, true, true, false, false, false, false, false, false, false, false] rfl rfl (take_ofW HT_.out HW_.out (by kernel_rfl)) (fun _ _ _ h => h) (Or.inl ⟨by rfl, ?_⟩) hHeld ?_ ?_
      rotate_left
      · rintro w' ⟨s0, s1, s2, s3, s4, s5⟩
        go_simp
        with_reducible rfl
      rotate_left
      · simp only [Act.put, List.setIfInBounds_toArray, List.set_cons_zero, List.set_cons_succ, i64_w, i32_w]
        rfl
      refine one_ (i := 3) (N := some 9) #[true, true, true, true, false, false, false, false, false, false, false] rfl rfl (one_of HT_.out (by kernel_rfl)) (by decide) (fun K hK => ?_)
      refine goes_ Tryz.func99 (by kernel_rfl) rfl #[.agg #[.int .i64 a0_0, .int .i64 a0_1, .int .i64 a0_2]] (by rfl) rfl rfl (by (try simp only [List.map_toArray, List.map_cons, List.map_nil]); first | done | rfl | (simp only [List.length_drop, List.length_take]; rfl)) ?_
      with_reducible refine (fbits_width_top.calls a0_0 a0_1 a0_2 t164 _ A6.out).mono ?_
      rintro e w9 ⟨rfl, hb⟩
      refine ⟨_, rfl, ?_⟩
      have n0_ := Aside0.mk (blk_below (g := gb162) (o := .cells #[.int .i64 a0_0, .int .i64 a0_1, .int .i64 a0_2] 168 (0, 0)) (by (with_reducible repeat (first | refine blk_drewN ?_ _ | refine blk_drew ?_ | refine blk_alloc ?_ _)); exact BK162.out) hb)
      have n1_ := Aside0.mk (blk_below (g := gb163) (o := .cells #[.bool a1_0, .int .i64 a1_1, .int .u64 a1_2] 172 (0, 0)) (by (with_reducible repeat (first | refine blk_drewN ?_ _ | refine blk_drew ?_ | refine blk_alloc ?_ _)); exact BK163.out) hb)
      have n2_ := Aside0.mk (below_step (by repeat (first | (with_reducible first | exact HB.out | apply below_alloc | apply pw_below_drewN | apply below_drew1 | refine below_set ?_ GE162.out | refine below_set ?_ GE163.out) | exact HB.out)) hb)
      clear BK162
      clear BK163
      clear HB
      have BK162 := n0_
      have BK163 := n1_
      have HB := n2_
      clear n0_ n1_ n2_
      (try clear hb)
      (try clear hb2)
      (try clear hk)
      (try clear hi)
      refine hK.out _ _ ⟨(blk_cell BK163.out 0).trans rfl, (blk_cell BK163.out 1).trans rfl, (blk_cell BK163.out 2).trans rfl, (blk_cell BK162.out 0).trans rfl, (blk_cell BK162.out 1).trans rfl, (blk_cell BK162.out 2).trans rfl⟩ (fun hHeld => ?_)
      clear hK K
      refine norm_ (a' := ?_) ?_ ?_
      rotate_left
      · show Act.put _ (some 9) _ = _
        simp only [Act.put, List.setIfInBounds_toArray, List.set_cons_zero, List.set_cons_succ, i64_w, i32_w]
        rfl
      refine pure_ (i := 4) (N := some 10) (v := ?_) (a' := ?_) #[true, true, true, true, true, false, false, false, false, false, false] rfl rfl (any_of HT_.out (by kernel_rfl)) (fun _ _ _ h => h) (Or.inl ⟨by rfl, ?_⟩) ?_ ?_
      rotate_left
      · intro w'
        go_simp
        with_reducible rfl
      rotate_left
      · simp only [Act.put, List.setIfInBounds_toArray, List.set_cons_zero, List.set_cons_succ, i64_w, i32_w]
        rfl
      refine pure_ (i := 5) (N := some 11) (v := ?_) (a' := ?_) #[true, true, true, true, true, true, false, false, false, false, false] rfl rfl (any_of HT_.out (by kernel_rfl)) (fun _ _ _ h => h) (Or.inl ⟨by rfl, ?_⟩) ?_ ?_
      rotate_left
      · intro w'
        go_simp
        with_reducible rfl
      rotate_left
      · simp only [Act.put, List.setIfInBounds_toArray, List.set_cons_zero, List.set_cons_succ, i64_w, i32_w]
        rfl
      refine pure_ (i := 6) (N := some 12) (v := ?_) (a' := ?_) #[true, true, true, true, true, true, true, false, false, false, false] rfl rfl (any_of HT_.out (by kernel_rfl)) (fun _ _ _ h => h) (Or.inl ⟨by rfl, ?_⟩) ?_ ?_
      rotate_left
      · intro w'
        go_simp
        with_reducible rfl
      rotate_left
      · simp only [Act.put, List.setIfInBounds_toArray, List.set_cons_zero, List.set_cons_succ, i64_w, i32_w]
        rfl
      refine take_ (i := 7) (N := some 13) (v := ?_) (a' := ?_) #[true, true, true, true, true, true, true, true, false, false, false] rfl rfl (take_ofW HT_.out HW_.out (by kernel_rfl)) (fun _ _ _ h => h) (Or.inl ⟨by rfl, ?_⟩) hHeld ?_ ?_
      rotate_left
      · rintro w' ⟨s0, s1, s2, s3, s4, s5⟩
        go_simp
        with_reducible rfl
      rotate_left
      · simp only [Act.put, List.setIfInBounds_toArray, List.set_cons_zero, List.set_cons_succ, i64_w, i32_w]
        rfl
      refine pure_ (i := 8) (N := some 14) (v := ?_) (a' := ?_) #[true, true, true, true, true, true, true, true, true, false, false] rfl rfl (any_of HT_.out (by kernel_rfl)) (fun _ _ _ h => h) (Or.inl ⟨by rfl, ?_⟩) ?_ ?_
      rotate_left
      · intro w'
        go_simp
        with_reducible rfl
      rotate_left
      · simp only [Act.put, List.setIfInBounds_toArray, List.set_cons_zero, List.set_cons_succ, i64_w, i32_w]
        rfl
      refine pure_ (i := 9) (N := some 15) (v := ?_) (a' := ?_) #[true, true, true, true, true, true, true, true, true, true, false] rfl rfl (any_of HT_.out (by kernel_rfl)) (fun _ _ _ h => h) (Or.inl ⟨by rfl, ?_⟩) ?_ ?_
      rotate_left
      · intro w'
        go_simp
        with_reducible rfl
      rotate_left
      · simp only [Act.put, List.setIfInBounds_toArray, List.set_cons_zero, List.set_cons_succ, i64_w, i32_w]
        rfl
      refine pure_ (i := 10) (N := some 5) (v := ?_) (a' := ?_) #[true, true, true, true, true, true, true, true, true, true, true] rfl rfl (any_of HT_.out (by kernel_rfl)) (fun _ _ _ h => h) (Or.inl ⟨by rfl, ?_⟩) ?_ ?_
      rotate_left
      · intro w'
        go_simp
        with_reducible rfl
      rotate_left
      · simp only [Act.put, List.setIfInBounds_toArray, List.set_cons_zero, List.set_cons_succ, i64_w, i32_w]
        rfl
      refine done_ (done_of HT_.out (by kernel_rfl)) ?_
      try go_wp2
      go_meet
      case rel => exact ⟨_, ((a1_2 != 0)), (by first | rfl | (simp; done) | (simp [*]; done)), H', ⟨by first | omega | exact Nat.le_refl _⟩, ⟨by (with_reducible repeat (first | refine blk_drewN ?_ _ | refine blk_drew ?_ | refine blk_alloc ?_ _)); exact BK162.out⟩, ⟨by (with_reducible repeat (first | refine blk_drewN ?_ _ | refine blk_drew ?_ | refine blk_alloc ?_ _)); exact BK163.out⟩, ⟨by repeat (first | (with_reducible first | exact HB.out | apply below_alloc | apply pw_below_drewN | apply below_drew1 | refine below_set ?_ GE162.out | refine below_set ?_ GE163.out) | exact HB.out)⟩⟩
    · rw [if_neg c7] at H
      have c7b0 : (a1_1 == t164) = false := beq_eq_false_iff_ne.mpr c7
      have c7b1 : (a1_1 != t164) = true := bne_iff_ne.mpr c7
      (first | rw [c7b0] | (simp only [i64_w, i32_w]; rw [c7b0]) | skip)
      have H' := Aside0.mk H
      clear H
      try go_wp2
      have n0_ := Aside0.mk (blk_drew BK162.out)
      have n1_ := Aside0.mk (blk_drew BK163.out)
      have n2_ := Aside0.mk (below_drew1 HB.out)
      clear BK162
      clear BK163
      clear HB
      have BK162 := n0_
      have BK163 := n1_
      have HB := n2_
      clear n0_ n1_ n2_
      refine start_ (n := 11) (S := fun w' => w'.cell? ⟨gb163, 0, none⟩ = some (.bool a1_0) ∧ w'.cell? ⟨gb163, 1, none⟩ = some (.int .i64 a1_1) ∧ w'.cell? ⟨gb163, 2, none⟩ = some (.int .u64 a1_2) ∧ w'.cell? ⟨gb162, 0, none⟩ = some (.int .i64 a0_0) ∧ w'.cell? ⟨gb162, 1, none⟩ = some (.int .i64 a0_1) ∧ w'.cell? ⟨gb162, 2, none⟩ = some (.int .i64 a0_2)) (ds := []) #[false, false, false, false, false, false, false, false, false, false, false] (by kernel_rfl) rfl rfl ⟨(blk_cell BK163.out 0).trans rfl, (blk_cell BK163.out 1).trans rfl, (blk_cell BK163.out 2).trans rfl, (blk_cell BK162.out 0).trans rfl, (blk_cell BK162.out 1).trans rfl, (blk_cell BK162.out 2).trans rfl⟩ (fun hHeld => ?_); refine with_tabW fbits_width_class.tab1 fbits_width_class.bits1 (fun HT_ HW_ => ?_)
      generalize w5.drew = w10 at BK162 BK163 HB hHeld ⊢
      refine pure_ (i := 0) (N := some 6) (v := ?_) (a' := ?_) #[true, false, false, false, false, false, false, false, false, false, false] rfl rfl (any_of HT_.out (by kernel_rfl)) (fun _ _ _ h => h) (Or.inl ⟨by rfl, ?_⟩) ?_ ?_
      rotate_left
      · intro w'
        go_simp
        with_reducible rfl
      rotate_left
      · simp only [Act.put, List.setIfInBounds_toArray, List.set_cons_zero, List.set_cons_succ, i64_w, i32_w]
        rfl
      refine take_ (i := 1) (N := some 7) (v := ?_) (a' := ?_) #[true, true, false, false, false, false, false, false, false, false, false] rfl rfl (take_ofW HT_.out HW_.out (by kernel_rfl)) (fun _ _ _ h => h) (Or.inl ⟨by rfl, ?_⟩) hHeld ?_ ?_
      rotate_left
      · rintro w' ⟨s0, s1, s2, s3, s4, s5⟩
        go_simp
        with_reducible rfl
      rotate_left
      · simp only [Act.put, List.setIfInBounds_toArray, List.set_cons_zero, List.set_cons_succ, i64_w, i32_w]
        rfl
      refine take_ (i := 2) (N := some 8) (v := ?_) (a' := ?_) #[true, true, true, false, false, false, false, false, false, false, false] rfl rfl (take_ofW HT_.out HW_.out (by kernel_rfl)) (fun _ _ _ h => h) (Or.inl ⟨by rfl, ?_⟩) hHeld ?_ ?_
      rotate_left
      · rintro w' ⟨s0, s1, s2, s3, s4, s5⟩
        go_simp
        with_reducible rfl
      rotate_left
      · simp only [Act.put, List.setIfInBounds_toArray, List.set_cons_zero, List.set_cons_succ, i64_w, i32_w]
        rfl
      refine one_ (i := 3) (N := some 9) #[true, true, true, true, false, false, false, false, false, false, false] rfl rfl (one_of HT_.out (by kernel_rfl)) (by decide) (fun K hK => ?_)
      refine goes_ Tryz.func99 (by kernel_rfl) rfl #[.agg #[.int .i64 a0_0, .int .i64 a0_1, .int .i64 a0_2]] (by rfl) rfl rfl (by (try simp only [List.map_toArray, List.map_cons, List.map_nil]); first | done | rfl | (simp only [List.length_drop, List.length_take]; rfl)) ?_
      with_reducible refine (fbits_width_top.calls a0_0 a0_1 a0_2 t164 _ A6.out).mono ?_
      rintro e w11 ⟨rfl, hb⟩
      refine ⟨_, rfl, ?_⟩
      have n0_ := Aside0.mk (blk_below (g := gb162) (o := .cells #[.int .i64 a0_0, .int .i64 a0_1, .int .i64 a0_2] 168 (0, 0)) (by (with_reducible repeat (first | refine blk_drewN ?_ _ | refine blk_drew ?_ | refine blk_alloc ?_ _)); exact BK162.out) hb)
      have n1_ := Aside0.mk (blk_below (g := gb163) (o := .cells #[.bool a1_0, .int .i64 a1_1, .int .u64 a1_2] 172 (0, 0)) (by (with_reducible repeat (first | refine blk_drewN ?_ _ | refine blk_drew ?_ | refine blk_alloc ?_ _)); exact BK163.out) hb)
      have n2_ := Aside0.mk (below_step (by repeat (first | (with_reducible first | exact HB.out | apply below_alloc | apply pw_below_drewN | apply below_drew1 | refine below_set ?_ GE162.out | refine below_set ?_ GE163.out) | exact HB.out)) hb)
      clear BK162
      clear BK163
      clear HB
      have BK162 := n0_
      have BK163 := n1_
      have HB := n2_
      clear n0_ n1_ n2_
      (try clear hb)
      (try clear hb2)
      (try clear hk)
      (try clear hi)
      refine hK.out _ _ ⟨(blk_cell BK163.out 0).trans rfl, (blk_cell BK163.out 1).trans rfl, (blk_cell BK163.out 2).trans rfl, (blk_cell BK162.out 0).trans rfl, (blk_cell BK162.out 1).trans rfl, (blk_cell BK162.out 2).trans rfl⟩ (fun hHeld => ?_)
      clear hK K
      refine norm_ (a' := ?_) ?_ ?_
      rotate_left
      · show Act.put _ (some 9) _ = _
        simp only [Act.put, List.setIfInBounds_toArray, List.set_cons_zero, List.set_cons_succ, i64_w, i32_w]
        rfl
      refine pure_ (i := 4) (N := some 10) (v := ?_) (a' := ?_) #[true, true, true, true, true, false, false, false, false, false, false] rfl rfl (any_of HT_.out (by kernel_rfl)) (fun _ _ _ h => h) (Or.inl ⟨by rfl, ?_⟩) ?_ ?_
      rotate_left
      · intro w'
        go_simp
        with_reducible rfl
      rotate_left
      · simp only [Act.put, List.setIfInBounds_toArray, List.set_cons_zero, List.set_cons_succ, i64_w, i32_w]
        rfl
      refine pure_ (i := 5) (N := some 11) (v := ?_) (a' := ?_) #[true, true, true, true, true, true, false, false, false, false, false] rfl rfl (any_of HT_.out (by kernel_rfl)) (fun _ _ _ h => h) (Or.inl ⟨by rfl, ?_⟩) ?_ ?_
      rotate_left
      · intro w'
        go_simp
        with_reducible rfl
      rotate_left
      · simp only [Act.put, List.setIfInBounds_toArray, List.set_cons_zero, List.set_cons_succ, i64_w, i32_w]
        rfl
      refine pure_ (i := 6) (N := some 12) (v := undef) (a' := ?_) #[true, true, true, true, true, true, true, false, false, false, false] rfl rfl (any_of HT_.out (by kernel_rfl)) (fun _ _ _ h => h) (Or.inr ⟨by rfl, rfl⟩) ?_ ?_
      rotate_left
      · simp only [Act.put, List.setIfInBounds_toArray, List.set_cons_zero, List.set_cons_succ, i64_w, i32_w]
        rfl
      refine pure_ (i := 7) (N := some 13) (v := undef) (a' := ?_) #[true, true, true, true, true, true, true, true, false, false, false] rfl rfl (any_of HT_.out (by kernel_rfl)) (fun _ _ _ h => h) (Or.inr ⟨by rfl, rfl⟩) ?_ ?_
      rotate_left
      · simp only [Act.put, List.setIfInBounds_toArray, List.set_cons_zero, List.set_cons_succ, i64_w, i32_w]
        rfl
      refine pure_ (i := 8) (N := some 14) (v := undef) (a' := ?_) #[true, true, true, true, true, true, true, true, true, false, false] rfl rfl (any_of HT_.out (by kernel_rfl)) (fun _ _ _ h => h) (Or.inr ⟨by rfl, rfl⟩) ?_ ?_
      rotate_left
      · simp only [Act.put, List.setIfInBounds_toArray, List.set_cons_zero, List.set_cons_succ, i64_w, i32_w]
        rfl
      refine pure_ (i := 9) (N := some 15) (v := ?_) (a' := ?_) #[true, true, true, true, true, true, true, true, true, true, false] rfl rfl (any_of HT_.out (by kernel_rfl)) (fun _ _ _ h => h) (Or.inl ⟨by rfl, ?_⟩) ?_ ?_
      rotate_left
      · intro w'
        go_simp
        with_reducible rfl
      rotate_left
      · simp only [Act.put, List.setIfInBounds_toArray, List.set_cons_zero, List.set_cons_succ, i64_w, i32_w]
        rfl
      refine pure_ (i := 10) (N := some 5) (v := ?_) (a' := ?_) #[true, true, true, true, true, true, true, true, true, true, true] rfl rfl (any_of HT_.out (by kernel_rfl)) (fun _ _ _ h => h) (Or.inl ⟨by rfl, ?_⟩) ?_ ?_
      rotate_left
      · intro w'
        go_simp
        with_reducible rfl
      rotate_left
      · simp only [Act.put, List.setIfInBounds_toArray, List.set_cons_zero, List.set_cons_succ, i64_w, i32_w]
        rfl
      refine done_ (done_of HT_.out (by kernel_rfl)) ?_
      try go_wp2
      go_meet
      case rel => exact ⟨_, (false), (by first | rfl | (simp; done) | (simp [*]; done)), H', ⟨by first | omega | exact Nat.le_refl _⟩, ⟨by (with_reducible repeat (first | refine blk_drewN ?_ _ | refine blk_drew ?_ | refine blk_alloc ?_ _)); exact BK162.out⟩, ⟨by (with_reducible repeat (first | refine blk_drewN ?_ _ | refine blk_drew ?_ | refine blk_alloc ?_ _)); exact BK163.out⟩, ⟨by repeat (first | (with_reducible first | exact HB.out | apply below_alloc | apply pw_below_drewN | apply below_drew1 | refine below_set ?_ GE162.out | refine below_set ?_ GE163.out) | exact HB.out)⟩⟩
  case rest =>
    clear HC3
    try clear p2
    try clear c7
    try clear c7b0
    try clear c7b1
    try clear c9
    obtain ⟨kq, x5_2, rfl, HA, HJ2, BK162, BK163, HB⟩ := hcut
    cases kq with
    | zero => exact absurd HA.out (by simp [fbits_width_class.j0])
    | succ kj2 =>
      have H := HA.out
      clear HA
      simp only [fbits_width_class.j0] at H
      by_cases c12 : x5_2 = true
      · subst c12
        have H1 : (some 4) = some r := by rw [if_pos rfl] at H; exact H
        clear H
        have H := H1
        clear H1
        obtain rfl := Option.some.inj H
        go_wp2
        go_ret
        exact ⟨by first | rfl | (simp [errW_none, errW_some] <;> rfl) | (simp [*, errW_none, errW_some] <;> rfl), by repeat (first | (with_reducible first | exact HB.out | apply below_alloc | apply pw_below_drewN | apply below_drew1 | refine below_set ?_ GE162.out | refine below_set ?_ GE163.out) | exact HB.out)⟩
      · replace c12 := Bool.eq_false_iff.mpr c12
        subst c12
        have H1 : ((fbits_width_top.f a0_0 a0_1 a0_2).bind fun t165 => (if a1_1 = t165 then (some 3) else (if a1_1 = 0 then (if a1_2 = 0 then (some 0) else (some 1)) else (some 2)))) = some r := by rw [if_neg (show ¬ (false = true) by decide)] at H; exact H
        clear H
        have H := H1
        clear H1
        replace H := Option.bind_eq_some_iff.mp H
        obtain ⟨t165, A130, H⟩ := H
        replace H : (if a1_1 = t165 then (some 3) else (if a1_1 = 0 then (if a1_2 = 0 then (some 0) else (some 1)) else (some 2))) = some r := H
        have A13 := Aside0.mk A130
        clear A130
        by_cases c14 : a1_1 = t165
        · rw [if_pos c14] at H
          have c14b0 : (a1_1 == t165) = true := beq_iff_eq.mpr c14
          have c14b1 : (a1_1 != t165) = false := bne_eq_false_iff_eq.mpr c14
          clear c14
          obtain rfl := Option.some.inj H
          try go_wp2
          have n0_ := Aside0.mk (blk_drew BK162.out)
          have n1_ := Aside0.mk (blk_drew BK163.out)
          have n2_ := Aside0.mk (below_drew1 HB.out)
          clear BK162
          clear BK163
          clear HB
          have BK162 := n0_
          have BK163 := n1_
          have HB := n2_
          clear n0_ n1_ n2_
          refine start_ (n := 6) (S := fun w' => w'.cell? ⟨gb163, 0, none⟩ = some (.bool a1_0) ∧ w'.cell? ⟨gb163, 1, none⟩ = some (.int .i64 a1_1) ∧ w'.cell? ⟨gb163, 2, none⟩ = some (.int .u64 a1_2) ∧ w'.cell? ⟨gb162, 0, none⟩ = some (.int .i64 a0_0) ∧ w'.cell? ⟨gb162, 1, none⟩ = some (.int .i64 a0_1) ∧ w'.cell? ⟨gb162, 2, none⟩ = some (.int .i64 a0_2)) (ds := []) #[false, false, false, false, false, false] (by kernel_rfl) rfl rfl ⟨(blk_cell BK163.out 0).trans rfl, (blk_cell BK163.out 1).trans rfl, (blk_cell BK163.out 2).trans rfl, (blk_cell BK162.out 0).trans rfl, (blk_cell BK162.out 1).trans rfl, (blk_cell BK162.out 2).trans rfl⟩ (fun hHeld => ?_)
          generalize wc.drew = w15 at BK162 BK163 HB hHeld ⊢
          refine pure_ (i := 0) (N := some 17) (v := ?_) (a' := ?_) #[true, false, false, false, false, false] rfl rfl (by kernel_rfl) (fun _ _ _ h => h) (Or.inl ⟨by rfl, ?_⟩) ?_ ?_
          rotate_left
          · intro w'
            go_simp
            with_reducible rfl
          rotate_left
          · simp only [Act.put, List.setIfInBounds_toArray, List.set_cons_zero, List.set_cons_succ, i64_w, i32_w]
            rfl
          refine take_ (i := 1) (N := some 18) (v := ?_) (a' := ?_) #[true, true, false, false, false, false] rfl rfl (by kernel_rfl) (fun _ _ _ h => h) (Or.inl ⟨by rfl, ?_⟩) hHeld ?_ ?_
          rotate_left
          · rintro w' ⟨s0, s1, s2, s3, s4, s5⟩
            go_simp
            with_reducible rfl
          rotate_left
          · simp only [Act.put, List.setIfInBounds_toArray, List.set_cons_zero, List.set_cons_succ, i64_w, i32_w]
            rfl
          refine take_ (i := 2) (N := some 19) (v := ?_) (a' := ?_) #[true, true, true, false, false, false] rfl rfl (by kernel_rfl) (fun _ _ _ h => h) (Or.inl ⟨by rfl, ?_⟩) hHeld ?_ ?_
          rotate_left
          · rintro w' ⟨s0, s1, s2, s3, s4, s5⟩
            go_simp
            with_reducible rfl
          rotate_left
          · simp only [Act.put, List.setIfInBounds_toArray, List.set_cons_zero, List.set_cons_succ, i64_w, i32_w]
            rfl
          refine one_ (i := 3) (N := some 20) #[true, true, true, true, false, false] rfl rfl (by kernel_rfl) (by decide) (fun K hK => ?_)
          refine goes_ Tryz.func99 (by kernel_rfl) rfl #[.agg #[.int .i64 a0_0, .int .i64 a0_1, .int .i64 a0_2]] (by rfl) rfl rfl (by (try simp only [List.map_toArray, List.map_cons, List.map_nil]); first | done | rfl | (simp only [List.length_drop, List.length_take]; rfl)) ?_
          with_reducible refine (fbits_width_top.calls a0_0 a0_1 a0_2 t165 _ A13.out).mono ?_
          rintro e w16 ⟨rfl, hb⟩
          refine ⟨_, rfl, ?_⟩
          have n0_ := Aside0.mk (blk_below (g := gb162) (o := .cells #[.int .i64 a0_0, .int .i64 a0_1, .int .i64 a0_2] 168 (0, 0)) (by (with_reducible repeat (first | refine blk_drewN ?_ _ | refine blk_drew ?_ | refine blk_alloc ?_ _)); exact BK162.out) hb)
          have n1_ := Aside0.mk (blk_below (g := gb163) (o := .cells #[.bool a1_0, .int .i64 a1_1, .int .u64 a1_2] 172 (0, 0)) (by (with_reducible repeat (first | refine blk_drewN ?_ _ | refine blk_drew ?_ | refine blk_alloc ?_ _)); exact BK163.out) hb)
          have n2_ := Aside0.mk (below_step (by repeat (first | (with_reducible first | exact HB.out | apply below_alloc | apply pw_below_drewN | apply below_drew1 | refine below_set ?_ GE162.out | refine below_set ?_ GE163.out) | exact HB.out)) hb)
          clear BK162
          clear BK163
          clear HB
          have BK162 := n0_
          have BK163 := n1_
          have HB := n2_
          clear n0_ n1_ n2_
          (try clear hb)
          (try clear hb2)
          (try clear hk)
          (try clear hi)
          refine hK.out _ _ ⟨(blk_cell BK163.out 0).trans rfl, (blk_cell BK163.out 1).trans rfl, (blk_cell BK163.out 2).trans rfl, (blk_cell BK162.out 0).trans rfl, (blk_cell BK162.out 1).trans rfl, (blk_cell BK162.out 2).trans rfl⟩ (fun hHeld => ?_)
          clear hK K
          refine norm_ (a' := ?_) ?_ ?_
          rotate_left
          · show Act.put _ (some 20) _ = _
            simp only [Act.put, List.setIfInBounds_toArray, List.set_cons_zero, List.set_cons_succ, i64_w, i32_w]
            rfl
          refine pure_ (i := 4) (N := some 21) (v := ?_) (a' := ?_) #[true, true, true, true, true, false] rfl rfl (by kernel_rfl) (fun _ _ _ h => h) (Or.inl ⟨by rfl, ?_⟩) ?_ ?_
          rotate_left
          · intro w'
            go_simp
            with_reducible rfl
          rotate_left
          · simp only [Act.put, List.setIfInBounds_toArray, List.set_cons_zero, List.set_cons_succ, i64_w, i32_w]
            rfl
          refine pure_ (i := 5) (N := some 16) (v := ?_) (a' := ?_) #[true, true, true, true, true, true] rfl rfl (by kernel_rfl) (fun _ _ _ h => h) (Or.inl ⟨by rfl, ?_⟩) ?_ ?_
          rotate_left
          · intro w'
            go_simp
            with_reducible rfl
          rotate_left
          · simp only [Act.put, List.setIfInBounds_toArray, List.set_cons_zero, List.set_cons_succ, i64_w, i32_w]
            rfl
          refine done_ (by kernel_rfl) ?_
          try go_wp2
          go_ret
          exact ⟨by first | rfl | (simp [errW_none, errW_some] <;> rfl) | (simp [*, errW_none, errW_some] <;> rfl), by repeat (first | (with_reducible first | exact HB.out | apply below_alloc | apply pw_below_drewN | apply below_drew1 | refine below_set ?_ GE162.out | refine below_set ?_ GE163.out) | exact HB.out)⟩
        · rw [if_neg c14] at H
          have c14b0 : (a1_1 == t165) = false := beq_eq_false_iff_ne.mpr c14
          have c14b1 : (a1_1 != t165) = true := bne_iff_ne.mpr c14
          by_cases c17 : a1_1 = 0
          · rw [if_pos c17] at H
            have c17b0 : (a1_1 == 0) = true := beq_iff_eq.mpr c17
            have c17b1 : (a1_1 != 0) = false := bne_eq_false_iff_eq.mpr c17
            clear c17
            by_cases c18 : a1_2 = 0
            · rw [if_pos c18] at H
              have c18b0 : (a1_2 == 0) = true := beq_iff_eq.mpr c18
              have c18b1 : (a1_2 != 0) = false := bne_eq_false_iff_eq.mpr c18
              clear c18
              obtain rfl := Option.some.inj H
              try go_wp2
              have n0_ := Aside0.mk (blk_drew BK162.out)
              have n1_ := Aside0.mk (blk_drew BK163.out)
              have n2_ := Aside0.mk (below_drew1 HB.out)
              clear BK162
              clear BK163
              clear HB
              have BK162 := n0_
              have BK163 := n1_
              have HB := n2_
              clear n0_ n1_ n2_
              refine start_ (n := 6) (S := fun w' => w'.cell? ⟨gb163, 0, none⟩ = some (.bool a1_0) ∧ w'.cell? ⟨gb163, 1, none⟩ = some (.int .i64 a1_1) ∧ w'.cell? ⟨gb163, 2, none⟩ = some (.int .u64 a1_2) ∧ w'.cell? ⟨gb162, 0, none⟩ = some (.int .i64 a0_0) ∧ w'.cell? ⟨gb162, 1, none⟩ = some (.int .i64 a0_1) ∧ w'.cell? ⟨gb162, 2, none⟩ = some (.int .i64 a0_2)) (ds := []) #[false, false, false, false, false, false] (by kernel_rfl) rfl rfl ⟨(blk_cell BK163.out 0).trans rfl, (blk_cell BK163.out 1).trans rfl, (blk_cell BK163.out 2).trans rfl, (blk_cell BK162.out 0).trans rfl, (blk_cell BK162.out 1).trans rfl, (blk_cell BK162.out 2).trans rfl⟩ (fun hHeld => ?_)
              generalize wc.drew = w19 at BK162 BK163 HB hHeld ⊢
              refine pure_ (i := 0) (N := some 17) (v := ?_) (a' := ?_) #[true, false, false, false, false, false] rfl rfl (by kernel_rfl) (fun _ _ _ h => h) (Or.inl ⟨by rfl, ?_⟩) ?_ ?_
              rotate_left
              · intro w'
                go_simp
                with_reducible rfl
              rotate_left
              · simp only [Act.put, List.setIfInBounds_toArray, List.set_cons_zero, List.set_cons_succ, i64_w, i32_w]
                rfl
              refine take_ (i := 1) (N := some 18) (v := ?_) (a' := ?_) #[true, true, false, false, false, false] rfl rfl (by kernel_rfl) (fun _ _ _ h => h) (Or.inl ⟨by rfl, ?_⟩) hHeld ?_ ?_
              rotate_left
              · rintro w' ⟨s0, s1, s2, s3, s4, s5⟩
                go_simp
                with_reducible rfl
              rotate_left
              · simp only [Act.put, List.setIfInBounds_toArray, List.set_cons_zero, List.set_cons_succ, i64_w, i32_w]
                rfl
              refine take_ (i := 2) (N := some 19) (v := ?_) (a' := ?_) #[true, true, true, false, false, false] rfl rfl (by kernel_rfl) (fun _ _ _ h => h) (Or.inl ⟨by rfl, ?_⟩) hHeld ?_ ?_
              rotate_left
              · rintro w' ⟨s0, s1, s2, s3, s4, s5⟩
                go_simp
                with_reducible rfl
              rotate_left
              · simp only [Act.put, List.setIfInBounds_toArray, List.set_cons_zero, List.set_cons_succ, i64_w, i32_w]
                rfl
              refine one_ (i := 3) (N := some 20) #[true, true, true, true, false, false] rfl rfl (by kernel_rfl) (by decide) (fun K hK => ?_)
              refine goes_ Tryz.func99 (by kernel_rfl) rfl #[.agg #[.int .i64 a0_0, .int .i64 a0_1, .int .i64 a0_2]] (by rfl) rfl rfl (by (try simp only [List.map_toArray, List.map_cons, List.map_nil]); first | done | rfl | (simp only [List.length_drop, List.length_take]; rfl)) ?_
              with_reducible refine (fbits_width_top.calls a0_0 a0_1 a0_2 t165 _ A13.out).mono ?_
              rintro e w20 ⟨rfl, hb⟩
              refine ⟨_, rfl, ?_⟩
              have n0_ := Aside0.mk (blk_below (g := gb162) (o := .cells #[.int .i64 a0_0, .int .i64 a0_1, .int .i64 a0_2] 168 (0, 0)) (by (with_reducible repeat (first | refine blk_drewN ?_ _ | refine blk_drew ?_ | refine blk_alloc ?_ _)); exact BK162.out) hb)
              have n1_ := Aside0.mk (blk_below (g := gb163) (o := .cells #[.bool a1_0, .int .i64 a1_1, .int .u64 a1_2] 172 (0, 0)) (by (with_reducible repeat (first | refine blk_drewN ?_ _ | refine blk_drew ?_ | refine blk_alloc ?_ _)); exact BK163.out) hb)
              have n2_ := Aside0.mk (below_step (by repeat (first | (with_reducible first | exact HB.out | apply below_alloc | apply pw_below_drewN | apply below_drew1 | refine below_set ?_ GE162.out | refine below_set ?_ GE163.out) | exact HB.out)) hb)
              clear BK162
              clear BK163
              clear HB
              have BK162 := n0_
              have BK163 := n1_
              have HB := n2_
              clear n0_ n1_ n2_
              (try clear hb)
              (try clear hb2)
              (try clear hk)
              (try clear hi)
              refine hK.out _ _ ⟨(blk_cell BK163.out 0).trans rfl, (blk_cell BK163.out 1).trans rfl, (blk_cell BK163.out 2).trans rfl, (blk_cell BK162.out 0).trans rfl, (blk_cell BK162.out 1).trans rfl, (blk_cell BK162.out 2).trans rfl⟩ (fun hHeld => ?_)
              clear hK K
              refine norm_ (a' := ?_) ?_ ?_
              rotate_left
              · show Act.put _ (some 20) _ = _
                simp only [Act.put, List.setIfInBounds_toArray, List.set_cons_zero, List.set_cons_succ, i64_w, i32_w]
                rfl
              refine pure_ (i := 4) (N := some 21) (v := ?_) (a' := ?_) #[true, true, true, true, true, false] rfl rfl (by kernel_rfl) (fun _ _ _ h => h) (Or.inl ⟨by rfl, ?_⟩) ?_ ?_
              rotate_left
              · intro w'
                go_simp
                with_reducible rfl
              rotate_left
              · simp only [Act.put, List.setIfInBounds_toArray, List.set_cons_zero, List.set_cons_succ, i64_w, i32_w]
                rfl
              refine pure_ (i := 5) (N := some 16) (v := ?_) (a' := ?_) #[true, true, true, true, true, true] rfl rfl (by kernel_rfl) (fun _ _ _ h => h) (Or.inl ⟨by rfl, ?_⟩) ?_ ?_
              rotate_left
              · intro w'
                go_simp
                with_reducible rfl
              rotate_left
              · simp only [Act.put, List.setIfInBounds_toArray, List.set_cons_zero, List.set_cons_succ, i64_w, i32_w]
                rfl
              refine done_ (by kernel_rfl) ?_
              have hnb21 := NB163_162.out
              have hnc21 := NB162_163.out
              have hcz22_0 : w20.cell? ⟨gb163, 0, none⟩ = some (.bool a1_0) := (blk_cell BK163.out 0).trans rfl
              have hcz22_1 : w20.cell? ⟨gb163, 1, none⟩ = some (.int .i64 a1_1) := (blk_cell BK163.out 1).trans rfl
              have hcz22_2 : w20.cell? ⟨gb163, 2, none⟩ = some (.int .u64 a1_2) := (blk_cell BK163.out 2).trans rfl
              have hfz22_0 := blk_frozen BK163.out 0
              have hfz22_1 := blk_frozen BK163.out 1
              have hfz22_2 := blk_frozen BK163.out 2
              try go_wp2
              go_ret
              exact ⟨by first | rfl | (simp [errW_none, errW_some] <;> rfl) | (simp [*, errW_none, errW_some] <;> rfl), by repeat (first | (with_reducible first | exact HB.out | apply below_alloc | apply pw_below_drewN | apply below_drew1 | refine below_set ?_ GE162.out | refine below_set ?_ GE163.out) | exact HB.out)⟩
            · rw [if_neg c18] at H
              have c18b0 : (a1_2 == 0) = false := beq_eq_false_iff_ne.mpr c18
              have c18b1 : (a1_2 != 0) = true := bne_iff_ne.mpr c18
              obtain rfl := Option.some.inj H
              try go_wp2
              have n0_ := Aside0.mk (blk_drew BK162.out)
              have n1_ := Aside0.mk (blk_drew BK163.out)
              have n2_ := Aside0.mk (below_drew1 HB.out)
              clear BK162
              clear BK163
              clear HB
              have BK162 := n0_
              have BK163 := n1_
              have HB := n2_
              clear n0_ n1_ n2_
              refine start_ (n := 6) (S := fun w' => w'.cell? ⟨gb163, 0, none⟩ = some (.bool a1_0) ∧ w'.cell? ⟨gb163, 1, none⟩ = some (.int .i64 a1_1) ∧ w'.cell? ⟨gb163, 2, none⟩ = some (.int .u64 a1_2) ∧ w'.cell? ⟨gb162, 0, none⟩ = some (.int .i64 a0_0) ∧ w'.cell? ⟨gb162, 1, none⟩ = some (.int .i64 a0_1) ∧ w'.cell? ⟨gb162, 2, none⟩ = some (.int .i64 a0_2)) (ds := []) #[false, false, false, false, false, false] (by kernel_rfl) rfl rfl ⟨(blk_cell BK163.out 0).trans rfl, (blk_cell BK163.out 1).trans rfl, (blk_cell BK163.out 2).trans rfl, (blk_cell BK162.out 0).trans rfl, (blk_cell BK162.out 1).trans rfl, (blk_cell BK162.out 2).trans rfl⟩ (fun hHeld => ?_)
              generalize wc.drew = w23 at BK162 BK163 HB hHeld ⊢
              refine pure_ (i := 0) (N := some 17) (v := ?_) (a' := ?_) #[true, false, false, false, false, false] rfl rfl (by kernel_rfl) (fun _ _ _ h => h) (Or.inl ⟨by rfl, ?_⟩) ?_ ?_
              rotate_left
              · intro w'
                go_simp
                with_reducible rfl
              rotate_left
              · simp only [Act.put, List.setIfInBounds_toArray, List.set_cons_zero, List.set_cons_succ, i64_w, i32_w]
                rfl
              refine take_ (i := 1) (N := some 18) (v := ?_) (a' := ?_) #[true, true, false, false, false, false] rfl rfl (by kernel_rfl) (fun _ _ _ h => h) (Or.inl ⟨by rfl, ?_⟩) hHeld ?_ ?_
              rotate_left
              · rintro w' ⟨s0, s1, s2, s3, s4, s5⟩
                go_simp
                with_reducible rfl
              rotate_left
              · simp only [Act.put, List.setIfInBounds_toArray, List.set_cons_zero, List.set_cons_succ, i64_w, i32_w]
                rfl
              refine take_ (i := 2) (N := some 19) (v := ?_) (a' := ?_) #[true, true, true, false, false, false] rfl rfl (by kernel_rfl) (fun _ _ _ h => h) (Or.inl ⟨by rfl, ?_⟩) hHeld ?_ ?_
              rotate_left
              · rintro w' ⟨s0, s1, s2, s3, s4, s5⟩
                go_simp
                with_reducible rfl
              rotate_left
              · simp only [Act.put, List.setIfInBounds_toArray, List.set_cons_zero, List.set_cons_succ, i64_w, i32_w]
                rfl
              refine one_ (i := 3) (N := some 20) #[true, true, true, true, false, false] rfl rfl (by kernel_rfl) (by decide) (fun K hK => ?_)
              refine goes_ Tryz.func99 (by kernel_rfl) rfl #[.agg #[.int .i64 a0_0, .int .i64 a0_1, .int .i64 a0_2]] (by rfl) rfl rfl (by (try simp only [List.map_toArray, List.map_cons, List.map_nil]); first | done | rfl | (simp only [List.length_drop, List.length_take]; rfl)) ?_
              with_reducible refine (fbits_width_top.calls a0_0 a0_1 a0_2 t165 _ A13.out).mono ?_
              rintro e w24 ⟨rfl, hb⟩
              refine ⟨_, rfl, ?_⟩
              have n0_ := Aside0.mk (blk_below (g := gb162) (o := .cells #[.int .i64 a0_0, .int .i64 a0_1, .int .i64 a0_2] 168 (0, 0)) (by (with_reducible repeat (first | refine blk_drewN ?_ _ | refine blk_drew ?_ | refine blk_alloc ?_ _)); exact BK162.out) hb)
              have n1_ := Aside0.mk (blk_below (g := gb163) (o := .cells #[.bool a1_0, .int .i64 a1_1, .int .u64 a1_2] 172 (0, 0)) (by (with_reducible repeat (first | refine blk_drewN ?_ _ | refine blk_drew ?_ | refine blk_alloc ?_ _)); exact BK163.out) hb)
              have n2_ := Aside0.mk (below_step (by repeat (first | (with_reducible first | exact HB.out | apply below_alloc | apply pw_below_drewN | apply below_drew1 | refine below_set ?_ GE162.out | refine below_set ?_ GE163.out) | exact HB.out)) hb)
              clear BK162
              clear BK163
              clear HB
              have BK162 := n0_
              have BK163 := n1_
              have HB := n2_
              clear n0_ n1_ n2_
              (try clear hb)
              (try clear hb2)
              (try clear hk)
              (try clear hi)
              refine hK.out _ _ ⟨(blk_cell BK163.out 0).trans rfl, (blk_cell BK163.out 1).trans rfl, (blk_cell BK163.out 2).trans rfl, (blk_cell BK162.out 0).trans rfl, (blk_cell BK162.out 1).trans rfl, (blk_cell BK162.out 2).trans rfl⟩ (fun hHeld => ?_)
              clear hK K
              refine norm_ (a' := ?_) ?_ ?_
              rotate_left
              · show Act.put _ (some 20) _ = _
                simp only [Act.put, List.setIfInBounds_toArray, List.set_cons_zero, List.set_cons_succ, i64_w, i32_w]
                rfl
              refine pure_ (i := 4) (N := some 21) (v := ?_) (a' := ?_) #[true, true, true, true, true, false] rfl rfl (by kernel_rfl) (fun _ _ _ h => h) (Or.inl ⟨by rfl, ?_⟩) ?_ ?_
              rotate_left
              · intro w'
                go_simp
                with_reducible rfl
              rotate_left
              · simp only [Act.put, List.setIfInBounds_toArray, List.set_cons_zero, List.set_cons_succ, i64_w, i32_w]
                rfl
              refine pure_ (i := 5) (N := some 16) (v := ?_) (a' := ?_) #[true, true, true, true, true, true] rfl rfl (by kernel_rfl) (fun _ _ _ h => h) (Or.inl ⟨by rfl, ?_⟩) ?_ ?_
              rotate_left
              · intro w'
                go_simp
                with_reducible rfl
              rotate_left
              · simp only [Act.put, List.setIfInBounds_toArray, List.set_cons_zero, List.set_cons_succ, i64_w, i32_w]
                rfl
              refine done_ (by kernel_rfl) ?_
              have hnb25 := NB163_162.out
              have hnc25 := NB162_163.out
              have hcz26_0 : w24.cell? ⟨gb163, 0, none⟩ = some (.bool a1_0) := (blk_cell BK163.out 0).trans rfl
              have hcz26_1 : w24.cell? ⟨gb163, 1, none⟩ = some (.int .i64 a1_1) := (blk_cell BK163.out 1).trans rfl
              have hcz26_2 : w24.cell? ⟨gb163, 2, none⟩ = some (.int .u64 a1_2) := (blk_cell BK163.out 2).trans rfl
              have hfz26_0 := blk_frozen BK163.out 0
              have hfz26_1 := blk_frozen BK163.out 1
              have hfz26_2 := blk_frozen BK163.out 2
              try go_wp2
              go_ret
              exact ⟨by first | rfl | (simp [errW_none, errW_some] <;> rfl) | (simp [*, errW_none, errW_some] <;> rfl), by repeat (first | (with_reducible first | exact HB.out | apply below_alloc | apply pw_below_drewN | apply below_drew1 | refine below_set ?_ GE162.out | refine below_set ?_ GE163.out) | exact HB.out)⟩
          · rw [if_neg c17] at H
            have c17b0 : (a1_1 == 0) = false := beq_eq_false_iff_ne.mpr c17
            have c17b1 : (a1_1 != 0) = true := bne_iff_ne.mpr c17
            obtain rfl := Option.some.inj H
            try go_wp2
            have n0_ := Aside0.mk (blk_drew BK162.out)
            have n1_ := Aside0.mk (blk_drew BK163.out)
            have n2_ := Aside0.mk (below_drew1 HB.out)
            clear BK162
            clear BK163
            clear HB
            have BK162 := n0_
            have BK163 := n1_
            have HB := n2_
            clear n0_ n1_ n2_
            refine start_ (n := 6) (S := fun w' => w'.cell? ⟨gb163, 0, none⟩ = some (.bool a1_0) ∧ w'.cell? ⟨gb163, 1, none⟩ = some (.int .i64 a1_1) ∧ w'.cell? ⟨gb163, 2, none⟩ = some (.int .u64 a1_2) ∧ w'.cell? ⟨gb162, 0, none⟩ = some (.int .i64 a0_0) ∧ w'.cell? ⟨gb162, 1, none⟩ = some (.int .i64 a0_1) ∧ w'.cell? ⟨gb162, 2, none⟩ = some (.int .i64 a0_2)) (ds := []) #[false, false, false, false, false, false] (by kernel_rfl) rfl rfl ⟨(blk_cell BK163.out 0).trans rfl, (blk_cell BK163.out 1).trans rfl, (blk_cell BK163.out 2).trans rfl, (blk_cell BK162.out 0).trans rfl, (blk_cell BK162.out 1).trans rfl, (blk_cell BK162.out 2).trans rfl⟩ (fun hHeld => ?_)
            generalize wc.drew = w27 at BK162 BK163 HB hHeld ⊢
            refine pure_ (i := 0) (N := some 17) (v := ?_) (a' := ?_) #[true, false, false, false, false, false] rfl rfl (by kernel_rfl) (fun _ _ _ h => h) (Or.inl ⟨by rfl, ?_⟩) ?_ ?_
            rotate_left
            · intro w'
              go_simp
              with_reducible rfl
            rotate_left
            · simp only [Act.put, List.setIfInBounds_toArray, List.set_cons_zero, List.set_cons_succ, i64_w, i32_w]
              rfl
            refine take_ (i := 1) (N := some 18) (v := ?_) (a' := ?_) #[true, true, false, false, false, false] rfl rfl (by kernel_rfl) (fun _ _ _ h => h) (Or.inl ⟨by rfl, ?_⟩) hHeld ?_ ?_
            rotate_left
            · rintro w' ⟨s0, s1, s2, s3, s4, s5⟩
              go_simp
              with_reducible rfl
            rotate_left
            · simp only [Act.put, List.setIfInBounds_toArray, List.set_cons_zero, List.set_cons_succ, i64_w, i32_w]
              rfl
            refine take_ (i := 2) (N := some 19) (v := ?_) (a' := ?_) #[true, true, true, false, false, false] rfl rfl (by kernel_rfl) (fun _ _ _ h => h) (Or.inl ⟨by rfl, ?_⟩) hHeld ?_ ?_
            rotate_left
            · rintro w' ⟨s0, s1, s2, s3, s4, s5⟩
              go_simp
              with_reducible rfl
            rotate_left
            · simp only [Act.put, List.setIfInBounds_toArray, List.set_cons_zero, List.set_cons_succ, i64_w, i32_w]
              rfl
            refine one_ (i := 3) (N := some 20) #[true, true, true, true, false, false] rfl rfl (by kernel_rfl) (by decide) (fun K hK => ?_)
            refine goes_ Tryz.func99 (by kernel_rfl) rfl #[.agg #[.int .i64 a0_0, .int .i64 a0_1, .int .i64 a0_2]] (by rfl) rfl rfl (by (try simp only [List.map_toArray, List.map_cons, List.map_nil]); first | done | rfl | (simp only [List.length_drop, List.length_take]; rfl)) ?_
            with_reducible refine (fbits_width_top.calls a0_0 a0_1 a0_2 t165 _ A13.out).mono ?_
            rintro e w28 ⟨rfl, hb⟩
            refine ⟨_, rfl, ?_⟩
            have n0_ := Aside0.mk (blk_below (g := gb162) (o := .cells #[.int .i64 a0_0, .int .i64 a0_1, .int .i64 a0_2] 168 (0, 0)) (by (with_reducible repeat (first | refine blk_drewN ?_ _ | refine blk_drew ?_ | refine blk_alloc ?_ _)); exact BK162.out) hb)
            have n1_ := Aside0.mk (blk_below (g := gb163) (o := .cells #[.bool a1_0, .int .i64 a1_1, .int .u64 a1_2] 172 (0, 0)) (by (with_reducible repeat (first | refine blk_drewN ?_ _ | refine blk_drew ?_ | refine blk_alloc ?_ _)); exact BK163.out) hb)
            have n2_ := Aside0.mk (below_step (by repeat (first | (with_reducible first | exact HB.out | apply below_alloc | apply pw_below_drewN | apply below_drew1 | refine below_set ?_ GE162.out | refine below_set ?_ GE163.out) | exact HB.out)) hb)
            clear BK162
            clear BK163
            clear HB
            have BK162 := n0_
            have BK163 := n1_
            have HB := n2_
            clear n0_ n1_ n2_
            (try clear hb)
            (try clear hb2)
            (try clear hk)
            (try clear hi)
            refine hK.out _ _ ⟨(blk_cell BK163.out 0).trans rfl, (blk_cell BK163.out 1).trans rfl, (blk_cell BK163.out 2).trans rfl, (blk_cell BK162.out 0).trans rfl, (blk_cell BK162.out 1).trans rfl, (blk_cell BK162.out 2).trans rfl⟩ (fun hHeld => ?_)
            clear hK K
            refine norm_ (a' := ?_) ?_ ?_
            rotate_left
            · show Act.put _ (some 20) _ = _
              simp only [Act.put, List.setIfInBounds_toArray, List.set_cons_zero, List.set_cons_succ, i64_w, i32_w]
              rfl
            refine pure_ (i := 4) (N := some 21) (v := ?_) (a' := ?_) #[true, true, true, true, true, false] rfl rfl (by kernel_rfl) (fun _ _ _ h => h) (Or.inl ⟨by rfl, ?_⟩) ?_ ?_
            rotate_left
            · intro w'
              go_simp
              with_reducible rfl
            rotate_left
            · simp only [Act.put, List.setIfInBounds_toArray, List.set_cons_zero, List.set_cons_succ, i64_w, i32_w]
              rfl
            refine pure_ (i := 5) (N := some 16) (v := ?_) (a' := ?_) #[true, true, true, true, true, true] rfl rfl (by kernel_rfl) (fun _ _ _ h => h) (Or.inl ⟨by rfl, ?_⟩) ?_ ?_
            rotate_left
            · intro w'
              go_simp
              with_reducible rfl
            rotate_left
            · simp only [Act.put, List.setIfInBounds_toArray, List.set_cons_zero, List.set_cons_succ, i64_w, i32_w]
              rfl
            refine done_ (by kernel_rfl) ?_
            have hnb29 := NB163_162.out
            have hnc29 := NB162_163.out
            have hcz30_0 : w28.cell? ⟨gb163, 0, none⟩ = some (.bool a1_0) := (blk_cell BK163.out 0).trans rfl
            have hcz30_1 : w28.cell? ⟨gb163, 1, none⟩ = some (.int .i64 a1_1) := (blk_cell BK163.out 1).trans rfl
            have hcz30_2 : w28.cell? ⟨gb163, 2, none⟩ = some (.int .u64 a1_2) := (blk_cell BK163.out 2).trans rfl
            have hfz30_0 := blk_frozen BK163.out 0
            have hfz30_1 := blk_frozen BK163.out 1
            have hfz30_2 := blk_frozen BK163.out 2
            try go_wp2
            go_ret
            exact ⟨by first | rfl | (simp [errW_none, errW_some] <;> rfl) | (simp [*, errW_none, errW_some] <;> rfl), by repeat (first | (with_reducible first | exact HB.out | apply below_alloc | apply pw_below_drewN | apply below_drew1 | refine below_set ?_ GE162.out | refine below_set ?_ GE163.out) | exact HB.out)⟩

end Go.Proofs.YtfmceonbejlhlaaGreatDoor.P

-- Written by a program of this session (joint.sh) out of the translation. Not trusted: Lean checks it.
namespace Go.Proofs.YtfmceonbejlhlaaGreatDoor.P
open Go.RowKit Go.Proofs.YtfmceonbejlhlaaGreatDoorW.PrintWords Go.Proofs.YtfmceonbejlhlaaGreatDoorW.PrintLast Go.Proofs.YtfmceonbejlhlaaGreatDoorW.PrintMore
attribute [local go_sem] max2_int min2_int max_two min_two max_three min_three max_four min_four   -- for this text's walks alone
set_option linter.unusedVariables false
set_option linter.unusedSimpArgs false

/-! ### fbits_width_bias: function 95 -/
def fbits_width_bias.f (a0_0 : Int) (a0_1 : Int) (a0_2 : Int) : Option (Int) := if 0 ≤ (wrap64 (a0_1 - 1)) then (some (wrap64 ((shl .i64 1 (wrap64 (a0_1 - 1))) - 1))) else (none)
set_option maxHeartbeats 8000000 in
set_option maxRecDepth 100000 in
theorem fbits_width_bias.calls (a0_0 : Int) (a0_1 : Int) (a0_2 : Int) (r : Int) (w : World) (h : fbits_width_bias.f a0_0 a0_1 a0_2 = some r) :
    Calls Tryz.prog 95 #[.agg #[.int .i64 a0_0, .int .i64 a0_1, .int .i64 a0_2]] w fun e w' => e = .returned (.int .i64 r) ∧ Below w.heap.size w w' := by
  have hu168 := Tryz.underlying168
  have HB := Aside0.mk (Below.refl w.heap.size w)
  have H : (if 0 ≤ (wrap64 (a0_1 - 1)) then (some (wrap64 ((shl .i64 1 (wrap64 (a0_1 - 1))) - 1))) else (none)) = some r := h
  clear h
  obtain ⟨ji2, hji2⟩ : ∃ j_ : Int, (wrap64 (a0_1 - 1)) = j_ := ⟨_, rfl⟩
  replace H : (if 0 ≤ (ji2) then (some (wrap64 ((shl .i64 1 (ji2)) - 1))) else (none)) = some r := by first | (rw [hji2] at H; exact H) | (simp only [hji2] at H ⊢; exact H)
  have hji2w : (IntKind.i64.wrap (a0_1 - 1)) = ji2 := (i64_w _).trans hji2
  by_cases c3 : 0 ≤ (ji2)
  · rw [if_pos c3] at H
    have c3b0 := eq_true c3
    have c3b1 : decide (0 ≤ (ji2)) = true := decide_eq_true c3
    clear c3
    obtain ⟨ji4, hji4⟩ : ∃ j_ : Int, (shl .i64 1 (ji2)) = j_ := ⟨_, rfl⟩
    replace H : (some (wrap64 ((ji4) - 1))) = some r := by first | (rw [hji4] at H; exact H) | (simp only [hji4] at H ⊢; exact H)
    have hji4_ : (IntKind.i64.wrap (1 * 2 ^ min (ji2).toNat 64)) = ji4 := hji4
    have hji4z : (ji2) ≤ 64 → (IntKind.i64.wrap (1 * 2 ^ (ji2).toNat)) = ji4 := shl_small hji4
    have hji4u : (IntKind.i64.wrap (2 ^ min (ji2).toNat 64)) = ji4 := by have h_ := hji4_; rw [Int.one_mul] at h_; exact h_
    have hji4v : (ji2) ≤ 64 → (IntKind.i64.wrap (2 ^ (ji2).toNat)) = ji4 := fun hle_ => by have h_ := hji4z hle_; rw [Int.one_mul] at h_; exact h_
    have hji4y : (wrap64 (1 * 2 ^ min (ji2).toNat 64)) = ji4 := (i64_w _).symm.trans hji4_
    have hji4x : (ji2) ≤ 64 → (wrap64 (1 * 2 ^ (ji2).toNat)) = ji4 := fun h_ => (i64_w _).symm.trans (hji4z h_)
    obtain rfl := Option.some.inj H
    go_enter Tryz.func95, Tryz.ntmps95
    go_wp2_with (first | ((with_reducible refine gate_dst (N := 1) rfl ?_); refine box_event ?hg (N := 1) ?hd (cs := #[.int .i64 a0_0, .int .i64 a0_1, .int .i64 a0_2]) (t := 168) ?hr ?_; (case hd => rfl); (case hg => rfl); (case hr => first | (go_simp; done) | (go_simp; rfl)); intro gb166 hg w5 hbox hb; have n0_ := Aside0.mk (below_step (by repeat (first | (with_reducible first | exact HB.out | apply below_alloc | apply pw_below_drewN | apply below_drew1) | exact HB.out)) hb); have n1_ := Aside0.mk (hbox); have n2_ := Aside0.mk ((by rw [hg]; exact (below_size (by repeat (first | (with_reducible first | exact HB.out | apply below_alloc | apply pw_below_drewN | apply below_drew1) | exact HB.out))) : w.heap.size ≤ gb166)); have n3_ := Aside0.mk ((by rw [hg]; exact (below_size (by repeat (first | (with_reducible first | exact HB.out | apply below_alloc | apply pw_below_drewN | apply below_drew1) | exact HB.out))) : w.heap.size ≤ gb166)); clear HB; have HB := n0_; have BK166 := n1_; have GW166 := n2_; have GE166 := n3_; clear n0_ n1_ n2_ n3_; clear hb hbox hg; have hcz6_0 : w5.cell? ⟨gb166, 0, none⟩ = some (.int .i64 a0_0) := (blk_cell BK166.out 0).trans rfl; have hcz6_1 : w5.cell? ⟨gb166, 1, none⟩ = some (.int .i64 a0_1) := (blk_cell BK166.out 1).trans rfl; have hcz6_2 : w5.cell? ⟨gb166, 2, none⟩ = some (.int .i64 a0_2) := (blk_cell BK166.out 2).trans rfl; have hfz6_0 := blk_frozen BK166.out 0; have hfz6_1 := blk_frozen BK166.out 1; have hfz6_2 := blk_frozen BK166.out 2))
    go_ret
    exact ⟨by first | rfl | (simp [errW_none, errW_some] <;> rfl) | (simp only [← hji2, ← hji4]; first | rfl | (simp [errW_none, errW_some] <;> rfl)) | (simp [*, errW_none, errW_some] <;> rfl), by repeat (first | (with_reducible first | exact HB.out | apply below_alloc | apply pw_below_drewN | apply below_drew1 | refine below_set ?_ GE166.out) | exact HB.out)⟩
  · rw [if_neg c3] at H
    exact absurd H (by simp)

end Go.Proofs.YtfmceonbejlhlaaGreatDoor.P

-- Written by a program of this session (joint.sh) out of the translation. Not trusted: Lean checks it.
namespace Go.Proofs.YtfmceonbejlhlaaGreatDoor.P
open Go.RowKit Go.Proofs.YtfmceonbejlhlaaGreatDoorW.PrintWords Go.Proofs.YtfmceonbejlhlaaGreatDoorW.PrintLast Go.Proofs.YtfmceonbejlhlaaGreatDoorW.PrintMore
attribute [local go_sem] max2_int min2_int max_two min_two max_three min_three max_four min_four   -- for this text's walks alone
set_option linter.unusedVariables false
set_option linter.unusedSimpArgs false

/-! ### fbits_width_join: function 98 -/
def fbits_width_join.f (a0_0 : Int) (a0_1 : Int) (a0_2 : Int) (a1_0 : Bool) (a1_1 : Int) (a1_2 : Int) : Option (Int) := if 0 ≤ a0_2 then (if a1_0 = true then (if 0 ≤ (wrap64 (a0_0 - 1)) then (some (Go.bits .or .u64 (Go.bits .or .u64 (shl .u64 (IntKind.u64.wrap (a1_1)) a0_2) a1_2) (shl .u64 1 (wrap64 (a0_0 - 1))))) else (none)) else (some (Go.bits .or .u64 (shl .u64 (IntKind.u64.wrap (a1_1)) a0_2) a1_2))) else (none)
set_option maxHeartbeats 8000000 in
set_option maxRecDepth 100000 in
theorem fbits_width_join.calls (a0_0 : Int) (a0_1 : Int) (a0_2 : Int) (a1_0 : Bool) (a1_1 : Int) (a1_2 : Int) (r : Int) (w : World) (h : fbits_width_join.f a0_0 a0_1 a0_2 a1_0 a1_1 a1_2 = some r) :
    Calls Tryz.prog 98 #[.agg #[.int .i64 a0_0, .int .i64 a0_1, .int .i64 a0_2], .agg #[.bool a1_0, .int .i64 a1_1, .int .u64 a1_2]] w fun e w' => e = .returned (.int .u64 r) ∧ Below w.heap.size w w' := by
  have hu168 := Tryz.underlying168
  have hu172 := Tryz.underlying172
  have HB := Aside0.mk (Below.refl w.heap.size w)
  have H : (if 0 ≤ a0_2 then (if a1_0 = true then (if 0 ≤ (wrap64 (a0_0 - 1)) then (some (Go.bits .or .u64 (Go.bits .or .u64 (shl .u64 (IntKind.u64.wrap (a1_1)) a0_2) a1_2) (shl .u64 1 (wrap64 (a0_0 - 1))))) else (none)) else (some (Go.bits .or .u64 (shl .u64 (IntKind.u64.wrap (a1_1)) a0_2) a1_2))) else (none)) = some r := h
  clear h
  by_cases c3 : 0 ≤ a0_2
  · rw [if_pos c3] at H
    have c3b0 := eq_true c3
    have c3b1 : decide (0 ≤ a0_2) = true := decide_eq_true c3
    clear c3
    obtain ⟨ji4, hji4⟩ : ∃ j_ : Int, (shl .u64 (IntKind.u64.wrap (a1_1)) a0_2) = j_ := ⟨_, rfl⟩
    replace H : (if a1_0 = true then (if 0 ≤ (wrap64 (a0_0 - 1)) then (some (Go.bits .or .u64 (Go.bits .or .u64 (ji4) a1_2) (shl .u64 1 (wrap64 (a0_0 - 1))))) else (none)) else (some (Go.bits .or .u64 (ji4) a1_2))) = some r := by first | (rw [hji4] at H; exact H) | (simp only [hji4] at H ⊢; exact H)
    have hji4_ : (IntKind.u64.wrap ((IntKind.u64.wrap (a1_1)) * 2 ^ min a0_2.toNat 64)) = ji4 := hji4
    have hji4z : a0_2 ≤ 64 → (IntKind.u64.wrap ((IntKind.u64.wrap (a1_1)) * 2 ^ a0_2.toNat)) = ji4 := shl_small hji4
    by_cases c5 : a1_0 = true
    · subst c5
      have H1 : (if 0 ≤ (wrap64 (a0_0 - 1)) then (some (Go.bits .or .u64 (Go.bits .or .u64 (ji4) a1_2) (shl .u64 1 (wrap64 (a0_0 - 1))))) else (none)) = some r := by rw [if_pos rfl] at H; exact H
      clear H
      have H := H1
      clear H1
      obtain ⟨ji6, hji6⟩ : ∃ j_ : Int, (wrap64 (a0_0 - 1)) = j_ := ⟨_, rfl⟩
      replace H : (if 0 ≤ (ji6) then (some (Go.bits .or .u64 (Go.bits .or .u64 (ji4) a1_2) (shl .u64 1 (ji6)))) else (none)) = some r := by first | (rw [hji6] at H; exact H) | (simp only [hji6] at H ⊢; exact H)
      have hji6w : (IntKind.i64.wrap (a0_0 - 1)) = ji6 := (i64_w _).trans hji6
      by_cases c7 : 0 ≤ (ji6)
      · rw [if_pos c7] at H
        have c7b0 := eq_true c7
        have c7b1 : decide (0 ≤ (ji6)) = true := decide_eq_true c7
        clear c7
        obtain ⟨ji8, hji8⟩ : ∃ j_ : Int, (shl .u64 1 (ji6)) = j_ := ⟨_, rfl⟩
        replace H : (some (Go.bits .or .u64 (Go.bits .or .u64 (ji4) a1_2) (ji8))) = some r := by first | (rw [hji8] at H; exact H) | (simp only [hji8] at H ⊢; exact H)
        have hji8_ : (IntKind.u64.wrap (1 * 2 ^ min (ji6).toNat 64)) = ji8 := hji8
        have hji8z : (ji6) ≤ 64 → (IntKind.u64.wrap (1 * 2 ^ (ji6).toNat)) = ji8 := shl_small hji8
        have hji8u : (IntKind.u64.wrap (2 ^ min (ji6).toNat 64)) = ji8 := by have h_ := hji8_; rw [Int.one_mul] at h_; exact h_
        have hji8v : (ji6) ≤ 64 → (IntKind.u64.wrap (2 ^ (ji6).toNat)) = ji8 := fun hle_ => by have h_ := hji8z hle_; rw [Int.one_mul] at h_; exact h_
        obtain rfl := Option.some.inj H
        go_enter Tryz.func98, Tryz.ntmps98
        go_wp2_with (first | ((with_reducible refine gate_dst (N := 2) rfl ?_); refine box_event ?hg (N := 2) ?hd (cs := #[.int .i64 a0_0, .int .i64 a0_1, .int .i64 a0_2]) (t := 168) ?hr ?_; (case hd => rfl); (case hg => rfl); (case hr => first | (go_simp; done) | (go_simp; rfl)); intro gb167 hg w9 hbox hb; have n0_ := Aside0.mk (below_step (by repeat (first | (with_reducible first | exact HB.out | apply below_alloc | apply pw_below_drewN | apply below_drew1) | exact HB.out)) hb); have n1_ := Aside0.mk (hbox); have n2_ := Aside0.mk ((by rw [hg]; exact (below_size (by repeat (first | (with_reducible first | exact HB.out | apply below_alloc | apply pw_below_drewN | apply below_drew1) | exact HB.out))) : w.heap.size ≤ gb167)); have n3_ := Aside0.mk ((by rw [hg]; exact (below_size (by repeat (first | (with_reducible first | exact HB.out | apply below_alloc | apply pw_below_drewN | apply below_drew1) | exact HB.out))) : w.heap.size ≤ gb167)); clear HB; have HB := n0_; have BK167 := n1_; have GW167 := n2_; have GE167 := n3_; clear n0_ n1_ n2_ n3_; clear hb hbox hg) | ((with_reducible refine gate_dst (N := 3) rfl ?_); refine box_event ?hg (N := 3) ?hd (cs := #[.bool true, .int .i64 a1_1, .int .u64 a1_2]) (t := 172) ?hr ?_; (case hd => rfl); (case hg => rfl); (case hr => first | (go_simp; done) | (go_simp; rfl)); intro gb168 hg w10 hbox hb; have n0_ := Aside0.mk (blk_below (g := gb167) (o := .cells #[.int .i64 a0_0, .int .i64 a0_1, .int .i64 a0_2] 168 (0, 0)) (by (with_reducible repeat (first | refine blk_drewN ?_ _ | refine blk_drew ?_ | refine blk_alloc ?_ _)); exact BK167.out) hb); have n1_ := Aside0.mk (below_step (by repeat (first | (with_reducible first | exact HB.out | apply below_alloc | apply pw_below_drewN | apply below_drew1 | refine below_set ?_ GE167.out) | exact HB.out)) hb); have n2_ := Aside0.mk (hbox); have n3_ := Aside0.mk ((by rw [hg]; exact (below_size (by repeat (first | (with_reducible first | exact HB.out | apply below_alloc | apply pw_below_drewN | apply below_drew1 | refine below_set ?_ GE167.out) | exact HB.out))) : w.heap.size ≤ gb168)); have n4_ := Aside0.mk ((by rw [hg]; exact (below_size (by repeat (first | (with_reducible first | exact HB.out | apply below_alloc | apply pw_below_drewN | apply below_drew1 | refine below_set ?_ GE167.out) | exact HB.out))) : w.heap.size ≤ gb168)); have n5_ := Aside0.mk ((by rw [hg]; exact Nat.ne_of_lt (blk_lt (g := gb167) (o := .cells #[.int .i64 a0_0, .int .i64 a0_1, .int .i64 a0_2] 168 (0, 0)) (by (with_reducible repeat (first | refine blk_drewN ?_ _ | refine blk_drew ?_ | refine blk_alloc ?_ _)); exact BK167.out)) : gb167 ≠ gb168)); have n6_ := Aside0.mk ((by rw [hg]; exact Nat.ne_of_gt (blk_lt (g := gb167) (o := .cells #[.int .i64 a0_0, .int .i64 a0_1, .int .i64 a0_2] 168 (0, 0)) (by (with_reducible repeat (first | refine blk_drewN ?_ _ | refine blk_drew ?_ | refine blk_alloc ?_ _)); exact BK167.out)) : gb168 ≠ gb167)); clear BK167; clear HB; have BK167 := n0_; have HB := n1_; have BK168 := n2_; have GW168 := n3_; have GE168 := n4_; have NB167_168 := n5_; have NB168_167 := n6_; clear n0_ n1_ n2_ n3_ n4_ n5_ n6_; clear hb hbox hg; have hnb11 := NB168_167.out; have hnc11 := NB167_168.out; have hcz12_0 : w10.cell? ⟨gb168, 0, none⟩ = some (.bool true) := (blk_cell BK168.out 0).trans rfl; have hcz12_1 : w10.cell? ⟨gb168, 1, none⟩ = some (.int .i64 a1_1) := (blk_cell BK168.out 1).trans rfl; have hcz12_2 : w10.cell? ⟨gb168, 2, none⟩ = some (.int .u64 a1_2) := (blk_cell BK168.out 2).trans rfl; have hfz12_0 := blk_frozen BK168.out 0; have hfz12_1 := blk_frozen BK168.out 1; have hfz12_2 := blk_frozen BK168.out 2; have hcz13_0 : w10.cell? ⟨gb167, 0, none⟩ = some (.int .i64 a0_0) := (blk_cell BK167.out 0).trans rfl; have hcz13_1 : w10.cell? ⟨gb167, 1, none⟩ = some (.int .i64 a0_1) := (blk_cell BK167.out 1).trans rfl; have hcz13_2 : w10.cell? ⟨gb167, 2, none⟩ = some (.int .i64 a0_2) := (blk_cell BK167.out 2).trans rfl; have hfz13_0 := blk_frozen BK167.out 0; have hfz13_1 := blk_frozen BK167.out 1; have hfz13_2 := blk_frozen BK167.out 2))
        repeat (go_quiet (first | ((with_reducible refine gate_dst (N := 2) rfl ?_); refine box_event ?hg (N := 2) ?hd (cs := #[.int .i64 a0_0, .int .i64 a0_1, .int .i64 a0_2]) (t := 168) ?hr ?_; (case hd => rfl); (case hg => rfl); (case hr => first | (go_simp; done) | (go_simp; rfl)); intro gb167 hg w9 hbox hb; have n0_ := Aside0.mk (below_step (by repeat (first | (with_reducible first | exact HB.out | apply below_alloc | apply pw_below_drewN | apply below_drew1) | exact HB.out)) hb); have n1_ := Aside0.mk (hbox); have n2_ := Aside0.mk ((by rw [hg]; exact (below_size (by repeat (first | (with_reducible first | exact HB.out | apply below_alloc | apply pw_below_drewN | apply below_drew1) | exact HB.out))) : w.heap.size ≤ gb167)); have n3_ := Aside0.mk ((by rw [hg]; exact (below_size (by repeat (first | (with_reducible first | exact HB.out | apply below_alloc | apply pw_below_drewN | apply below_drew1) | exact HB.out))) : w.heap.size ≤ gb167)); clear HB; have HB := n0_; have BK167 := n1_; have GW167 := n2_; have GE167 := n3_; clear n0_ n1_ n2_ n3_; clear hb hbox hg) | ((with_reducible refine gate_dst (N := 3) rfl ?_); refine box_event ?hg (N := 3) ?hd (cs := #[.bool true, .int .i64 a1_1, .int .u64 a1_2]) (t := 172) ?hr ?_; (case hd => rfl); (case hg => rfl); (case hr => first | (go_simp; done) | (go_simp; rfl)); intro gb168 hg w10 hbox hb; have n0_ := Aside0.mk (blk_below (g := gb167) (o := .cells #[.int .i64 a0_0, .int .i64 a0_1, .int .i64 a0_2] 168 (0, 0)) (by (with_reducible repeat (first | refine blk_drewN ?_ _ | refine blk_drew ?_ | refine blk_alloc ?_ _)); exact BK167.out) hb); have n1_ := Aside0.mk (below_step (by repeat (first | (with_reducible first | exact HB.out | apply below_alloc | apply pw_below_drewN | apply below_drew1 | refine below_set ?_ GE167.out) | exact HB.out)) hb); have n2_ := Aside0.mk (hbox); have n3_ := Aside0.mk ((by rw [hg]; exact (below_size (by repeat (first | (with_reducible first | exact HB.out | apply below_alloc | apply pw_below_drewN | apply below_drew1 | refine below_set ?_ GE167.out) | exact HB.out))) : w.heap.size ≤ gb168)); have n4_ := Aside0.mk ((by rw [hg]; exact (below_size (by repeat (first | (with_reducible first | exact HB.out | apply below_alloc | apply pw_below_drewN | apply below_drew1 | refine below_set ?_ GE167.out) | exact HB.out))) : w.heap.size ≤ gb168)); have n5_ := Aside0.mk ((by rw [hg]; exact Nat.ne_of_lt (blk_lt (g := gb167) (o := .cells #[.int .i64 a0_0, .int .i64 a0_1, .int .i64 a0_2] 168 (0, 0)) (by (with_reducible repeat (first | refine blk_drewN ?_ _ | refine blk_drew ?_ | refine blk_alloc ?_ _)); exact BK167.out)) : gb167 ≠ gb168)); have n6_ := Aside0.mk ((by rw [hg]; exact Nat.ne_of_gt (blk_lt (g := gb167) (o := .cells #[.int .i64 a0_0, .int .i64 a0_1, .int .i64 a0_2] 168 (0, 0)) (by (with_reducible repeat (first | refine blk_drewN ?_ _ | refine blk_drew ?_ | refine blk_alloc ?_ _)); exact BK167.out)) : gb168 ≠ gb167)); clear BK167; clear HB; have BK167 := n0_; have HB := n1_; have BK168 := n2_; have GW168 := n3_; have GE168 := n4_; have NB167_168 := n5_; have NB168_167 := n6_; clear n0_ n1_ n2_ n3_ n4_ n5_ n6_; clear hb hbox hg; have hnb11 := NB168_167.out; have hnc11 := NB167_168.out; have hcz12_0 : w10.cell? ⟨gb168, 0, none⟩ = some (.bool true) := (blk_cell BK168.out 0).trans rfl; have hcz12_1 : w10.cell? ⟨gb168, 1, none⟩ = some (.int .i64 a1_1) := (blk_cell BK168.out 1).trans rfl; have hcz12_2 : w10.cell? ⟨gb168, 2, none⟩ = some (.int .u64 a1_2) := (blk_cell BK168.out 2).trans rfl; have hfz12_0 := blk_frozen BK168.out 0; have hfz12_1 := blk_frozen BK168.out 1; have hfz12_2 := blk_frozen BK168.out 2; have hcz13_0 : w10.cell? ⟨gb167, 0, none⟩ = some (.int .i64 a0_0) := (blk_cell BK167.out 0).trans rfl; have hcz13_1 : w10.cell? ⟨gb167, 1, none⟩ = some (.int .i64 a0_1) := (blk_cell BK167.out 1).trans rfl; have hcz13_2 : w10.cell? ⟨gb167, 2, none⟩ = some (.int .i64 a0_2) := (blk_cell BK167.out 2).trans rfl; have hfz13_0 := blk_frozen BK167.out 0; have hfz13_1 := blk_frozen BK167.out 1; have hfz13_2 := blk_frozen BK167.out 2)); try go_wp2_with (first | ((with_reducible refine gate_dst (N := 2) rfl ?_); refine box_event ?hg (N := 2) ?hd (cs := #[.int .i64 a0_0, .int .i64 a0_1, .int .i64 a0_2]) (t := 168) ?hr ?_; (case hd => rfl); (case hg => rfl); (case hr => first | (go_simp; done) | (go_simp; rfl)); intro gb167 hg w9 hbox hb; have n0_ := Aside0.mk (below_step (by repeat (first | (with_reducible first | exact HB.out | apply below_alloc | apply pw_below_drewN | apply below_drew1) | exact HB.out)) hb); have n1_ := Aside0.mk (hbox); have n2_ := Aside0.mk ((by rw [hg]; exact (below_size (by repeat (first | (with_reducible first | exact HB.out | apply below_alloc | apply pw_below_drewN | apply below_drew1) | exact HB.out))) : w.heap.size ≤ gb167)); have n3_ := Aside0.mk ((by rw [hg]; exact (below_size (by repeat (first | (with_reducible first | exact HB.out | apply below_alloc | apply pw_below_drewN | apply below_drew1) | exact HB.out))) : w.heap.size ≤ gb167)); clear HB; have HB := n0_; have BK167 := n1_; have GW167 := n2_; have GE167 := n3_; clear n0_ n1_ n2_ n3_; clear hb hbox hg) | ((with_reducible refine gate_dst (N := 3) rfl ?_); refine box_event ?hg (N := 3) ?hd (cs := #[.bool true, .int .i64 a1_1, .int .u64 a1_2]) (t := 172) ?hr ?_; (case hd => rfl); (case hg => rfl); (case hr => first | (go_simp; done) | (go_simp; rfl)); intro gb168 hg w10 hbox hb; have n0_ := Aside0.mk (blk_below (g := gb167) (o := .cells #[.int .i64 a0_0, .int .i64 a0_1, .int .i64 a0_2] 168 (0, 0)) (by (with_reducible repeat (first | refine blk_drewN ?_ _ | refine blk_drew ?_ | refine blk_alloc ?_ _)); exact BK167.out) hb); have n1_ := Aside0.mk (below_step (by repeat (first | (with_reducible first | exact HB.out | apply below_alloc | apply pw_below_drewN | apply below_drew1 | refine below_set ?_ GE167.out) | exact HB.out)) hb); have n2_ := Aside0.mk (hbox); have n3_ := Aside0.mk ((by rw [hg]; exact (below_size (by repeat (first | (with_reducible first | exact HB.out | apply below_alloc | apply pw_below_drewN | apply below_drew1 | refine below_set ?_ GE167.out) | exact HB.out))) : w.heap.size ≤ gb168)); have n4_ := Aside0.mk ((by rw [hg]; exact (below_size (by repeat (first | (with_reducible first | exact HB.out | apply below_alloc | apply pw_below_drewN | apply below_drew1 | refine below_set ?_ GE167.out) | exact HB.out))) : w.heap.size ≤ gb168)); have n5_ := Aside0.mk ((by rw [hg]; exact Nat.ne_of_lt (blk_lt (g := gb167) (o := .cells #[.int .i64 a0_0, .int .i64 a0_1, .int .i64 a0_2] 168 (0, 0)) (by (with_reducible repeat (first | refine blk_drewN ?_ _ | refine blk_drew ?_ | refine blk_alloc ?_ _)); exact BK167.out)) : gb167 ≠ gb168)); have n6_ := Aside0.mk ((by rw [hg]; exact Nat.ne_of_gt (blk_lt (g := gb167) (o := .cells #[.int .i64 a0_0, .int .i64 a0_1, .int .i64 a0_2] 168 (0, 0)) (by (with_reducible repeat (first | refine blk_drewN ?_ _ | refine blk_drew ?_ | refine blk_alloc ?_ _)); exact BK167.out)) : gb168 ≠ gb167)); clear BK167; clear HB; have BK167 := n0_; have HB := n1_; have BK168 := n2_; have GW168 := n3_; have GE168 := n4_; have NB167_168 := n5_; have NB168_167 := n6_; clear n0_ n1_ n2_ n3_ n4_ n5_ n6_; clear hb hbox hg; have hnb11 := NB168_167.out; have hnc11 := NB167_168.out; have hcz12_0 : w10.cell? ⟨gb168, 0, none⟩ = some (.bool true) := (blk_cell BK168.out 0).trans rfl; have hcz12_1 : w10.cell? ⟨gb168, 1, none⟩ = some (.int .i64 a1_1) := (blk_cell BK168.out 1).trans rfl; have hcz12_2 : w10.cell? ⟨gb168, 2, none⟩ = some (.int .u64 a1_2) := (blk_cell BK168.out 2).trans rfl; have hfz12_0 := blk_frozen BK168.out 0; have hfz12_1 := blk_frozen BK168.out 1; have hfz12_2 := blk_frozen BK168.out 2; have hcz13_0 : w10.cell? ⟨gb167, 0, none⟩ = some (.int .i64 a0_0) := (blk_cell BK167.out 0).trans rfl; have hcz13_1 : w10.cell? ⟨gb167, 1, none⟩ = some (.int .i64 a0_1) := (blk_cell BK167.out 1).trans rfl; have hcz13_2 : w10.cell? ⟨gb167, 2, none⟩ = some (.int .i64 a0_2) := (blk_cell BK167.out 2).trans rfl; have hfz13_0 := blk_frozen BK167.out 0; have hfz13_1 := blk_frozen BK167.out 1; have hfz13_2 := blk_frozen BK167.out 2)))
        go_ret
        exact ⟨by first | rfl | (simp [errW_none, errW_some] <;> rfl) | (simp only [← hji4, ← hji6, ← hji8]; first | rfl | (simp [errW_none, errW_some] <;> rfl)) | (simp [*, errW_none, errW_some] <;> rfl), by repeat (first | (with_reducible first | exact HB.out | apply below_alloc | apply pw_below_drewN | apply below_drew1 | refine below_set ?_ GE167.out | refine below_set ?_ GE168.out) | exact HB.out)⟩
      · rw [if_neg c7] at H
        exact absurd H (by simp)
    · replace c5 := Bool.eq_false_iff.mpr c5
      subst c5
      have H1 : (some (Go.bits .or .u64 (ji4) a1_2)) = some r := by rw [if_neg (show ¬ (false = true) by decide)] at H; exact H
      clear H
      have H := H1
      clear H1
      obtain rfl := Option.some.inj H
      go_enter Tryz.func98, Tryz.ntmps98
      go_wp2_with (first | ((with_reducible refine gate_dst (N := 2) rfl ?_); refine box_event ?hg (N := 2) ?hd (cs := #[.int .i64 a0_0, .int .i64 a0_1, .int .i64 a0_2]) (t := 168) ?hr ?_; (case hd => rfl); (case hg => rfl); (case hr => first | (go_simp; done) | (go_simp; rfl)); intro gb167 hg w14 hbox hb; have n0_ := Aside0.mk (below_step (by repeat (first | (with_reducible first | exact HB.out | apply below_alloc | apply pw_below_drewN | apply below_drew1) | exact HB.out)) hb); have n1_ := Aside0.mk (hbox); have n2_ := Aside0.mk ((by rw [hg]; exact (below_size (by repeat (first | (with_reducible first | exact HB.out | apply below_alloc | apply pw_below_drewN | apply below_drew1) | exact HB.out))) : w.heap.size ≤ gb167)); have n3_ := Aside0.mk ((by rw [hg]; exact (below_size (by repeat (first | (with_reducible first | exact HB.out | apply below_alloc | apply pw_below_drewN | apply below_drew1) | exact HB.out))) : w.heap.size ≤ gb167)); clear HB; have HB := n0_; have BK167 := n1_; have GW167 := n2_; have GE167 := n3_; clear n0_ n1_ n2_ n3_; clear hb hbox hg) | ((with_reducible refine gate_dst (N := 3) rfl ?_); refine box_event ?hg (N := 3) ?hd (cs := #[.bool false, .int .i64 a1_1, .int .u64 a1_2]) (t := 172) ?hr ?_; (case hd => rfl); (case hg => rfl); (case hr => first | (go_simp; done) | (go_simp; rfl)); intro gb168 hg w15 hbox hb; have n0_ := Aside0.mk (blk_below (g := gb167) (o := .cells #[.int .i64 a0_0, .int .i64 a0_1, .int .i64 a0_2] 168 (0, 0)) (by (with_reducible repeat (first | refine blk_drewN ?_ _ | refine blk_drew ?_ | refine blk_alloc ?_ _)); exact BK167.out) hb); have n1_ := Aside0.mk (below_step (by repeat (first | (with_reducible first | exact HB.out | apply below_alloc | apply pw_below_drewN | apply below_drew1 | refine below_set ?_ GE167.out) | exact HB.out)) hb); have n2_ := Aside0.mk (hbox); have n3_ := Aside0.mk ((by rw [hg]; exact (below_size (by repeat (first | (with_reducible first | exact HB.out | apply below_alloc | apply pw_below_drewN | apply below_drew1 | refine below_set ?_ GE167.out) | exact HB.out))) : w.heap.size ≤ gb168)); have n4_ := Aside0.mk ((by rw [hg]; exact (below_size (by repeat (first | (with_reducible first | exact HB.out | apply below_alloc | apply pw_below_drewN | apply below_drew1 | refine below_set ?_ GE167.out) | exact HB.out))) : w.heap.size ≤ gb168)); have n5_ := Aside0.mk ((by rw [hg]; exact Nat.ne_of_lt (blk_lt (g := gb167) (o := .cells #[.int .i64 a0_0, .int .i64 a0_1, .int .i64 a0_2] 168 (0, 0)) (by (with_reducible repeat (first | refine blk_drewN ?_ _ | refine blk_drew ?_ | refine blk_alloc ?_ _)); exact BK167.out)) : gb167 ≠ gb168)); have n6_ := Aside0.mk ((by rw [hg]; exact Nat.ne_of_gt (blk_lt (g := gb167) (o := .cells #[.int .i64 a0_0, .int .i64 a0_1, .int .i64 a0_2] 168 (0, 0)) (by (with_reducible repeat (first | refine blk_drewN ?_ _ | refine blk_drew ?_ | refine blk_alloc ?_ _)); exact BK167.out)) : gb168 ≠ gb167)); clear BK167; clear HB; have BK167 := n0_; have HB := n1_; have BK168 := n2_; have GW168 := n3_; have GE168 := n4_; have NB167_168 := n5_; have NB168_167 := n6_; clear n0_ n1_ n2_ n3_ n4_ n5_ n6_; clear hb hbox hg; have hnb16 := NB168_167.out; have hnc16 := NB167_168.out; have hcz17_0 : w15.cell? ⟨gb168, 0, none⟩ = some (.bool false) := (blk_cell BK168.out 0).trans rfl; have hcz17_1 : w15.cell? ⟨gb168, 1, none⟩ = some (.int .i64 a1_1) := (blk_cell BK168.out 1).trans rfl; have hcz17_2 : w15.cell? ⟨gb168, 2, none⟩ = some (.int .u64 a1_2) := (blk_cell BK168.out 2).trans rfl; have hfz17_0 := blk_frozen BK168.out 0; have hfz17_1 := blk_frozen BK168.out 1; have hfz17_2 := blk_frozen BK168.out 2; have hcz18_0 : w15.cell? ⟨gb167, 0, none⟩ = some (.int .i64 a0_0) := (blk_cell BK167.out 0).trans rfl; have hcz18_1 : w15.cell? ⟨gb167, 1, none⟩ = some (.int .i64 a0_1) := (blk_cell BK167.out 1).trans rfl; have hcz18_2 : w15.cell? ⟨gb167, 2, none⟩ = some (.int .i64 a0_2) := (blk_cell BK167.out 2).trans rfl; have hfz18_0 := blk_frozen BK167.out 0; have hfz18_1 := blk_frozen BK167.out 1; have hfz18_2 := blk_frozen BK167.out 2))
      repeat (go_quiet (first | ((with_reducible refine gate_dst (N := 2) rfl ?_); refine box_event ?hg (N := 2) ?hd (cs := #[.int .i64 a0_0, .int .i64 a0_1, .int .i64 a0_2]) (t := 168) ?hr ?_; (case hd => rfl); (case hg => rfl); (case hr => first | (go_simp; done) | (go_simp; rfl)); intro gb167 hg w14 hbox hb; have n0_ := Aside0.mk (below_step (by repeat (first | (with_reducible first | exact HB.out | apply below_alloc | apply pw_below_drewN | apply below_drew1) | exact HB.out)) hb); have n1_ := Aside0.mk (hbox); have n2_ := Aside0.mk ((by rw [hg]; exact (below_size (by repeat (first | (with_reducible first | exact HB.out | apply below_alloc | apply pw_below_drewN | apply below_drew1) | exact HB.out))) : w.heap.size ≤ gb167)); have n3_ := Aside0.mk ((by rw [hg]; exact (below_size (by repeat (first | (with_reducible first | exact HB.out | apply below_alloc | apply pw_below_drewN | apply below_drew1) | exact HB.out))) : w.heap.size ≤ gb167)); clear HB; have HB := n0_; have BK167 := n1_; have GW167 := n2_; have GE167 := n3_; clear n0_ n1_ n2_ n3_; clear hb hbox hg) | ((with_reducible refine gate_dst (N := 3) rfl ?_); refine box_event ?hg (N := 3) ?hd (cs := #[.bool false, .int .i64 a1_1, .int .u64 a1_2]) (t := 172) ?hr ?_; (case hd => rfl); (case hg => rfl); (case hr => first | (go_simp; done) | (go_simp; rfl)); intro gb168 hg w15 hbox hb; have n0_ := Aside0.mk (blk_below (g := gb167) (o := .cells #[.int .i64 a0_0, .int .i64 a0_1, .int .i64 a0_2] 168 (0, 0)) (by (with_reducible repeat (first | refine blk_drewN ?_ _ | refine blk_drew ?_ | refine blk_alloc ?_ _)); exact BK167.out) hb); have n1_ := Aside0.mk (below_step (by repeat (first | (with_reducible first | exact HB.out | apply below_alloc | apply pw_below_drewN | apply below_drew1 | refine below_set ?_ GE167.out) | exact HB.out)) hb); have n2_ := Aside0.mk (hbox); have n3_ := Aside0.mk ((by rw [hg]; exact (below_size (by repeat (first | (with_reducible first | exact HB.out | apply below_alloc | apply pw_below_drewN | apply below_drew1 | refine below_set ?_ GE167.out) | exact HB.out))) : w.heap.size ≤ gb168)); have n4_ := Aside0.mk ((by rw [hg]; exact (below_size (by repeat (first | (with_reducible first | exact HB.out | apply below_alloc | apply pw_below_drewN | apply below_drew1 | refine below_set ?_ GE167.out) | exact HB.out))) : w.heap.size ≤ gb168)); have n5_ := Aside0.mk ((by rw [hg]; exact Nat.ne_of_lt (blk_lt (g := gb167) (o := .cells #[.int .i64 a0_0, .int .i64 a0_1, .int .i64 a0_2] 168 (0, 0)) (by (with_reducible repeat (first | refine blk_drewN ?_ _ | refine blk_drew ?_ | refine blk_alloc ?_ _)); exact BK167.out)) : gb167 ≠ gb168)); have n6_ := Aside0.mk ((by rw [hg]; exact Nat.ne_of_gt (blk_lt (g := gb167) (o := .cells #[.int .i64 a0_0, .int .i64 a0_1, .int .i64 a0_2] 168 (0, 0)) (by (with_reducible repeat (first | refine blk_drewN ?_ _ | refine blk_drew ?_ | refine blk_alloc ?_ _)); exact BK167.out)) : gb168 ≠ gb167)); clear BK167; clear HB; have BK167 := n0_; have HB := n1_; have BK168 := n2_; have GW168 := n3_; have GE168 := n4_; have NB167_168 := n5_; have NB168_167 := n6_; clear n0_ n1_ n2_ n3_ n4_ n5_ n6_; clear hb hbox hg; have hnb16 := NB168_167.out; have hnc16 := NB167_168.out; have hcz17_0 : w15.cell? ⟨gb168, 0, none⟩ = some (.bool false) := (blk_cell BK168.out 0).trans rfl; have hcz17_1 : w15.cell? ⟨gb168, 1, none⟩ = some (.int .i64 a1_1) := (blk_cell BK168.out 1).trans rfl; have hcz17_2 : w15.cell? ⟨gb168, 2, none⟩ = some (.int .u64 a1_2) := (blk_cell BK168.out 2).trans rfl; have hfz17_0 := blk_frozen BK168.out 0; have hfz17_1 := blk_frozen BK168.out 1; have hfz17_2 := blk_frozen BK168.out 2; have hcz18_0 : w15.cell? ⟨gb167, 0, none⟩ = some (.int .i64 a0_0) := (blk_cell BK167.out 0).trans rfl; have hcz18_1 : w15.cell? ⟨gb167, 1, none⟩ = some (.int .i64 a0_1) := (blk_cell BK167.out 1).trans rfl; have hcz18_2 : w15.cell? ⟨gb167, 2, none⟩ = some (.int .i64 a0_2) := (blk_cell BK167.out 2).trans rfl; have hfz18_0 := blk_frozen BK167.out 0; have hfz18_1 := blk_frozen BK167.out 1; have hfz18_2 := blk_frozen BK167.out 2)); try go_wp2_with (first | ((with_reducible refine gate_dst (N := 2) rfl ?_); refine box_event ?hg (N := 2) ?hd (cs := #[.int .i64 a0_0, .int .i64 a0_1, .int .i64 a0_2]) (t := 168) ?hr ?_; (case hd => rfl); (case hg => rfl); (case hr => first | (go_simp; done) | (go_simp; rfl)); intro gb167 hg w14 hbox hb; have n0_ := Aside0.mk (below_step (by repeat (first | (with_reducible first | exact HB.out | apply below_alloc | apply pw_below_drewN | apply below_drew1) | exact HB.out)) hb); have n1_ := Aside0.mk (hbox); have n2_ := Aside0.mk ((by rw [hg]; exact (below_size (by repeat (first | (with_reducible first | exact HB.out | apply below_alloc | apply pw_below_drewN | apply below_drew1) | exact HB.out))) : w.heap.size ≤ gb167)); have n3_ := Aside0.mk ((by rw [hg]; exact (below_size (by repeat (first | (with_reducible first | exact HB.out | apply below_alloc | apply pw_below_drewN | apply below_drew1) | exact HB.out))) : w.heap.size ≤ gb167)); clear HB; have HB := n0_; have BK167 := n1_; have GW167 := n2_; have GE167 := n3_; clear n0_ n1_ n2_ n3_; clear hb hbox hg) | ((with_reducible refine gate_dst (N := 3) rfl ?_); refine box_event ?hg (N := 3) ?hd (cs := #[.bool false, .int .i64 a1_1, .int .u64 a1_2]) (t := 172) ?hr ?_; (case hd => rfl); (case hg => rfl); (case hr => first | (go_simp; done) | (go_simp; rfl)); intro gb168 hg w15 hbox hb; have n0_ := Aside0.mk (blk_below (g := gb167) (o := .cells #[.int .i64 a0_0, .int .i64 a0_1, .int .i64 a0_2] 168 (0, 0)) (by (with_reducible repeat (first | refine blk_drewN ?_ _ | refine blk_drew ?_ | refine blk_alloc ?_ _)); exact BK167.out) hb); have n1_ := Aside0.mk (below_step (by repeat (first | (with_reducible first | exact HB.out | apply below_alloc | apply pw_below_drewN | apply below_drew1 | refine below_set ?_ GE167.out) | exact HB.out)) hb); have n2_ := Aside0.mk (hbox); have n3_ := Aside0.mk ((by rw [hg]; exact (below_size (by repeat (first | (with_reducible first | exact HB.out | apply below_alloc | apply pw_below_drewN | apply below_drew1 | refine below_set ?_ GE167.out) | exact HB.out))) : w.heap.size ≤ gb168)); have n4_ := Aside0.mk ((by rw [hg]; exact (below_size (by repeat (first | (with_reducible first | exact HB.out | apply below_alloc | apply pw_below_drewN | apply below_drew1 | refine below_set ?_ GE167.out) | exact HB.out))) : w.heap.size ≤ gb168)); have n5_ := Aside0.mk ((by rw [hg]; exact Nat.ne_of_lt (blk_lt (g := gb167) (o := .cells #[.int .i64 a0_0, .int .i64 a0_1, .int .i64 a0_2] 168 (0, 0)) (by (with_reducible repeat (first | refine blk_drewN ?_ _ | refine blk_drew ?_ | refine blk_alloc ?_ _)); exact BK167.out)) : gb167 ≠ gb168)); have n6_ := Aside0.mk ((by rw [hg]; exact Nat.ne_of_gt (blk_lt (g := gb167) (o := .cells #[.int .i64 a0_0, .int .i64 a0_1, .int .i64 a0_2] 168 (0, 0)) (by (with_reducible repeat (first | refine blk_drewN ?_ _ | refine blk_drew ?_ | refine blk_alloc ?_ _)); exact BK167.out)) : gb168 ≠ gb167)); clear BK167; clear HB; have BK167 := n0_; have HB := n1_; have BK168 := n2_; have GW168 := n3_; have GE168 := n4_; have NB167_168 := n5_; have NB168_167 := n6_; clear n0_ n1_ n2_ n3_ n4_ n5_ n6_; clear hb hbox hg; have hnb16 := NB168_167.out; have hnc16 := NB167_168.out; have hcz17_0 : w15.cell? ⟨gb168, 0, none⟩ = some (.bool false) := (blk_cell BK168.out 0).trans rfl; have hcz17_1 : w15.cell? ⟨gb168, 1, none⟩ = some (.int .i64 a1_1) := (blk_cell BK168.out 1).trans rfl; have hcz17_2 : w15.cell? ⟨gb168, 2, none⟩ = some (.int .u64 a1_2) := (blk_cell BK168.out 2).trans rfl; have hfz17_0 := blk_frozen BK168.out 0; have hfz17_1 := blk_frozen BK168.out 1; have hfz17_2 := blk_frozen BK168.out 2; have hcz18_0 : w15.cell? ⟨gb167, 0, none⟩ = some (.int .i64 a0_0) := (blk_cell BK167.out 0).trans rfl; have hcz18_1 : w15.cell? ⟨gb167, 1, none⟩ = some (.int .i64 a0_1) := (blk_cell BK167.out 1).trans rfl; have hcz18_2 : w15.cell? ⟨gb167, 2, none⟩ = some (.int .i64 a0_2) := (blk_cell BK167.out 2).trans rfl; have hfz18_0 := blk_frozen BK167.out 0; have hfz18_1 := blk_frozen BK167.out 1; have hfz18_2 := blk_frozen BK167.out 2)))
      go_ret
      exact ⟨by first | rfl | (simp [errW_none, errW_some] <;> rfl) | (simp only [← hji4]; first | rfl | (simp [errW_none, errW_some] <;> rfl)) | (simp [*, errW_none, errW_some] <;> rfl), by repeat (first | (with_reducible first | exact HB.out | apply below_alloc | apply pw_below_drewN | apply below_drew1 | refine below_set ?_ GE167.out | refine below_set ?_ GE168.out) | exact HB.out)⟩
  · rw [if_neg c3] at H
    exact absurd H (by simp)

end Go.Proofs.YtfmceonbejlhlaaGreatDoor.P

/-
  fbits: what its functions of numbers hand back hangs on their arguments alone.
-/
namespace Go.Proofs.YtfmceonbejlhlaaGreatDoor
open Go.RowKit Go.Proofs.YtfmceonbejlhlaaGreatDoorW.PrintWords Go.Proofs.YtfmceonbejlhlaaGreatDoorW.PrintLast Go.Proofs.YtfmceonbejlhlaaGreatDoorW.PrintMore
set_option linter.unusedVariables false

/-- A width's three numbers. -/
def Wd (a e f : Int) : Prop := (a = 16 ∧ e = 5 ∧ f = 10) ∨ (a = 32 ∧ e = 8 ∧ f = 23) ∨ (a = 64 ∧ e = 11 ∧ f = 52)
def U64 (n : Int) : Prop := 0 ≤ n ∧ n < 18446744073709551616
/-- A function of its arguments, whatever the world. -/
def Det (f : FuncId) (args : Array Value) (r : Value) : Prop := ∀ w, Calls Tryz.prog f args w (Ret r w)
theorem wrap_u64_U64 (n : Int) : U64 (IntKind.u64.wrap n) := by rw [IntKind.wrap_u64]; unfold U64; omega
theorem bits_U64 (op : BinOp) (x y : Int) (h : op = .or ∨ op = .and) : U64 (Go.bits op .u64 x y) := by
  rcases h with rfl | rfl <;> exact wrap_u64_U64 _
theorem of_det {a e f : Int} (h : Wd a e f) (b : Int) : ∃ ok, Det 92 #[.int .i64 a, .int .u64 b] (.tuple #[.agg #[.int .i64 a, .int .i64 e, .int .i64 f], .bool ok]) := by
  rcases h with ⟨rfl, rfl, rfl⟩ | ⟨rfl, rfl, rfl⟩ | ⟨rfl, rfl, rfl⟩
  · exact ⟨_, fun w => of16 b w⟩
  · exact ⟨_, fun w => of32 b w⟩
  · exact ⟨_, fun w => of64 b w⟩
theorem u64_mask (k : Nat) (hk : k ≤ 64) {b : Int} (hb : U64 b) : Go.bits .and .u64 b (2 ^ k - 1) = b % 2 ^ k :=
  bits_mask .u64 64 (by decide) (fun n h0 h1 => by rw [IntKind.wrap_u64]; omega) k hk b hb.1 (by have := hb.2; omega)
theorem i64_mask (k : Nat) (hk : k ≤ 63) {b : Int} (h0 : 0 ≤ b) (h1 : b < 9223372036854775808) : Go.bits .and .i64 b (2 ^ k - 1) = b % 2 ^ k :=
  bits_mask .i64 63 (by decide) (fun n h0 h1 => by rw [IntKind.wrap_i64]; omega) k hk b h0 (by omega)
theorem split_det {a e f : Int} (h : Wd a e f) (b : Int) (hb : U64 b) : ∃ neg x y, (0 ≤ x ∧ x ≤ 2047) ∧ (0 ≤ y ∧ y * 2 ^ (52 - f).toNat < 4503599627370496) ∧ Det 93 #[.agg #[.int .i64 a, .int .i64 e, .int .i64 f], .int .u64 b] (.agg #[.bool neg, .int .i64 x, .int .u64 y]) := by
  have hb2 := hb
  obtain ⟨h0, h1⟩ := hb2
  rcases h with ⟨rfl, rfl, rfl⟩ | ⟨rfl, rfl, rfl⟩ | ⟨rfl, rfl, rfl⟩
  · refine ⟨_, (b / 1024) % 32, b % 1024, by omega, ⟨by omega, by show b % 1024 * 4398046511104 < _; omega⟩, fun w => P.fbits_width_split.calls 16 5 10 b (b / 32768 == 1) _ _ w ?_⟩
    have e1 : P.fbits_width_split.f 16 5 10 b = some ((b / 32768 == 1), Go.bits .and .i64 (wrap64 (b / 1024)) (2 ^ 5 - 1), Go.bits .and .u64 b (2 ^ 10 - 1)) := by kernel_rfl
    have e2 : wrap64 (b / 1024) = b / 1024 := by unfold wrap64; omega
    rw [e1, e2, i64_mask 5 (by decide) (by omega) (by omega), u64_mask 10 (by decide) hb]
    rfl
  · refine ⟨_, (b / 8388608) % 256, b % 8388608, by omega, ⟨by omega, by show b % 8388608 * 536870912 < _; omega⟩, fun w => P.fbits_width_split.calls 32 8 23 b (b / 2147483648 == 1) _ _ w ?_⟩
    have e1 : P.fbits_width_split.f 32 8 23 b = some ((b / 2147483648 == 1), Go.bits .and .i64 (wrap64 (b / 8388608)) (2 ^ 8 - 1), Go.bits .and .u64 b (2 ^ 23 - 1)) := by kernel_rfl
    have e2 : wrap64 (b / 8388608) = b / 8388608 := by unfold wrap64; omega
    rw [e1, e2, i64_mask 8 (by decide) (by omega) (by omega), u64_mask 23 (by decide) hb]
    rfl
  · refine ⟨_, (b / 4503599627370496) % 2048, b % 4503599627370496, by omega, ⟨by omega, by show b % 4503599627370496 * 1 < _; omega⟩, fun w => P.fbits_width_split.calls 64 11 52 b (b / 9223372036854775808 == 1) _ _ w ?_⟩
    have e1 : P.fbits_width_split.f 64 11 52 b = some ((b / 9223372036854775808 == 1), Go.bits .and .i64 (wrap64 (b / 4503599627370496)) (2 ^ 11 - 1), Go.bits .and .u64 b (2 ^ 52 - 1)) := by kernel_rfl
    have e2 : wrap64 (b / 4503599627370496) = b / 4503599627370496 := by unfold wrap64; omega
    rw [e1, e2, i64_mask 11 (by decide) (by omega) (by omega), u64_mask 52 (by decide) hb]
    rfl
theorem top_det {a e f : Int} (h : Wd a e f) : ∃ t, (31 ≤ t ∧ t ≤ 2047) ∧ Det 99 #[.agg #[.int .i64 a, .int .i64 e, .int .i64 f]] (.int .i64 t) := by
  rcases h with ⟨rfl, rfl, rfl⟩ | ⟨rfl, rfl, rfl⟩ | ⟨rfl, rfl, rfl⟩
  · exact ⟨31, by omega, fun w => P.fbits_width_top.calls 16 5 10 31 w (by kernel_rfl)⟩
  · exact ⟨255, by omega, fun w => P.fbits_width_top.calls 32 8 23 255 w (by kernel_rfl)⟩
  · exact ⟨2047, by omega, fun w => P.fbits_width_top.calls 64 11 52 2047 w (by kernel_rfl)⟩
theorem bias_det {a e f : Int} (h : Wd a e f) : ∃ t, (15 ≤ t ∧ t ≤ 1023) ∧ Det 95 #[.agg #[.int .i64 a, .int .i64 e, .int .i64 f]] (.int .i64 t) := by
  rcases h with ⟨rfl, rfl, rfl⟩ | ⟨rfl, rfl, rfl⟩ | ⟨rfl, rfl, rfl⟩
  · exact ⟨15, by omega, fun w => P.fbits_width_bias.calls 16 5 10 15 w (by kernel_rfl)⟩
  · exact ⟨127, by omega, fun w => P.fbits_width_bias.calls 32 8 23 127 w (by kernel_rfl)⟩
  · exact ⟨1023, by omega, fun w => P.fbits_width_bias.calls 64 11 52 1023 w (by kernel_rfl)⟩
theorem class_det {a e f : Int} (h : Wd a e f) (neg : Bool) (x y : Int) : ∃ c, Det 94 #[.agg #[.int .i64 a, .int .i64 e, .int .i64 f], .agg #[.bool neg, .int .i64 x, .int .u64 y]] (.int .i64 c) := by
  have hf : ∃ t, P.fbits_width_top.f a e f = some t := by
    rcases h with ⟨rfl, rfl, rfl⟩ | ⟨rfl, rfl, rfl⟩ | ⟨rfl, rfl, rfl⟩
    · exact ⟨31, by kernel_rfl⟩
    · exact ⟨255, by kernel_rfl⟩
    · exact ⟨2047, by kernel_rfl⟩
  obtain ⟨t, ht⟩ := hf
  have : ∃ c, P.fbits_width_class.f 1 a e f neg x y = some c := by
    unfold P.fbits_width_class.f
    rw [ht, Option.bind_some]
    by_cases h1 : x = t
    · rw [if_pos h1]
      simp only [P.fbits_width_class.j0, ht, Option.bind_some]
      by_cases h2 : (y != 0) = true
      · exact ⟨_, by rw [if_pos h2]⟩
      · exact ⟨_, by rw [if_neg h2, if_pos h1]⟩
    · rw [if_neg h1]
      simp only [P.fbits_width_class.j0, ht, Option.bind_some]
      by_cases h2 : x = 0
      · by_cases h3 : y = 0
        · exact ⟨_, by rw [if_neg (by decide), if_neg h1, if_pos h2, if_pos h3]⟩
        · exact ⟨_, by rw [if_neg (by decide), if_neg h1, if_pos h2, if_neg h3]⟩
      · exact ⟨_, by rw [if_neg (by decide), if_neg h1, if_neg h2]⟩
  obtain ⟨c, hc⟩ := this
  exact ⟨c, fun w => P.fbits_width_class.calls 1 a e f neg x y c w hc⟩
theorem join_det {a e f : Int} (h : Wd a e f) (neg : Bool) (x y : Int) : ∃ r, U64 r ∧ Det 98 #[.agg #[.int .i64 a, .int .i64 e, .int .i64 f], .agg #[.bool neg, .int .i64 x, .int .u64 y]] (.int .u64 r) := by
  have hf : 0 ≤ f := by rcases h with ⟨rfl, rfl, rfl⟩ | ⟨rfl, rfl, rfl⟩ | ⟨rfl, rfl, rfl⟩ <;> decide
  have ha : 0 ≤ wrap64 (a - 1) := by unfold wrap64; rcases h with ⟨rfl, rfl, rfl⟩ | ⟨rfl, rfl, rfl⟩ | ⟨rfl, rfl, rfl⟩ <;> omega
  cases neg
  · refine ⟨_, bits_U64 .or _ _ (.inl rfl), fun w => P.fbits_width_join.calls a e f false x y _ w (by unfold P.fbits_width_join.f; rw [if_pos hf, if_neg (by decide)])⟩
  · refine ⟨_, bits_U64 .or _ _ (.inl rfl), fun w => P.fbits_width_join.calls a e f true x y _ w (by unfold P.fbits_width_join.f; rw [if_pos hf, if_pos rfl, if_pos ha])⟩
end Go.Proofs.YtfmceonbejlhlaaGreatDoor

/-
  fbits: Widen.
-/
namespace Go.Proofs.YtfmceonbejlhlaaGreatDoor
open Go.RowKit Go.Proofs.YtfmceonbejlhlaaGreatDoorW.PrintWords Go.Proofs.YtfmceonbejlhlaaGreatDoorW.PrintLast Go.Proofs.YtfmceonbejlhlaaGreatDoorW.PrintMore
set_option linter.unusedVariables false

theorem bitLenAux_le : ∀ f x : Nat, Lib.bitLenAux f x ≤ f
  | 0, _ => by simp [Lib.bitLenAux]
  | f + 1, x => by
    have := bitLenAux_le f (x / 2)
    unfold Lib.bitLenAux
    split <;> omega
theorem bitLen_52 (x : Nat) (h : x < 4503599627370496) : Lib.bitLen x ≤ 52 := by
  have := Lib.bitLenAux_fuel 52 x (by omega) 64 (by omega)
  unfold Lib.bitLen
  rw [this]
  exact bitLenAux_le _ _
set_option maxHeartbeats 4000000 in
set_option maxRecDepth 100000 in
theorem widen_det {a e f : Int} (h : Wd a e f) (b : Int) (hb : U64 b) : ∃ r er, U64 r ∧ Det 53 #[.int .i64 a, .int .u64 b] (.tuple #[.int .u64 r, .int .i64 er]) := by
  obtain ⟨ok, hOf⟩ := of_det h b
  have HOf := Lib.hid hOf
  clear hOf
  cases ok
  · refine ⟨0, 1, by unfold U64; omega, fun w => ?_⟩
    go_enter Tryz.func53, Tryz.ntmps53
    go_wp2_with (go_at_call 92; refine (HOf.out _).mono ?_; rintro ee w1 ⟨rfl, hb1⟩)
    exact bodyPost_ret (v := .tuple #[.int .u64 0, .int .i64 1]) (by simp [results, Tryz.results53, go_sem]) rfl ⟨rfl, hb1.alloc hb1.size _⟩
  obtain ⟨neg, x, y, hx, hy, hS⟩ := split_det h b hb
  obtain ⟨c, hC⟩ := class_det h neg x y
  obtain ⟨t, ht, hB⟩ := bias_det h
  have hf : 10 ≤ f ∧ f ≤ 52 := by rcases h with ⟨rfl, rfl, rfl⟩ | ⟨rfl, rfl, rfl⟩ | ⟨rfl, rfl, rfl⟩ <;> omega
  obtain ⟨F, hF⟩ : ∃ F, y * 2 ^ (52 - f).toNat = F := ⟨_, rfl⟩
  have hF0 : 0 ≤ F ∧ F < 4503599627370496 := ⟨by rw [← hF]; exact Int.mul_nonneg hy.1 (Int.pow_nonneg (by decide)), by rw [← hF]; exact hy.2⟩
  have wF : IntKind.u64.wrap F = F := by rw [IntKind.wrap_u64]; omega
  have HS := Lib.hid hS
  have HC := Lib.hid hC
  have HB := Lib.hid hB
  clear hS hC hB
  have wf : IntKind.i64.wrap (52 - f) = 52 - f := by rw [IntKind.wrap_i64]; omega
  have wf2 : (0 : Int) ≤ 52 - f := by omega
  have wf3 : ¬ (52 - f < 0) := by omega
  have i2 := fun W => index_width2 W
  by_cases h3 : c = 3
  · subst h3
    obtain ⟨r, hr, hJ⟩ := join_det (a := 64) (e := 11) (f := 52) (.inr (.inr ⟨rfl, rfl, rfl⟩)) neg (2047) (F)
    have HJ := Lib.hid hJ
    clear hJ
    refine ⟨r, 0, hr, fun w => ?_⟩
    go_enter Tryz.func53, Tryz.ntmps53
    go_wp2_with (first
      | (go_at_call 92; refine (HOf.out _).mono ?_; rintro ee w1 ⟨rfl, hb1⟩; have R1 := Row3.new w1 168 (.int .i64 a) (.int .i64 e) (.int .i64 f); have c0 := R1.c0; have c1 := R1.c1; have c2 := R1.c2; have hb1 := hb1.alloc hb1.size (.cells #[.int .i64 a, .int .i64 e, .int .i64 f] 168))
      | (go_at_call 93; refine (HS.out _).mono ?_; rintro ee w2 ⟨rfl, hb2⟩; have R2 := R1.below hb2; have c0 := R2.c0; have c1 := R2.c1; have c2 := R2.c2; have hb2 := hb1.trans (hb2.mono hb1.size); have R3 := R2.alloc (.cells #[.bool neg, .int .i64 x, .int .u64 y] 172); have S3 := Row3.new w2 172 (.bool neg) (.int .i64 x) (.int .u64 y); have c0 := R3.c0; have c1 := R3.c1; have c2 := R3.c2; have d0 := S3.c0; have d1 := S3.c1; have d2 := S3.c2; have hb3 := hb2.alloc hb2.size (.cells #[.bool neg, .int .i64 x, .int .u64 y] 172))
      | (go_at_call 94; refine (HC.out _).mono ?_; rintro ee w4 ⟨rfl, hb4⟩; have R5 := R3.below hb4; have S5 := S3.below hb4; have c0 := R5.c0; have c1 := R5.c1; have c2 := R5.c2; have d0 := S5.c0; have d1 := S5.c1; have d2 := S5.c2; have d3 := S5.fz 0; have d4 := S5.fz 1; have d5 := S5.fz 2; have hb5 := hb3.trans (hb4.mono hb3.size); have hne : w1.heap.size ≠ w2.heap.size := (by have := R1.lt; have := hb2.size; have := R2.lt; omega); have hqw := hb2.size; have hq4 := S5.lt; have S6 := S5.s2 (.int .u64 F); have hb6 := hb5.setCell (p := ⟨w2.heap.size, 2, none⟩) hqw (.int .u64 F); have R6 := (show Row3 (w4.setCell ⟨w2.heap.size, 2, none⟩ (.int .u64 F)) w1.heap.size 168 (.int .i64 a) (.int .i64 e) (.int .i64 f) from (Below.heap_setCell w4 ⟨w2.heap.size, 2, none⟩ _ _ hne).trans R5)))

    have hS7 := S6.s1 (.int .i64 2047)
    have hB7 := hb6.setCell (p := ⟨w2.heap.size, 1, none⟩) hqw (.int .i64 2047)
    generalize (w4.setCell ⟨w2.heap.size, 2, none⟩ (.int .u64 F)).setCell ⟨w2.heap.size, 1, none⟩ (.int .i64 2047) = W6 at hS7 hB7 ⊢
    have k0 := hS7.c0
    have k1 := hS7.c1
    have k2 := hS7.c2
    have HS7 := Lib.hid hS7
    have HB7 := Lib.hid hB7
    clear hS7 hB7 S6 hb6 R6 hb5 R5 S5 hb3 R3 S3 R1 R2 hb2 hb1
    go_region_with (first
      | (go_at_call 97; refine (widths_any _).mono ?_; rintro ee w7 ⟨rfl, hb7⟩; have S8 := Row3.below (show Row3 W6.drew _ _ _ _ _ from HS7.out) hb7; have k0 := S8.c0; have k1 := S8.c1; have k2 := S8.c2; have HB8 := Lib.hid (HB7.out.drew.trans (hb7.mono HB7.out.drew.size)); clear hb7 S8)
      | (go_at_call 98; refine (HJ.out _).mono ?_; rintro ee w8 ⟨rfl, hb8⟩; have HB9 := Lib.hid (HB8.out.trans (Below.mono hb8 HB8.out.size)); clear hb8))
    all_goals
      go_wp2
      exact bodyPost_ret (v := .tuple #[.int .u64 r, .int .i64 0]) (by simp [results, Tryz.results53, go_sem]) rfl ⟨rfl, HB9.out⟩
  by_cases h4 : c = 4
  · subst h4
    obtain ⟨r, hr, hJ⟩ := join_det (a := 64) (e := 11) (f := 52) (.inr (.inr ⟨rfl, rfl, rfl⟩)) neg (2047) (F)
    have HJ := Lib.hid hJ
    clear hJ
    refine ⟨r, 0, hr, fun w => ?_⟩
    go_enter Tryz.func53, Tryz.ntmps53
    go_wp2_with (first
      | (go_at_call 92; refine (HOf.out _).mono ?_; rintro ee w1 ⟨rfl, hb1⟩; have R1 := Row3.new w1 168 (.int .i64 a) (.int .i64 e) (.int .i64 f); have c0 := R1.c0; have c1 := R1.c1; have c2 := R1.c2; have hb1 := hb1.alloc hb1.size (.cells #[.int .i64 a, .int .i64 e, .int .i64 f] 168))
      | (go_at_call 93; refine (HS.out _).mono ?_; rintro ee w2 ⟨rfl, hb2⟩; have R2 := R1.below hb2; have c0 := R2.c0; have c1 := R2.c1; have c2 := R2.c2; have hb2 := hb1.trans (hb2.mono hb1.size); have R3 := R2.alloc (.cells #[.bool neg, .int .i64 x, .int .u64 y] 172); have S3 := Row3.new w2 172 (.bool neg) (.int .i64 x) (.int .u64 y); have c0 := R3.c0; have c1 := R3.c1; have c2 := R3.c2; have d0 := S3.c0; have d1 := S3.c1; have d2 := S3.c2; have hb3 := hb2.alloc hb2.size (.cells #[.bool neg, .int .i64 x, .int .u64 y] 172))
      | (go_at_call 94; refine (HC.out _).mono ?_; rintro ee w4 ⟨rfl, hb4⟩; have R5 := R3.below hb4; have S5 := S3.below hb4; have c0 := R5.c0; have c1 := R5.c1; have c2 := R5.c2; have d0 := S5.c0; have d1 := S5.c1; have d2 := S5.c2; have d3 := S5.fz 0; have d4 := S5.fz 1; have d5 := S5.fz 2; have hb5 := hb3.trans (hb4.mono hb3.size); have hne : w1.heap.size ≠ w2.heap.size := (by have := R1.lt; have := hb2.size; have := R2.lt; omega); have hqw := hb2.size; have hq4 := S5.lt; have S6 := S5.s2 (.int .u64 F); have hb6 := hb5.setCell (p := ⟨w2.heap.size, 2, none⟩) hqw (.int .u64 F); have R6 := (show Row3 (w4.setCell ⟨w2.heap.size, 2, none⟩ (.int .u64 F)) w1.heap.size 168 (.int .i64 a) (.int .i64 e) (.int .i64 f) from (Below.heap_setCell w4 ⟨w2.heap.size, 2, none⟩ _ _ hne).trans R5)))

    have hS7 := S6.s1 (.int .i64 2047)
    have hB7 := hb6.setCell (p := ⟨w2.heap.size, 1, none⟩) hqw (.int .i64 2047)
    generalize (w4.setCell ⟨w2.heap.size, 2, none⟩ (.int .u64 F)).setCell ⟨w2.heap.size, 1, none⟩ (.int .i64 2047) = W6 at hS7 hB7 ⊢
    have k0 := hS7.c0
    have k1 := hS7.c1
    have k2 := hS7.c2
    have HS7 := Lib.hid hS7
    have HB7 := Lib.hid hB7
    clear hS7 hB7 S6 hb6 R6 hb5 R5 S5 hb3 R3 S3 R1 R2 hb2 hb1
    go_region_with (first
      | (go_at_call 97; refine (widths_any _).mono ?_; rintro ee w7 ⟨rfl, hb7⟩; have S8 := Row3.below (show Row3 W6.drew _ _ _ _ _ from HS7.out) hb7; have k0 := S8.c0; have k1 := S8.c1; have k2 := S8.c2; have HB8 := Lib.hid (HB7.out.drew.trans (hb7.mono HB7.out.drew.size)); clear hb7 S8)
      | (go_at_call 98; refine (HJ.out _).mono ?_; rintro ee w8 ⟨rfl, hb8⟩; have HB9 := Lib.hid (HB8.out.trans (Below.mono hb8 HB8.out.size)); clear hb8))
    all_goals
      go_wp2
      exact bodyPost_ret (v := .tuple #[.int .u64 r, .int .i64 0]) (by simp [results, Tryz.results53, go_sem]) rfl ⟨rfl, HB9.out⟩
  by_cases h2 : c = 2
  · subst h2
    have e1 : IntKind.i64.wrap (1023 - t) = 1023 - t := by rw [IntKind.wrap_i64]; omega
    have e2 : IntKind.i64.wrap (x + (1023 - t)) = x + (1023 - t) := by rw [IntKind.wrap_i64]; omega
    obtain ⟨r, hr, hJ⟩ := join_det (a := 64) (e := 11) (f := 52) (.inr (.inr ⟨rfl, rfl, rfl⟩)) neg (x + (1023 - t)) (F)
    have HJ := Lib.hid hJ
    clear hJ
    refine ⟨r, 0, hr, fun w => ?_⟩
    go_enter Tryz.func53, Tryz.ntmps53
    go_wp2_with (first
      | (go_at_call 92; refine (HOf.out _).mono ?_; rintro ee w1 ⟨rfl, hb1⟩; have R1 := Row3.new w1 168 (.int .i64 a) (.int .i64 e) (.int .i64 f); have c0 := R1.c0; have c1 := R1.c1; have c2 := R1.c2; have hb1 := hb1.alloc hb1.size (.cells #[.int .i64 a, .int .i64 e, .int .i64 f] 168))
      | (go_at_call 93; refine (HS.out _).mono ?_; rintro ee w2 ⟨rfl, hb2⟩; have R2 := R1.below hb2; have c0 := R2.c0; have c1 := R2.c1; have c2 := R2.c2; have hb2 := hb1.trans (hb2.mono hb1.size); have R3 := R2.alloc (.cells #[.bool neg, .int .i64 x, .int .u64 y] 172); have S3 := Row3.new w2 172 (.bool neg) (.int .i64 x) (.int .u64 y); have c0 := R3.c0; have c1 := R3.c1; have c2 := R3.c2; have d0 := S3.c0; have d1 := S3.c1; have d2 := S3.c2; have hb3 := hb2.alloc hb2.size (.cells #[.bool neg, .int .i64 x, .int .u64 y] 172))
      | (go_at_call 94; refine (HC.out _).mono ?_; rintro ee w4 ⟨rfl, hb4⟩; have R5 := R3.below hb4; have S5 := S3.below hb4; have c0 := R5.c0; have c1 := R5.c1; have c2 := R5.c2; have d0 := S5.c0; have d1 := S5.c1; have d2 := S5.c2; have d3 := S5.fz 0; have d4 := S5.fz 1; have d5 := S5.fz 2; have hb5 := hb3.trans (hb4.mono hb3.size); have hne : w1.heap.size ≠ w2.heap.size := (by have := R1.lt; have := hb2.size; have := R2.lt; omega); have hqw := hb2.size; have hq4 := S5.lt; have S6 := S5.s2 (.int .u64 F); have hb6 := hb5.setCell (p := ⟨w2.heap.size, 2, none⟩) hqw (.int .u64 F); have R6 := (show Row3 (w4.setCell ⟨w2.heap.size, 2, none⟩ (.int .u64 F)) w1.heap.size 168 (.int .i64 a) (.int .i64 e) (.int .i64 f) from (Below.heap_setCell w4 ⟨w2.heap.size, 2, none⟩ _ _ hne).trans R5)))
    have x0 := S6.c0
    have x1 := S6.c1
    have x2 := S6.c2
    have y0 := R6.c0
    have y1 := R6.c1
    have y2 := R6.c2
    have hq6 := S6.lt
    have HS6 := Lib.hid S6
    have HR6 := Lib.hid R6
    have HB6 := Lib.hid hb6
    clear hb5 R5 S5 hb3 R3 S3 R1 R2 hb2 hb1 S6 R6 hb6 c0 c1 c2 d0 d1 d2 d3 d4 d5
    generalize w4.setCell ⟨w2.heap.size, 2, none⟩ (.int .u64 F) = W6 at HS6 HR6 HB6 x0 x1 x2 y0 y1 y2 hq6 ⊢
    go_region_with (first
      | (go_at_call 95; refine (HB.out _).mono ?_; rintro ee w5 ⟨rfl, hb5⟩; have S8 := Row3.below (show Row3 W6.drew _ _ _ _ _ from HS6.out) hb5; have x0 := S8.c0; have x1 := S8.c1; have x2 := S8.c2; have x3 := S8.fz 1; have hb8 := HB6.out.drew.trans (hb5.mono HB6.out.drew.size)))
    all_goals
      go_wp2_with fail

      have hS7 := S8.s1 (.int .i64 (x + (1023 - t)))
      have hB7 := hb8.setCell (p := ⟨w2.heap.size, 1, none⟩) hqw (.int .i64 (x + (1023 - t)))
      generalize w5.setCell ⟨w2.heap.size, 1, none⟩ (.int .i64 (x + (1023 - t))) = W6 at hS7 hB7 ⊢
      have k0 := hS7.c0
      have k1 := hS7.c1
      have k2 := hS7.c2
      have HS7 := Lib.hid hS7
      have HB7 := Lib.hid hB7
      clear hS7 hB7 S8 hb8 hb5
      go_region_with (first
        | (go_at_call 97; refine (widths_any _).mono ?_; rintro ee w7 ⟨rfl, hb7⟩; have S8 := Row3.below (show Row3 W6.drew _ _ _ _ _ from HS7.out) hb7; have k0 := S8.c0; have k1 := S8.c1; have k2 := S8.c2; have HB8 := Lib.hid (HB7.out.drew.trans (hb7.mono HB7.out.drew.size)); clear hb7 S8)
        | (go_at_call 98; refine (HJ.out _).mono ?_; rintro ee w8 ⟨rfl, hb8⟩; have HB9 := Lib.hid (HB8.out.trans (Below.mono hb8 HB8.out.size)); clear hb8))
      all_goals
        go_wp2
        exact bodyPost_ret (v := .tuple #[.int .u64 r, .int .i64 0]) (by simp [results, Tryz.results53, go_sem]) rfl ⟨rfl, HB9.out⟩
  by_cases h1 : c = 1
  · subst h1
    by_cases h64 : a = 64
    · have n64 : (a == 64) = true := by simpa using h64
      clear h64
      obtain ⟨r, hr, hJ⟩ := join_det (a := 64) (e := 11) (f := 52) (.inr (.inr ⟨rfl, rfl, rfl⟩)) neg (x) (F)
      have HJ := Lib.hid hJ
      clear hJ
      refine ⟨r, 0, hr, fun w => ?_⟩
      go_enter Tryz.func53, Tryz.ntmps53
      go_wp2_with (first
        | (go_at_call 92; refine (HOf.out _).mono ?_; rintro ee w1 ⟨rfl, hb1⟩; have R1 := Row3.new w1 168 (.int .i64 a) (.int .i64 e) (.int .i64 f); have c0 := R1.c0; have c1 := R1.c1; have c2 := R1.c2; have hb1 := hb1.alloc hb1.size (.cells #[.int .i64 a, .int .i64 e, .int .i64 f] 168))
        | (go_at_call 93; refine (HS.out _).mono ?_; rintro ee w2 ⟨rfl, hb2⟩; have R2 := R1.below hb2; have c0 := R2.c0; have c1 := R2.c1; have c2 := R2.c2; have hb2 := hb1.trans (hb2.mono hb1.size); have R3 := R2.alloc (.cells #[.bool neg, .int .i64 x, .int .u64 y] 172); have S3 := Row3.new w2 172 (.bool neg) (.int .i64 x) (.int .u64 y); have c0 := R3.c0; have c1 := R3.c1; have c2 := R3.c2; have d0 := S3.c0; have d1 := S3.c1; have d2 := S3.c2; have hb3 := hb2.alloc hb2.size (.cells #[.bool neg, .int .i64 x, .int .u64 y] 172))
        | (go_at_call 94; refine (HC.out _).mono ?_; rintro ee w4 ⟨rfl, hb4⟩; have R5 := R3.below hb4; have S5 := S3.below hb4; have c0 := R5.c0; have c1 := R5.c1; have c2 := R5.c2; have d0 := S5.c0; have d1 := S5.c1; have d2 := S5.c2; have d3 := S5.fz 0; have d4 := S5.fz 1; have d5 := S5.fz 2; have hb5 := hb3.trans (hb4.mono hb3.size); have hne : w1.heap.size ≠ w2.heap.size := (by have := R1.lt; have := hb2.size; have := R2.lt; omega); have hqw := hb2.size; have hq4 := S5.lt; have S6 := S5.s2 (.int .u64 F); have hb6 := hb5.setCell (p := ⟨w2.heap.size, 2, none⟩) hqw (.int .u64 F); have R6 := (show Row3 (w4.setCell ⟨w2.heap.size, 2, none⟩ (.int .u64 F)) w1.heap.size 168 (.int .i64 a) (.int .i64 e) (.int .i64 f) from (Below.heap_setCell w4 ⟨w2.heap.size, 2, none⟩ _ _ hne).trans R5)))

      have hS7 := S6
      have hB7 := hb6
      generalize w4.setCell ⟨w2.heap.size, 2, none⟩ (.int .u64 F) = W6 at hS7 hB7 ⊢
      have k0 := hS7.c0
      have k1 := hS7.c1
      have k2 := hS7.c2
      have HS7 := Lib.hid hS7
      have HB7 := Lib.hid hB7
      clear hS7 hB7 S6 hb6 R6 hb5 R5 S5 hb3 R3 S3 R1 R2 hb2 hb1
      go_region_with (first
        | (go_at_call 97; refine (widths_any _).mono ?_; rintro ee w7 ⟨rfl, hb7⟩; have S8 := Row3.below (show Row3 W6.drew _ _ _ _ _ from HS7.out) hb7; have k0 := S8.c0; have k1 := S8.c1; have k2 := S8.c2; have HB8 := Lib.hid (HB7.out.drew.trans (hb7.mono HB7.out.drew.size)); clear hb7 S8)
        | (go_at_call 98; refine (HJ.out _).mono ?_; rintro ee w8 ⟨rfl, hb8⟩; have HB9 := Lib.hid (HB8.out.trans (Below.mono hb8 HB8.out.size)); clear hb8))
      all_goals
        go_wp2
        exact bodyPost_ret (v := .tuple #[.int .u64 r, .int .i64 0]) (by simp [results, Tryz.results53, go_sem]) rfl ⟨rfl, HB9.out⟩
    · have h64' : ¬ a = 64 := h64
      have hLen := fun W => bits_Len64 F W hF0.1 (by omega)
      obtain ⟨L, hL⟩ : ∃ L, Lib.bitLen F.toNat = L := ⟨_, rfl⟩
      have hL52 : L ≤ 52 := by rw [← hL]; exact bitLen_52 _ (by omega)
      rw [hL] at hLen
      have HLen := Lib.hid hLen
      clear hLen hL
      have g1 : IntKind.i64.wrap (53 - (L : Int)) = 53 - (L : Int) := by rw [IntKind.wrap_i64]; omega
      have g2 : (0 : Int) ≤ 53 - (L : Int) := by omega
      have g3 : ¬ (53 - (L : Int) < 0) := by omega
      have e1 : IntKind.i64.wrap (1 - t) = 1 - t := by rw [IntKind.wrap_i64]; omega
      have e2 : IntKind.i64.wrap (1 - t + 1023) = 1 - t + 1023 := by rw [IntKind.wrap_i64]; omega
      have e3 : IntKind.i64.wrap (1 - t + 1023 - (53 - (L : Int))) = 1 - t + 1023 - (53 - (L : Int)) := by rw [IntKind.wrap_i64]; omega
      have n64 : (a == 64) = false := by simpa using h64
      obtain ⟨G, hG⟩ : ∃ G, F * 2 ^ (53 - L) = G := ⟨_, rfl⟩
      obtain ⟨Y, hY⟩ : ∃ Y, Go.bits .and .u64 (IntKind.u64.wrap G) 4503599627370495 = Y := ⟨_, rfl⟩
      obtain ⟨r, hr, hJ⟩ := join_det (a := 64) (e := 11) (f := 52) (.inr (.inr ⟨rfl, rfl, rfl⟩)) neg (1 - t + 1023 - (53 - (L : Int))) (Y)
      have HJ := Lib.hid hJ
      clear hJ
      refine ⟨r, 0, hr, fun w => ?_⟩
      go_enter Tryz.func53, Tryz.ntmps53
      go_wp2_with (first
        | (go_at_call 92; refine (HOf.out _).mono ?_; rintro ee w1 ⟨rfl, hb1⟩; have R1 := Row3.new w1 168 (.int .i64 a) (.int .i64 e) (.int .i64 f); have c0 := R1.c0; have c1 := R1.c1; have c2 := R1.c2; have hb1 := hb1.alloc hb1.size (.cells #[.int .i64 a, .int .i64 e, .int .i64 f] 168))
        | (go_at_call 93; refine (HS.out _).mono ?_; rintro ee w2 ⟨rfl, hb2⟩; have R2 := R1.below hb2; have c0 := R2.c0; have c1 := R2.c1; have c2 := R2.c2; have hb2 := hb1.trans (hb2.mono hb1.size); have R3 := R2.alloc (.cells #[.bool neg, .int .i64 x, .int .u64 y] 172); have S3 := Row3.new w2 172 (.bool neg) (.int .i64 x) (.int .u64 y); have c0 := R3.c0; have c1 := R3.c1; have c2 := R3.c2; have d0 := S3.c0; have d1 := S3.c1; have d2 := S3.c2; have hb3 := hb2.alloc hb2.size (.cells #[.bool neg, .int .i64 x, .int .u64 y] 172))
        | (go_at_call 94; refine (HC.out _).mono ?_; rintro ee w4 ⟨rfl, hb4⟩; have R5 := R3.below hb4; have S5 := S3.below hb4; have c0 := R5.c0; have c1 := R5.c1; have c2 := R5.c2; have d0 := S5.c0; have d1 := S5.c1; have d2 := S5.c2; have d3 := S5.fz 0; have d4 := S5.fz 1; have d5 := S5.fz 2; have hb5 := hb3.trans (hb4.mono hb3.size); have hne : w1.heap.size ≠ w2.heap.size := (by have := R1.lt; have := hb2.size; have := R2.lt; omega); have hqw := hb2.size; have hq4 := S5.lt; have S6 := S5.s2 (.int .u64 F); have hb6 := hb5.setCell (p := ⟨w2.heap.size, 2, none⟩) hqw (.int .u64 F); have R6 := (show Row3 (w4.setCell ⟨w2.heap.size, 2, none⟩ (.int .u64 F)) w1.heap.size 168 (.int .i64 a) (.int .i64 e) (.int .i64 f) from (Below.heap_setCell w4 ⟨w2.heap.size, 2, none⟩ _ _ hne).trans R5))
        | (go_at_call 96; refine (HLen.out _).mono ?_; rintro ee w9 ⟨rfl, rfl⟩; have x0 := S6.c0; have x1 := S6.c1; have x2 := S6.c2; have y0 := R6.c0; have y1 := R6.c1; have y2 := R6.c2)
        | (go_at_call 95; refine (HB.out _).mono ?_; rintro ee w9 ⟨rfl, hb9⟩; have S9 := S6.below hb9; have x0 := S9.c0; have x1 := S9.c1; have x2 := S9.c2; have x3 := S9.fz 0; have x4 := S9.fz 1; have x5 := S9.fz 2; have hb8 := hb6.trans (hb9.mono hb6.size)))

      have hS7 := (S9.s1 (.int .i64 (1 - t + 1023 - (53 - (L : Int))))).s2 (.int .u64 Y)
      have hB7 := (hb8.setCell (p := ⟨w2.heap.size, 1, none⟩) hqw (.int .i64 (1 - t + 1023 - (53 - (L : Int))))).setCell (p := ⟨w2.heap.size, 2, none⟩) hqw (.int .u64 Y)
      generalize (w9.setCell ⟨w2.heap.size, 1, none⟩ (.int .i64 (1 - t + 1023 - (53 - (L : Int))))).setCell ⟨w2.heap.size, 2, none⟩ (.int .u64 Y) = W6 at hS7 hB7 ⊢
      have k0 := hS7.c0
      have k1 := hS7.c1
      have k2 := hS7.c2
      have HS7 := Lib.hid hS7
      have HB7 := Lib.hid hB7
      clear hS7 hB7 S9 hb8 hb9 S6 hb6 R6 hb5 R5 S5 hb3 R3 S3 R1 R2 hb2 hb1
      go_region_with (first
        | (go_at_call 97; refine (widths_any _).mono ?_; rintro ee w7 ⟨rfl, hb7⟩; have S8 := Row3.below (show Row3 W6.drew _ _ _ _ _ from HS7.out) hb7; have k0 := S8.c0; have k1 := S8.c1; have k2 := S8.c2; have HB8 := Lib.hid (HB7.out.drew.trans (hb7.mono HB7.out.drew.size)); clear hb7 S8)
        | (go_at_call 98; refine (HJ.out _).mono ?_; rintro ee w8 ⟨rfl, hb8⟩; have HB9 := Lib.hid (HB8.out.trans (Below.mono hb8 HB8.out.size)); clear hb8))
      all_goals
        go_wp2
        exact bodyPost_ret (v := .tuple #[.int .u64 r, .int .i64 0]) (by simp [results, Tryz.results53, go_sem]) rfl ⟨rfl, HB9.out⟩
  have b3 : (c == 3) = false := by simpa using h3
  have b4 : (c == 4) = false := by simpa using h4
  have b2 : (c == 2) = false := by simpa using h2
  have b1 : (c == 1) = false := by simpa using h1
  obtain ⟨r, hr, hJ⟩ := join_det (a := 64) (e := 11) (f := 52) (.inr (.inr ⟨rfl, rfl, rfl⟩)) neg (x) (F)
  have HJ := Lib.hid hJ
  clear hJ
  refine ⟨r, 0, hr, fun w => ?_⟩
  go_enter Tryz.func53, Tryz.ntmps53
  go_wp2_with (first
    | (go_at_call 92; refine (HOf.out _).mono ?_; rintro ee w1 ⟨rfl, hb1⟩; have R1 := Row3.new w1 168 (.int .i64 a) (.int .i64 e) (.int .i64 f); have c0 := R1.c0; have c1 := R1.c1; have c2 := R1.c2; have hb1 := hb1.alloc hb1.size (.cells #[.int .i64 a, .int .i64 e, .int .i64 f] 168))
    | (go_at_call 93; refine (HS.out _).mono ?_; rintro ee w2 ⟨rfl, hb2⟩; have R2 := R1.below hb2; have c0 := R2.c0; have c1 := R2.c1; have c2 := R2.c2; have hb2 := hb1.trans (hb2.mono hb1.size); have R3 := R2.alloc (.cells #[.bool neg, .int .i64 x, .int .u64 y] 172); have S3 := Row3.new w2 172 (.bool neg) (.int .i64 x) (.int .u64 y); have c0 := R3.c0; have c1 := R3.c1; have c2 := R3.c2; have d0 := S3.c0; have d1 := S3.c1; have d2 := S3.c2; have hb3 := hb2.alloc hb2.size (.cells #[.bool neg, .int .i64 x, .int .u64 y] 172))
    | (go_at_call 94; refine (HC.out _).mono ?_; rintro ee w4 ⟨rfl, hb4⟩; have R5 := R3.below hb4; have S5 := S3.below hb4; have c0 := R5.c0; have c1 := R5.c1; have c2 := R5.c2; have d0 := S5.c0; have d1 := S5.c1; have d2 := S5.c2; have d3 := S5.fz 0; have d4 := S5.fz 1; have d5 := S5.fz 2; have hb5 := hb3.trans (hb4.mono hb3.size); have hne : w1.heap.size ≠ w2.heap.size := (by have := R1.lt; have := hb2.size; have := R2.lt; omega); have hqw := hb2.size; have hq4 := S5.lt; have S6 := S5.s2 (.int .u64 F); have hb6 := hb5.setCell (p := ⟨w2.heap.size, 2, none⟩) hqw (.int .u64 F); have R6 := (show Row3 (w4.setCell ⟨w2.heap.size, 2, none⟩ (.int .u64 F)) w1.heap.size 168 (.int .i64 a) (.int .i64 e) (.int .i64 f) from (Below.heap_setCell w4 ⟨w2.heap.size, 2, none⟩ _ _ hne).trans R5)))

  have hS7 := S6
  have hB7 := hb6
  generalize w4.setCell ⟨w2.heap.size, 2, none⟩ (.int .u64 F) = W6 at hS7 hB7 ⊢
  have k0 := hS7.c0
  have k1 := hS7.c1
  have k2 := hS7.c2
  have HS7 := Lib.hid hS7
  have HB7 := Lib.hid hB7
  clear hS7 hB7 S6 hb6 R6 hb5 R5 S5 hb3 R3 S3 R1 R2 hb2 hb1
  go_region_with (first
    | (go_at_call 97; refine (widths_any _).mono ?_; rintro ee w7 ⟨rfl, hb7⟩; have S8 := Row3.below (show Row3 W6.drew _ _ _ _ _ from HS7.out) hb7; have k0 := S8.c0; have k1 := S8.c1; have k2 := S8.c2; have HB8 := Lib.hid (HB7.out.drew.trans (hb7.mono HB7.out.drew.size)); clear hb7 S8)
    | (go_at_call 98; refine (HJ.out _).mono ?_; rintro ee w8 ⟨rfl, hb8⟩; have HB9 := Lib.hid (HB8.out.trans (Below.mono hb8 HB8.out.size)); clear hb8))
  all_goals
    go_wp2
    exact bodyPost_ret (v := .tuple #[.int .u64 r, .int .i64 0]) (by simp [results, Tryz.results53, go_sem]) rfl ⟨rfl, HB9.out⟩
end Go.Proofs.YtfmceonbejlhlaaGreatDoor

/-
  fbits: Narrow.
-/
namespace Go.Proofs.YtfmceonbejlhlaaGreatDoor
open Go.RowKit Go.Proofs.YtfmceonbejlhlaaGreatDoorW.PrintWords Go.Proofs.YtfmceonbejlhlaaGreatDoorW.PrintLast Go.Proofs.YtfmceonbejlhlaaGreatDoorW.PrintMore
set_option linter.unusedVariables false

theorem index_two0 (t : Value) (W : World) : (Instr.index 180 (.agg #[.int .i64 0, t]) (.int .i64 0)).run Tryz.prog W = .ok (.int .i64 0) W := by kernel_rfl
theorem index_two1 (t : Value) (W : World) : (Instr.index 180 (.agg #[.int .i64 0, t]) (.int .i64 1)).run Tryz.prog W = .ok t W := by kernel_rfl
set_option maxHeartbeats 8000000 in
set_option maxRecDepth 100000 in
theorem narrow_det {a e f : Int} (h : Wd a e f) (b : Int) (hb : U64 b) : ∃ rx ok er, U64 rx ∧ Det 54 #[.int .i64 a, .int .u64 b] (.tuple #[.int .u64 rx, .bool ok, .int .i64 er]) := by
  obtain ⟨ok, hOf⟩ := of_det h 0
  have HOf := Lib.hid hOf
  clear hOf
  cases ok
  · refine ⟨0, false, 1, by unfold U64; omega, fun w => ?_⟩
    go_enter Tryz.func54, Tryz.ntmps54
    go_wp2_with (go_at_call 92; refine (HOf.out _).mono ?_; rintro ee w1 ⟨rfl, hb1⟩)
    exact bodyPost_ret (v := .tuple #[.int .u64 0, .bool false, .int .i64 1]) (by simp [results, Tryz.results54, go_sem]) rfl ⟨rfl, hb1.alloc hb1.size _⟩
  obtain ⟨neg, x, y, hx, hy, hS⟩ := split_det (a := 64) (e := 11) (f := 52) (.inr (.inr ⟨rfl, rfl, rfl⟩)) b hb
  obtain ⟨t, ht, hT⟩ := top_det h
  obtain ⟨bi, hbi, hB⟩ := bias_det h
  have hf : 10 ≤ f ∧ f ≤ 52 := by rcases h with ⟨rfl, rfl, rfl⟩ | ⟨rfl, rfl, rfl⟩ | ⟨rfl, rfl, rfl⟩ <;> omega
  obtain ⟨Z, hZ⟩ : ∃ Z, y / 2 ^ (52 - f).toNat = Z := ⟨_, rfl⟩
  obtain ⟨r0, hr0, hJ0⟩ := join_det h neg 0 Z
  obtain ⟨r1, hr1, hJ1⟩ := join_det h neg t Z
  obtain ⟨v0, e0, hv0, hW0⟩ := widen_det h r0 hr0
  obtain ⟨v1, e1, hv1, hW1⟩ := widen_det h r1 hr1
  have HS := Lib.hid hS
  have HT := Lib.hid hT
  have HB := Lib.hid hB
  have HJ0 := Lib.hid hJ0
  have HJ1 := Lib.hid hJ1
  have HW0 := Lib.hid hW0
  have HW1 := Lib.hid hW1
  clear hS hT hB hJ0 hJ1 hW0 hW1
  have wf : IntKind.i64.wrap (52 - f) = 52 - f := by rw [IntKind.wrap_i64]; omega
  have wf2 : (0 : Int) ≤ 52 - f := by omega
  have wf3 : ¬ (52 - f < 0) := by omega
  have i2 := fun W => index_width2 W
  have j0 := fun t W => index_two0 t W
  have j1 := fun t W => index_two1 t W
  by_cases q0 : v0 = b
  · have z0 : (v0 == b) = true := by simpa using q0
    clear q0
    refine ⟨r0, true, 0, hr0, fun w => ?_⟩
    go_enter Tryz.func54, Tryz.ntmps54
    go_wp2_with (first
      | (go_at_call 92; refine (HOf.out _).mono ?_; rintro ee w1 ⟨rfl, hb1⟩; have R1 := Row3.new w1 168 (.int .i64 a) (.int .i64 e) (.int .i64 f); have hb1 := hb1.alloc hb1.size (.cells #[.int .i64 a, .int .i64 e, .int .i64 f] 168))
      | (go_at_call 97; refine (widths_any _).mono ?_; rintro ee w2 ⟨rfl, hb2⟩; have R2 := R1.below hb2; have hb2 := hb1.trans (hb2.mono hb1.size))
      | (go_at_call 93; refine (HS.out _).mono ?_; rintro ee w3 ⟨rfl, hb3⟩; have R3 := (R2.below hb3).alloc (.cells #[.bool neg, .int .i64 x, .int .u64 y] 172); have S3 := Row3.new w3 172 (.bool neg) (.int .i64 x) (.int .u64 y); have c0 := R3.c0; have c1 := R3.c1; have c2 := R3.c2; have hb4 := hb2.trans (hb3.mono hb2.size); have hq4 := hb4.size; have hb5 := hb4.alloc hb4.size (.cells #[.bool neg, .int .i64 x, .int .u64 y] 172))
      | (go_at_call 99; refine (HT.out _).mono ?_; rintro ee w6 ⟨rfl, hb6⟩; have R6 := R3.below hb6; have S6 := S3.below hb6; have hB6 := hb5.trans (hb6.mono hb5.size); have hne : w1.heap.size ≠ w3.heap.size := (by have := R1.lt; have := R2.lt; have := hb3.size; omega)))
    obtain ⟨q7, hq7⟩ : ∃ q, w1.heap.size = q := ⟨_, rfl⟩
    obtain ⟨q9, hq9⟩ : ∃ q, w3.heap.size = q := ⟨_, rfl⟩
    rw [hq7] at R6 hne
    rw [hq9] at S6 hne hq4
    rw [hq7, hq9]
    clear R1 hb1 R2 hb2 R3 S3 c0 c1 c2 hb4 hb5 hq7 hq9
    have HR6 := Lib.hid R6
    have HS6 := Lib.hid S6
    have HB6 := Lib.hid hB6
    clear R6 S6 hB6
    go_loopw [33] (fun i wr => ∃ k : Nat, k ≤ 0 ∧ i = .int .i64 k ∧ Hid (Row3 wr q7 168 (.int .i64 a) (.int .i64 e) (.int .i64 f)) ∧ Hid (Row3 wr q9 172 (.bool neg) (.int .i64 x) (.int .u64 y)) ∧ Hid (Below w.heap.size w wr)) (fun i _ => 3 - (intOf i).toNat)
    case atStart => exact ⟨0, by omega, rfl, HR6, HS6, HB6⟩
    case round =>
      clear HR6 HS6 HB6
      obtain ⟨k, hk, rfl, HR, HS1, HB1⟩ := hrel
      have c0 := HR.out.c0
      have c1 := HR.out.c1
      have c2 := HR.out.c2
      have d0 := HS1.out.c0
      have d1 := HS1.out.c1
      have d2 := HS1.out.c2
      have d3 := HS1.out.fz 0
      have d4 := HS1.out.fz 1
      have d5 := HS1.out.fz 2
      obtain rfl : k = 0 := by omega
      go_wp2_with fail
      have l0 : ∀ p : Gb wr, p.wd.cell? ⟨q7, 0, none⟩ = some (.int .i64 a) := fun p => p.cell c0
      have l1 : ∀ p : Gb wr, p.wd.cell? ⟨q7, 1, none⟩ = some (.int .i64 e) := fun p => p.cell c1
      have l2 : ∀ p : Gb wr, p.wd.cell? ⟨q7, 2, none⟩ = some (.int .i64 f) := fun p => p.cell c2
      have m0 : ∀ p : Gb wr, p.wd.cell? ⟨q9, 0, none⟩ = some (.bool neg) := fun p => p.cell d0
      have m2 : ∀ p : Gb wr, p.wd.cell? ⟨q9, 2, none⟩ = some (.int .u64 y) := fun p => p.cell d2
      refine wp_region_below (by kernel_rfl) (by kernel_rfl) ?_
      repeat (quiet_step ((go_at_call 98; refine Calls.gb_of (HJ0.out _))))
      refine wpQuiet_nil ?_
      intro _ hw'
      obtain ⟨gq, hw''⟩ := hw'
      subst hw''
      have R7 := HR.out.below gq.below
      have S7 := HS1.out.below gq.below
      have hB7 := HB1.out.trans (gq.below.mono HB1.out.size)
      go_wp2_with (go_at_call 53; refine (HW0.out _).mono ?_; rintro ee w8 ⟨rfl, hb8⟩; have R8 := R7.below hb8; have S8 := S7.below hb8; have hB8 := hB7.trans (hb8.mono hB7.size))
      exact bodyPost_ret (v := .tuple #[.int .u64 r0, .bool true, .int .i64 0]) (by simp [results, Tryz.results54, go_sem]) rfl ⟨rfl, hB8⟩
  have z0 : (v0 == b) = false := by simpa using q0
  clear q0
  by_cases q1 : v1 = b
  · have z1 : (v1 == b) = true := by simpa using q1
    clear q1
    refine ⟨r1, true, 0, hr1, fun w => ?_⟩
    go_enter Tryz.func54, Tryz.ntmps54
    go_wp2_with (first
      | (go_at_call 92; refine (HOf.out _).mono ?_; rintro ee w1 ⟨rfl, hb1⟩; have R1 := Row3.new w1 168 (.int .i64 a) (.int .i64 e) (.int .i64 f); have hb1 := hb1.alloc hb1.size (.cells #[.int .i64 a, .int .i64 e, .int .i64 f] 168))
      | (go_at_call 97; refine (widths_any _).mono ?_; rintro ee w2 ⟨rfl, hb2⟩; have R2 := R1.below hb2; have hb2 := hb1.trans (hb2.mono hb1.size))
      | (go_at_call 93; refine (HS.out _).mono ?_; rintro ee w3 ⟨rfl, hb3⟩; have R3 := (R2.below hb3).alloc (.cells #[.bool neg, .int .i64 x, .int .u64 y] 172); have S3 := Row3.new w3 172 (.bool neg) (.int .i64 x) (.int .u64 y); have c0 := R3.c0; have c1 := R3.c1; have c2 := R3.c2; have hb4 := hb2.trans (hb3.mono hb2.size); have hq4 := hb4.size; have hb5 := hb4.alloc hb4.size (.cells #[.bool neg, .int .i64 x, .int .u64 y] 172))
      | (go_at_call 99; refine (HT.out _).mono ?_; rintro ee w6 ⟨rfl, hb6⟩; have R6 := R3.below hb6; have S6 := S3.below hb6; have hB6 := hb5.trans (hb6.mono hb5.size); have hne : w1.heap.size ≠ w3.heap.size := (by have := R1.lt; have := R2.lt; have := hb3.size; omega)))
    obtain ⟨q7, hq7⟩ : ∃ q, w1.heap.size = q := ⟨_, rfl⟩
    obtain ⟨q9, hq9⟩ : ∃ q, w3.heap.size = q := ⟨_, rfl⟩
    rw [hq7] at R6 hne
    rw [hq9] at S6 hne hq4
    rw [hq7, hq9]
    clear R1 hb1 R2 hb2 R3 S3 c0 c1 c2 hb4 hb5 hq7 hq9
    have HR6 := Lib.hid R6
    have HS6 := Lib.hid S6
    have HB6 := Lib.hid hB6
    clear R6 S6 hB6
    go_loopw [33] (fun i wr => ∃ k : Nat, k ≤ 1 ∧ i = .int .i64 k ∧ Hid (Row3 wr q7 168 (.int .i64 a) (.int .i64 e) (.int .i64 f)) ∧ Hid (Row3 wr q9 172 (.bool neg) (.int .i64 x) (.int .u64 y)) ∧ Hid (Below w.heap.size w wr)) (fun i _ => 3 - (intOf i).toNat)
    case atStart => exact ⟨0, by omega, rfl, HR6, HS6, HB6⟩
    case round =>
      clear HR6 HS6 HB6
      obtain ⟨k, hk, rfl, HR, HS1, HB1⟩ := hrel
      have c0 := HR.out.c0
      have c1 := HR.out.c1
      have c2 := HR.out.c2
      have d0 := HS1.out.c0
      have d1 := HS1.out.c1
      have d2 := HS1.out.c2
      have d3 := HS1.out.fz 0
      have d4 := HS1.out.fz 1
      have d5 := HS1.out.fz 2
      obtain rfl | rfl : k = 0 ∨ k = 1 := by omega
      · go_wp2_with fail
        have l0 : ∀ p : Gb wr, p.wd.cell? ⟨q7, 0, none⟩ = some (.int .i64 a) := fun p => p.cell c0
        have l1 : ∀ p : Gb wr, p.wd.cell? ⟨q7, 1, none⟩ = some (.int .i64 e) := fun p => p.cell c1
        have l2 : ∀ p : Gb wr, p.wd.cell? ⟨q7, 2, none⟩ = some (.int .i64 f) := fun p => p.cell c2
        have m0 : ∀ p : Gb wr, p.wd.cell? ⟨q9, 0, none⟩ = some (.bool neg) := fun p => p.cell d0
        have m2 : ∀ p : Gb wr, p.wd.cell? ⟨q9, 2, none⟩ = some (.int .u64 y) := fun p => p.cell d2
        refine wp_region_below (by kernel_rfl) (by kernel_rfl) ?_
        repeat (quiet_step ((go_at_call 98; refine Calls.gb_of (HJ0.out _))))
        refine wpQuiet_nil ?_
        intro _ hw'
        obtain ⟨gq, hw''⟩ := hw'
        subst hw''
        have R7 := HR.out.below gq.below
        have S7 := HS1.out.below gq.below
        have hB7 := HB1.out.trans (gq.below.mono HB1.out.size)
        go_wp2_with (go_at_call 53; refine (HW0.out _).mono ?_; rintro ee w8 ⟨rfl, hb8⟩; have R8 := R7.below hb8; have S8 := S7.below hb8; have hB8 := hB7.trans (hb8.mono hB7.size))
        go_roundw
        case rel => exact ⟨1, by omega, by go_num, R8, S8, hB8⟩
        case measure => simp [intOf]
      · go_wp2_with fail
        have l0 : ∀ p : Gb wr, p.wd.cell? ⟨q7, 0, none⟩ = some (.int .i64 a) := fun p => p.cell c0
        have l1 : ∀ p : Gb wr, p.wd.cell? ⟨q7, 1, none⟩ = some (.int .i64 e) := fun p => p.cell c1
        have l2 : ∀ p : Gb wr, p.wd.cell? ⟨q7, 2, none⟩ = some (.int .i64 f) := fun p => p.cell c2
        have m0 : ∀ p : Gb wr, p.wd.cell? ⟨q9, 0, none⟩ = some (.bool neg) := fun p => p.cell d0
        have m2 : ∀ p : Gb wr, p.wd.cell? ⟨q9, 2, none⟩ = some (.int .u64 y) := fun p => p.cell d2
        refine wp_region_below (by kernel_rfl) (by kernel_rfl) ?_
        repeat (quiet_step ((go_at_call 98; refine Calls.gb_of (HJ1.out _))))
        refine wpQuiet_nil ?_
        intro _ hw'
        obtain ⟨gq, hw''⟩ := hw'
        subst hw''
        have R7 := HR.out.below gq.below
        have S7 := HS1.out.below gq.below
        have hB7 := HB1.out.trans (gq.below.mono HB1.out.size)
        go_wp2_with (go_at_call 53; refine (HW1.out _).mono ?_; rintro ee w8 ⟨rfl, hb8⟩; have R8 := R7.below hb8; have S8 := S7.below hb8; have hB8 := hB7.trans (hb8.mono hB7.size))
        exact bodyPost_ret (v := .tuple #[.int .u64 r1, .bool true, .int .i64 0]) (by simp [results, Tryz.results54, go_sem]) rfl ⟨rfl, hB8⟩
  have z1 : (v1 == b) = false := by simpa using q1
  clear q1
  have x1 : IntKind.i64.wrap (x - 1023) = x - 1023 := by rw [IntKind.wrap_i64]; omega
  have x2 : IntKind.i64.wrap (x - 1023 + bi) = x - 1023 + bi := by rw [IntKind.wrap_i64]; omega
  have x3 : IntKind.i64.wrap (-f) = -f := by rw [IntKind.wrap_i64]; omega
  obtain ⟨X, hX⟩ : ∃ X, x - 1023 + bi = X := ⟨_, rfl⟩
  rw [hX] at x2
  have hXr : -1023 ≤ X ∧ X ≤ 2047 := by omega
  by_cases qa : t ≤ X
  · refine ⟨0, false, 0, by unfold U64; omega, fun w => ?_⟩
    go_enter Tryz.func54, Tryz.ntmps54
    go_wp2_with (first
      | (go_at_call 92; refine (HOf.out _).mono ?_; rintro ee w1 ⟨rfl, hb1⟩; have R1 := Row3.new w1 168 (.int .i64 a) (.int .i64 e) (.int .i64 f); have hb1 := hb1.alloc hb1.size (.cells #[.int .i64 a, .int .i64 e, .int .i64 f] 168))
      | (go_at_call 97; refine (widths_any _).mono ?_; rintro ee w2 ⟨rfl, hb2⟩; have R2 := R1.below hb2; have hb2 := hb1.trans (hb2.mono hb1.size))
      | (go_at_call 93; refine (HS.out _).mono ?_; rintro ee w3 ⟨rfl, hb3⟩; have R3 := (R2.below hb3).alloc (.cells #[.bool neg, .int .i64 x, .int .u64 y] 172); have S3 := Row3.new w3 172 (.bool neg) (.int .i64 x) (.int .u64 y); have c0 := R3.c0; have c1 := R3.c1; have c2 := R3.c2; have hb4 := hb2.trans (hb3.mono hb2.size); have hq4 := hb4.size; have hb5 := hb4.alloc hb4.size (.cells #[.bool neg, .int .i64 x, .int .u64 y] 172))
      | (go_at_call 99; refine (HT.out _).mono ?_; rintro ee w6 ⟨rfl, hb6⟩; have R6 := R3.below hb6; have S6 := S3.below hb6; have hB6 := hb5.trans (hb6.mono hb5.size); have hne : w1.heap.size ≠ w3.heap.size := (by have := R1.lt; have := R2.lt; have := hb3.size; omega)))
    obtain ⟨q7, hq7⟩ : ∃ q, w1.heap.size = q := ⟨_, rfl⟩
    obtain ⟨q9, hq9⟩ : ∃ q, w3.heap.size = q := ⟨_, rfl⟩
    rw [hq7] at R6 hne
    rw [hq9] at S6 hne hq4
    rw [hq7, hq9]
    clear R1 hb1 R2 hb2 R3 S3 c0 c1 c2 hb4 hb5 hq7 hq9
    have HR6 := Lib.hid R6
    have HS6 := Lib.hid S6
    have HB6 := Lib.hid hB6
    clear R6 S6 hB6
    go_loopw [33] (fun i wr => ∃ k : Nat, k ≤ 2 ∧ i = .int .i64 k ∧ Hid (Row3 wr q7 168 (.int .i64 a) (.int .i64 e) (.int .i64 f)) ∧ Hid (Row3 wr q9 172 (.bool neg) (.int .i64 x) (.int .u64 y)) ∧ Hid (Below w.heap.size w wr)) (fun i _ => 3 - (intOf i).toNat)
    case atStart => exact ⟨0, by omega, rfl, HR6, HS6, HB6⟩
    case round =>
      clear HR6 HS6 HB6
      obtain ⟨k, hk, rfl, HR, HS1, HB1⟩ := hrel
      have c0 := HR.out.c0
      have c1 := HR.out.c1
      have c2 := HR.out.c2
      have d0 := HS1.out.c0
      have d1 := HS1.out.c1
      have d2 := HS1.out.c2
      have d3 := HS1.out.fz 0
      have d4 := HS1.out.fz 1
      have d5 := HS1.out.fz 2
      obtain rfl | rfl | rfl : k = 0 ∨ k = 1 ∨ k = 2 := by omega
      · go_wp2_with fail
        have l0 : ∀ p : Gb wr, p.wd.cell? ⟨q7, 0, none⟩ = some (.int .i64 a) := fun p => p.cell c0
        have l1 : ∀ p : Gb wr, p.wd.cell? ⟨q7, 1, none⟩ = some (.int .i64 e) := fun p => p.cell c1
        have l2 : ∀ p : Gb wr, p.wd.cell? ⟨q7, 2, none⟩ = some (.int .i64 f) := fun p => p.cell c2
        have m0 : ∀ p : Gb wr, p.wd.cell? ⟨q9, 0, none⟩ = some (.bool neg) := fun p => p.cell d0
        have m2 : ∀ p : Gb wr, p.wd.cell? ⟨q9, 2, none⟩ = some (.int .u64 y) := fun p => p.cell d2
        refine wp_region_below (by kernel_rfl) (by kernel_rfl) ?_
        repeat (quiet_step ((go_at_call 98; refine Calls.gb_of (HJ0.out _))))
        refine wpQuiet_nil ?_
        intro _ hw'
        obtain ⟨gq, hw''⟩ := hw'
        subst hw''
        have R7 := HR.out.below gq.below
        have S7 := HS1.out.below gq.below
        have hB7 := HB1.out.trans (gq.below.mono HB1.out.size)
        go_wp2_with (go_at_call 53; refine (HW0.out _).mono ?_; rintro ee w8 ⟨rfl, hb8⟩; have R8 := R7.below hb8; have S8 := S7.below hb8; have hB8 := hB7.trans (hb8.mono hB7.size))
        go_roundw
        case rel => exact ⟨1, by omega, by go_num, R8, S8, hB8⟩
        case measure => simp [intOf]
      · go_wp2_with fail
        have l0 : ∀ p : Gb wr, p.wd.cell? ⟨q7, 0, none⟩ = some (.int .i64 a) := fun p => p.cell c0
        have l1 : ∀ p : Gb wr, p.wd.cell? ⟨q7, 1, none⟩ = some (.int .i64 e) := fun p => p.cell c1
        have l2 : ∀ p : Gb wr, p.wd.cell? ⟨q7, 2, none⟩ = some (.int .i64 f) := fun p => p.cell c2
        have m0 : ∀ p : Gb wr, p.wd.cell? ⟨q9, 0, none⟩ = some (.bool neg) := fun p => p.cell d0
        have m2 : ∀ p : Gb wr, p.wd.cell? ⟨q9, 2, none⟩ = some (.int .u64 y) := fun p => p.cell d2
        refine wp_region_below (by kernel_rfl) (by kernel_rfl) ?_
        repeat (quiet_step ((go_at_call 98; refine Calls.gb_of (HJ1.out _))))
        refine wpQuiet_nil ?_
        intro _ hw'
        obtain ⟨gq, hw''⟩ := hw'
        subst hw''
        have R7 := HR.out.below gq.below
        have S7 := HS1.out.below gq.below
        have hB7 := HB1.out.trans (gq.below.mono HB1.out.size)
        go_wp2_with (go_at_call 53; refine (HW1.out _).mono ?_; rintro ee w8 ⟨rfl, hb8⟩; have R8 := R7.below hb8; have S8 := S7.below hb8; have hB8 := hB7.trans (hb8.mono hB7.size))
        go_roundw
        case rel => exact ⟨2, by omega, by go_num, R8, S8, hB8⟩
        case measure => simp [intOf]
      ·
        go_wp2_with fail
        have l0 : ∀ p : Gb wr, p.wd.cell? ⟨q7, 0, none⟩ = some (.int .i64 a) := fun p => p.cell c0
        have l1 : ∀ p : Gb wr, p.wd.cell? ⟨q7, 1, none⟩ = some (.int .i64 e) := fun p => p.cell c1
        have l2 : ∀ p : Gb wr, p.wd.cell? ⟨q7, 2, none⟩ = some (.int .i64 f) := fun p => p.cell c2
        have m1 : ∀ p : Gb wr, p.wd.cell? ⟨q9, 1, none⟩ = some (.int .i64 x) := fun p => p.cell d1
        refine wp_region_below (by kernel_rfl) (by kernel_rfl) ?_
        repeat (quiet_step ((go_at_call 95; refine Calls.gb_of (HB.out _))))
        refine wpQuiet_nil ?_
        intro _ hw'
        obtain ⟨gq, hw''⟩ := hw'
        subst hw''
        have R7 := HR.out.below gq.below
        have S7 := HS1.out.below gq.below
        have hB7 := HB1.out.trans (gq.below.mono HB1.out.size)
        have c0 := R7.c0
        have c1 := R7.c1
        have c2 := R7.c2
        go_wp2_with (go_at_call 99; refine (HT.out _).mono ?_; rintro ee w8 ⟨rfl, hb8⟩; have R8 := R7.below hb8; have S8 := S7.below hb8; have hB8 := hB7.trans (hb8.mono hB7.size); have c0 := R8.c0; have c1 := R8.c1; have c2 := R8.c2; have d0 := S8.c0; have d1 := S8.c1; have d2 := S8.c2; have d3 := S8.fz 0; have d4 := S8.fz 1; have d5 := S8.fz 2)
        exact bodyPost_ret (v := .tuple #[.int .u64 0, .bool false, .int .i64 0]) (by simp [results, Tryz.results54, go_sem]) rfl ⟨rfl, hB8⟩
  by_cases qb : X ≤ -f
  · have qa' : ¬ t ≤ X := qa
    refine ⟨0, false, 0, by unfold U64; omega, fun w => ?_⟩
    go_enter Tryz.func54, Tryz.ntmps54
    go_wp2_with (first
      | (go_at_call 92; refine (HOf.out _).mono ?_; rintro ee w1 ⟨rfl, hb1⟩; have R1 := Row3.new w1 168 (.int .i64 a) (.int .i64 e) (.int .i64 f); have hb1 := hb1.alloc hb1.size (.cells #[.int .i64 a, .int .i64 e, .int .i64 f] 168))
      | (go_at_call 97; refine (widths_any _).mono ?_; rintro ee w2 ⟨rfl, hb2⟩; have R2 := R1.below hb2; have hb2 := hb1.trans (hb2.mono hb1.size))
      | (go_at_call 93; refine (HS.out _).mono ?_; rintro ee w3 ⟨rfl, hb3⟩; have R3 := (R2.below hb3).alloc (.cells #[.bool neg, .int .i64 x, .int .u64 y] 172); have S3 := Row3.new w3 172 (.bool neg) (.int .i64 x) (.int .u64 y); have c0 := R3.c0; have c1 := R3.c1; have c2 := R3.c2; have hb4 := hb2.trans (hb3.mono hb2.size); have hq4 := hb4.size; have hb5 := hb4.alloc hb4.size (.cells #[.bool neg, .int .i64 x, .int .u64 y] 172))
      | (go_at_call 99; refine (HT.out _).mono ?_; rintro ee w6 ⟨rfl, hb6⟩; have R6 := R3.below hb6; have S6 := S3.below hb6; have hB6 := hb5.trans (hb6.mono hb5.size); have hne : w1.heap.size ≠ w3.heap.size := (by have := R1.lt; have := R2.lt; have := hb3.size; omega)))
    obtain ⟨q7, hq7⟩ : ∃ q, w1.heap.size = q := ⟨_, rfl⟩
    obtain ⟨q9, hq9⟩ : ∃ q, w3.heap.size = q := ⟨_, rfl⟩
    rw [hq7] at R6 hne
    rw [hq9] at S6 hne hq4
    rw [hq7, hq9]
    clear R1 hb1 R2 hb2 R3 S3 c0 c1 c2 hb4 hb5 hq7 hq9
    have HR6 := Lib.hid R6
    have HS6 := Lib.hid S6
    have HB6 := Lib.hid hB6
    clear R6 S6 hB6
    go_loopw [33] (fun i wr => ∃ k : Nat, k ≤ 2 ∧ i = .int .i64 k ∧ Hid (Row3 wr q7 168 (.int .i64 a) (.int .i64 e) (.int .i64 f)) ∧ Hid (Row3 wr q9 172 (.bool neg) (.int .i64 x) (.int .u64 y)) ∧ Hid (Below w.heap.size w wr)) (fun i _ => 3 - (intOf i).toNat)
    case atStart => exact ⟨0, by omega, rfl, HR6, HS6, HB6⟩
    case round =>
      clear HR6 HS6 HB6
      obtain ⟨k, hk, rfl, HR, HS1, HB1⟩ := hrel
      have c0 := HR.out.c0
      have c1 := HR.out.c1
      have c2 := HR.out.c2
      have d0 := HS1.out.c0
      have d1 := HS1.out.c1
      have d2 := HS1.out.c2
      have d3 := HS1.out.fz 0
      have d4 := HS1.out.fz 1
      have d5 := HS1.out.fz 2
      obtain rfl | rfl | rfl : k = 0 ∨ k = 1 ∨ k = 2 := by omega
      · go_wp2_with fail
        have l0 : ∀ p : Gb wr, p.wd.cell? ⟨q7, 0, none⟩ = some (.int .i64 a) := fun p => p.cell c0
        have l1 : ∀ p : Gb wr, p.wd.cell? ⟨q7, 1, none⟩ = some (.int .i64 e) := fun p => p.cell c1
        have l2 : ∀ p : Gb wr, p.wd.cell? ⟨q7, 2, none⟩ = some (.int .i64 f) := fun p => p.cell c2
        have m0 : ∀ p : Gb wr, p.wd.cell? ⟨q9, 0, none⟩ = some (.bool neg) := fun p => p.cell d0
        have m2 : ∀ p : Gb wr, p.wd.cell? ⟨q9, 2, none⟩ = some (.int .u64 y) := fun p => p.cell d2
        refine wp_region_below (by kernel_rfl) (by kernel_rfl) ?_
        repeat (quiet_step ((go_at_call 98; refine Calls.gb_of (HJ0.out _))))
        refine wpQuiet_nil ?_
        intro _ hw'
        obtain ⟨gq, hw''⟩ := hw'
        subst hw''
        have R7 := HR.out.below gq.below
        have S7 := HS1.out.below gq.below
        have hB7 := HB1.out.trans (gq.below.mono HB1.out.size)
        go_wp2_with (go_at_call 53; refine (HW0.out _).mono ?_; rintro ee w8 ⟨rfl, hb8⟩; have R8 := R7.below hb8; have S8 := S7.below hb8; have hB8 := hB7.trans (hb8.mono hB7.size))
        go_roundw
        case rel => exact ⟨1, by omega, by go_num, R8, S8, hB8⟩
        case measure => simp [intOf]
      · go_wp2_with fail
        have l0 : ∀ p : Gb wr, p.wd.cell? ⟨q7, 0, none⟩ = some (.int .i64 a) := fun p => p.cell c0
        have l1 : ∀ p : Gb wr, p.wd.cell? ⟨q7, 1, none⟩ = some (.int .i64 e) := fun p => p.cell c1
        have l2 : ∀ p : Gb wr, p.wd.cell? ⟨q7, 2, none⟩ = some (.int .i64 f) := fun p => p.cell c2
        have m0 : ∀ p : Gb wr, p.wd.cell? ⟨q9, 0, none⟩ = some (.bool neg) := fun p => p.cell d0
        have m2 : ∀ p : Gb wr, p.wd.cell? ⟨q9, 2, none⟩ = some (.int .u64 y) := fun p => p.cell d2
        refine wp_region_below (by kernel_rfl) (by kernel_rfl) ?_
        repeat (quiet_step ((go_at_call 98; refine Calls.gb_of (HJ1.out _))))
        refine wpQuiet_nil ?_
        intro _ hw'
        obtain ⟨gq, hw''⟩ := hw'
        subst hw''
        have R7 := HR.out.below gq.below
        have S7 := HS1.out.below gq.below
        have hB7 := HB1.out.trans (gq.below.mono HB1.out.size)
        go_wp2_with (go_at_call 53; refine (HW1.out _).mono ?_; rintro ee w8 ⟨rfl, hb8⟩; have R8 := R7.below hb8; have S8 := S7.below hb8; have hB8 := hB7.trans (hb8.mono hB7.size))
        go_roundw
        case rel => exact ⟨2, by omega, by go_num, R8, S8, hB8⟩
        case measure => simp [intOf]
      ·
        go_wp2_with fail
        have l0 : ∀ p : Gb wr, p.wd.cell? ⟨q7, 0, none⟩ = some (.int .i64 a) := fun p => p.cell c0
        have l1 : ∀ p : Gb wr, p.wd.cell? ⟨q7, 1, none⟩ = some (.int .i64 e) := fun p => p.cell c1
        have l2 : ∀ p : Gb wr, p.wd.cell? ⟨q7, 2, none⟩ = some (.int .i64 f) := fun p => p.cell c2
        have m1 : ∀ p : Gb wr, p.wd.cell? ⟨q9, 1, none⟩ = some (.int .i64 x) := fun p => p.cell d1
        refine wp_region_below (by kernel_rfl) (by kernel_rfl) ?_
        repeat (quiet_step ((go_at_call 95; refine Calls.gb_of (HB.out _))))
        refine wpQuiet_nil ?_
        intro _ hw'
        obtain ⟨gq, hw''⟩ := hw'
        subst hw''
        have R7 := HR.out.below gq.below
        have S7 := HS1.out.below gq.below
        have hB7 := HB1.out.trans (gq.below.mono HB1.out.size)
        have c0 := R7.c0
        have c1 := R7.c1
        have c2 := R7.c2
        go_wp2_with (go_at_call 99; refine (HT.out _).mono ?_; rintro ee w8 ⟨rfl, hb8⟩; have R8 := R7.below hb8; have S8 := S7.below hb8; have hB8 := hB7.trans (hb8.mono hB7.size); have c0 := R8.c0; have c1 := R8.c1; have c2 := R8.c2; have d0 := S8.c0; have d1 := S8.c1; have d2 := S8.c2; have d3 := S8.fz 0; have d4 := S8.fz 1; have d5 := S8.fz 2)
        exact bodyPost_ret (v := .tuple #[.int .u64 0, .bool false, .int .i64 0]) (by simp [results, Tryz.results54, go_sem]) rfl ⟨rfl, hB8⟩
  have qa' : ¬ t ≤ X := qa
  have qb' : ¬ X ≤ -f := qb
  by_cases qc : 0 < X
  · obtain ⟨r2, hr2, hJ2⟩ := join_det h neg (X) (Z)
    obtain ⟨v2, e2, hv2, hW2⟩ := widen_det h r2 hr2
    have HJ2 := Lib.hid hJ2
    have HW2 := Lib.hid hW2
    clear hJ2 hW2
    by_cases q2 : v2 = b
    · have z2 : (v2 != b) = false := by simpa using q2
      clear q2
      refine ⟨r2, true, 0, hr2, fun w => ?_⟩
      go_enter Tryz.func54, Tryz.ntmps54
      go_wp2_with (first
        | (go_at_call 92; refine (HOf.out _).mono ?_; rintro ee w1 ⟨rfl, hb1⟩; have R1 := Row3.new w1 168 (.int .i64 a) (.int .i64 e) (.int .i64 f); have hb1 := hb1.alloc hb1.size (.cells #[.int .i64 a, .int .i64 e, .int .i64 f] 168))
        | (go_at_call 97; refine (widths_any _).mono ?_; rintro ee w2 ⟨rfl, hb2⟩; have R2 := R1.below hb2; have hb2 := hb1.trans (hb2.mono hb1.size))
        | (go_at_call 93; refine (HS.out _).mono ?_; rintro ee w3 ⟨rfl, hb3⟩; have R3 := (R2.below hb3).alloc (.cells #[.bool neg, .int .i64 x, .int .u64 y] 172); have S3 := Row3.new w3 172 (.bool neg) (.int .i64 x) (.int .u64 y); have c0 := R3.c0; have c1 := R3.c1; have c2 := R3.c2; have hb4 := hb2.trans (hb3.mono hb2.size); have hq4 := hb4.size; have hb5 := hb4.alloc hb4.size (.cells #[.bool neg, .int .i64 x, .int .u64 y] 172))
        | (go_at_call 99; refine (HT.out _).mono ?_; rintro ee w6 ⟨rfl, hb6⟩; have R6 := R3.below hb6; have S6 := S3.below hb6; have hB6 := hb5.trans (hb6.mono hb5.size); have hne : w1.heap.size ≠ w3.heap.size := (by have := R1.lt; have := R2.lt; have := hb3.size; omega)))
      obtain ⟨q7, hq7⟩ : ∃ q, w1.heap.size = q := ⟨_, rfl⟩
      obtain ⟨q9, hq9⟩ : ∃ q, w3.heap.size = q := ⟨_, rfl⟩
      rw [hq7] at R6 hne
      rw [hq9] at S6 hne hq4
      rw [hq7, hq9]
      clear R1 hb1 R2 hb2 R3 S3 c0 c1 c2 hb4 hb5 hq7 hq9
      have HR6 := Lib.hid R6
      have HS6 := Lib.hid S6
      have HB6 := Lib.hid hB6
      clear R6 S6 hB6
      go_loopw [33] (fun i wr => ∃ k : Nat, k ≤ 2 ∧ i = .int .i64 k ∧ Hid (Row3 wr q7 168 (.int .i64 a) (.int .i64 e) (.int .i64 f)) ∧ Hid (Row3 wr q9 172 (.bool neg) (.int .i64 x) (.int .u64 y)) ∧ Hid (Below w.heap.size w wr)) (fun i _ => 3 - (intOf i).toNat)
      case atStart => exact ⟨0, by omega, rfl, HR6, HS6, HB6⟩
      case round =>
        clear HR6 HS6 HB6
        obtain ⟨k, hk, rfl, HR, HS1, HB1⟩ := hrel
        have c0 := HR.out.c0
        have c1 := HR.out.c1
        have c2 := HR.out.c2
        have d0 := HS1.out.c0
        have d1 := HS1.out.c1
        have d2 := HS1.out.c2
        have d3 := HS1.out.fz 0
        have d4 := HS1.out.fz 1
        have d5 := HS1.out.fz 2
        obtain rfl | rfl | rfl : k = 0 ∨ k = 1 ∨ k = 2 := by omega
        · go_wp2_with fail
          have l0 : ∀ p : Gb wr, p.wd.cell? ⟨q7, 0, none⟩ = some (.int .i64 a) := fun p => p.cell c0
          have l1 : ∀ p : Gb wr, p.wd.cell? ⟨q7, 1, none⟩ = some (.int .i64 e) := fun p => p.cell c1
          have l2 : ∀ p : Gb wr, p.wd.cell? ⟨q7, 2, none⟩ = some (.int .i64 f) := fun p => p.cell c2
          have m0 : ∀ p : Gb wr, p.wd.cell? ⟨q9, 0, none⟩ = some (.bool neg) := fun p => p.cell d0
          have m2 : ∀ p : Gb wr, p.wd.cell? ⟨q9, 2, none⟩ = some (.int .u64 y) := fun p => p.cell d2
          refine wp_region_below (by kernel_rfl) (by kernel_rfl) ?_
          repeat (quiet_step ((go_at_call 98; refine Calls.gb_of (HJ0.out _))))
          refine wpQuiet_nil ?_
          intro _ hw'
          obtain ⟨gq, hw''⟩ := hw'
          subst hw''
          have R7 := HR.out.below gq.below
          have S7 := HS1.out.below gq.below
          have hB7 := HB1.out.trans (gq.below.mono HB1.out.size)
          go_wp2_with (go_at_call 53; refine (HW0.out _).mono ?_; rintro ee w8 ⟨rfl, hb8⟩; have R8 := R7.below hb8; have S8 := S7.below hb8; have hB8 := hB7.trans (hb8.mono hB7.size))
          go_roundw
          case rel => exact ⟨1, by omega, by go_num, R8, S8, hB8⟩
          case measure => simp [intOf]
        · go_wp2_with fail
          have l0 : ∀ p : Gb wr, p.wd.cell? ⟨q7, 0, none⟩ = some (.int .i64 a) := fun p => p.cell c0
          have l1 : ∀ p : Gb wr, p.wd.cell? ⟨q7, 1, none⟩ = some (.int .i64 e) := fun p => p.cell c1
          have l2 : ∀ p : Gb wr, p.wd.cell? ⟨q7, 2, none⟩ = some (.int .i64 f) := fun p => p.cell c2
          have m0 : ∀ p : Gb wr, p.wd.cell? ⟨q9, 0, none⟩ = some (.bool neg) := fun p => p.cell d0
          have m2 : ∀ p : Gb wr, p.wd.cell? ⟨q9, 2, none⟩ = some (.int .u64 y) := fun p => p.cell d2
          refine wp_region_below (by kernel_rfl) (by kernel_rfl) ?_
          repeat (quiet_step ((go_at_call 98; refine Calls.gb_of (HJ1.out _))))
          refine wpQuiet_nil ?_
          intro _ hw'
          obtain ⟨gq, hw''⟩ := hw'
          subst hw''
          have R7 := HR.out.below gq.below
          have S7 := HS1.out.below gq.below
          have hB7 := HB1.out.trans (gq.below.mono HB1.out.size)
          go_wp2_with (go_at_call 53; refine (HW1.out _).mono ?_; rintro ee w8 ⟨rfl, hb8⟩; have R8 := R7.below hb8; have S8 := S7.below hb8; have hB8 := hB7.trans (hb8.mono hB7.size))
          go_roundw
          case rel => exact ⟨2, by omega, by go_num, R8, S8, hB8⟩
          case measure => simp [intOf]
        ·
          go_wp2_with fail
          have l0 : ∀ p : Gb wr, p.wd.cell? ⟨q7, 0, none⟩ = some (.int .i64 a) := fun p => p.cell c0
          have l1 : ∀ p : Gb wr, p.wd.cell? ⟨q7, 1, none⟩ = some (.int .i64 e) := fun p => p.cell c1
          have l2 : ∀ p : Gb wr, p.wd.cell? ⟨q7, 2, none⟩ = some (.int .i64 f) := fun p => p.cell c2
          have m1 : ∀ p : Gb wr, p.wd.cell? ⟨q9, 1, none⟩ = some (.int .i64 x) := fun p => p.cell d1
          refine wp_region_below (by kernel_rfl) (by kernel_rfl) ?_
          repeat (quiet_step ((go_at_call 95; refine Calls.gb_of (HB.out _))))
          refine wpQuiet_nil ?_
          intro _ hw'
          obtain ⟨gq, hw''⟩ := hw'
          subst hw''
          have R7 := HR.out.below gq.below
          have S7 := HS1.out.below gq.below
          have hB7 := HB1.out.trans (gq.below.mono HB1.out.size)
          have c0 := R7.c0
          have c1 := R7.c1
          have c2 := R7.c2
          go_wp2_with (go_at_call 99; refine (HT.out _).mono ?_; rintro ee w8 ⟨rfl, hb8⟩; have R8 := R7.below hb8; have S8 := S7.below hb8; have hB8 := hB7.trans (hb8.mono hB7.size); have c0 := R8.c0; have c1 := R8.c1; have c2 := R8.c2; have d0 := S8.c0; have d1 := S8.c1; have d2 := S8.c2; have d3 := S8.fz 0; have d4 := S8.fz 1; have d5 := S8.fz 2)
          go_region
          have S9 := ((S8.s0 (.bool neg)).s1 (.int .i64 (X))).s2 (.int .u64 (Z))
          have R9 : Row3 ((((w8.setCell ⟨q9, 0, none⟩ (.bool neg)).setCell ⟨q9, 1, none⟩ (.int .i64 (X))).setCell ⟨q9, 2, none⟩ (.int .u64 (Z)))) q7 168 (.int .i64 a) (.int .i64 e) (.int .i64 f) := by
            unfold Row3
            rw [Below.heap_setCell _ ⟨q9, 2, none⟩ _ q7 hne, Below.heap_setCell _ ⟨q9, 1, none⟩ _ q7 hne, Below.heap_setCell _ ⟨q9, 0, none⟩ _ q7 hne]
            exact R8
          have hB9 := ((hB8.setCell (p := ⟨q9, 0, none⟩) hq4 (.bool neg)).setCell (p := ⟨q9, 1, none⟩) hq4 (.int .i64 (X))).setCell (p := ⟨q9, 2, none⟩) hq4 (.int .u64 (Z))
          generalize ((w8.setCell ⟨q9, 0, none⟩ (.bool neg)).setCell ⟨q9, 1, none⟩ (.int .i64 (X))).setCell ⟨q9, 2, none⟩ (.int .u64 (Z)) = W9 at S9 R9 hB9 ⊢
          have c0 := R9.c0
          have c1 := R9.c1
          have c2 := R9.c2
          have g0 := S9.c0
          have g1 := S9.c1
          have g2 := S9.c2
          have hB9 := hB9.drew
          go_wp2_with (first
            | (go_at_call 98; refine (HJ2.out _).mono ?_; rintro ee w10 ⟨rfl, hb10⟩; have hB10 := hB9.trans (hb10.mono hB9.size))
            | (go_at_call 53; refine (HW2.out _).mono ?_; rintro ee w11 ⟨rfl, hb11⟩; have hB11 := hB10.trans (hb11.mono hB10.size)))
          exact bodyPost_ret (v := .tuple #[.int .u64 r2, .bool true, .int .i64 0]) (by simp [results, Tryz.results54, go_sem]) rfl ⟨rfl, hB11⟩
    have z2 : (v2 != b) = true := by simpa using q2
    clear q2
    refine ⟨0, false, 0, by unfold U64; omega, fun w => ?_⟩
    go_enter Tryz.func54, Tryz.ntmps54
    go_wp2_with (first
      | (go_at_call 92; refine (HOf.out _).mono ?_; rintro ee w1 ⟨rfl, hb1⟩; have R1 := Row3.new w1 168 (.int .i64 a) (.int .i64 e) (.int .i64 f); have hb1 := hb1.alloc hb1.size (.cells #[.int .i64 a, .int .i64 e, .int .i64 f] 168))
      | (go_at_call 97; refine (widths_any _).mono ?_; rintro ee w2 ⟨rfl, hb2⟩; have R2 := R1.below hb2; have hb2 := hb1.trans (hb2.mono hb1.size))
      | (go_at_call 93; refine (HS.out _).mono ?_; rintro ee w3 ⟨rfl, hb3⟩; have R3 := (R2.below hb3).alloc (.cells #[.bool neg, .int .i64 x, .int .u64 y] 172); have S3 := Row3.new w3 172 (.bool neg) (.int .i64 x) (.int .u64 y); have c0 := R3.c0; have c1 := R3.c1; have c2 := R3.c2; have hb4 := hb2.trans (hb3.mono hb2.size); have hq4 := hb4.size; have hb5 := hb4.alloc hb4.size (.cells #[.bool neg, .int .i64 x, .int .u64 y] 172))
      | (go_at_call 99; refine (HT.out _).mono ?_; rintro ee w6 ⟨rfl, hb6⟩; have R6 := R3.below hb6; have S6 := S3.below hb6; have hB6 := hb5.trans (hb6.mono hb5.size); have hne : w1.heap.size ≠ w3.heap.size := (by have := R1.lt; have := R2.lt; have := hb3.size; omega)))
    obtain ⟨q7, hq7⟩ : ∃ q, w1.heap.size = q := ⟨_, rfl⟩
    obtain ⟨q9, hq9⟩ : ∃ q, w3.heap.size = q := ⟨_, rfl⟩
    rw [hq7] at R6 hne
    rw [hq9] at S6 hne hq4
    rw [hq7, hq9]
    clear R1 hb1 R2 hb2 R3 S3 c0 c1 c2 hb4 hb5 hq7 hq9
    have HR6 := Lib.hid R6
    have HS6 := Lib.hid S6
    have HB6 := Lib.hid hB6
    clear R6 S6 hB6
    go_loopw [33] (fun i wr => ∃ k : Nat, k ≤ 2 ∧ i = .int .i64 k ∧ Hid (Row3 wr q7 168 (.int .i64 a) (.int .i64 e) (.int .i64 f)) ∧ Hid (Row3 wr q9 172 (.bool neg) (.int .i64 x) (.int .u64 y)) ∧ Hid (Below w.heap.size w wr)) (fun i _ => 3 - (intOf i).toNat)
    case atStart => exact ⟨0, by omega, rfl, HR6, HS6, HB6⟩
    case round =>
      clear HR6 HS6 HB6
      obtain ⟨k, hk, rfl, HR, HS1, HB1⟩ := hrel
      have c0 := HR.out.c0
      have c1 := HR.out.c1
      have c2 := HR.out.c2
      have d0 := HS1.out.c0
      have d1 := HS1.out.c1
      have d2 := HS1.out.c2
      have d3 := HS1.out.fz 0
      have d4 := HS1.out.fz 1
      have d5 := HS1.out.fz 2
      obtain rfl | rfl | rfl : k = 0 ∨ k = 1 ∨ k = 2 := by omega
      · go_wp2_with fail
        have l0 : ∀ p : Gb wr, p.wd.cell? ⟨q7, 0, none⟩ = some (.int .i64 a) := fun p => p.cell c0
        have l1 : ∀ p : Gb wr, p.wd.cell? ⟨q7, 1, none⟩ = some (.int .i64 e) := fun p => p.cell c1
        have l2 : ∀ p : Gb wr, p.wd.cell? ⟨q7, 2, none⟩ = some (.int .i64 f) := fun p => p.cell c2
        have m0 : ∀ p : Gb wr, p.wd.cell? ⟨q9, 0, none⟩ = some (.bool neg) := fun p => p.cell d0
        have m2 : ∀ p : Gb wr, p.wd.cell? ⟨q9, 2, none⟩ = some (.int .u64 y) := fun p => p.cell d2
        refine wp_region_below (by kernel_rfl) (by kernel_rfl) ?_
        repeat (quiet_step ((go_at_call 98; refine Calls.gb_of (HJ0.out _))))
        refine wpQuiet_nil ?_
        intro _ hw'
        obtain ⟨gq, hw''⟩ := hw'
        subst hw''
        have R7 := HR.out.below gq.below
        have S7 := HS1.out.below gq.below
        have hB7 := HB1.out.trans (gq.below.mono HB1.out.size)
        go_wp2_with (go_at_call 53; refine (HW0.out _).mono ?_; rintro ee w8 ⟨rfl, hb8⟩; have R8 := R7.below hb8; have S8 := S7.below hb8; have hB8 := hB7.trans (hb8.mono hB7.size))
        go_roundw
        case rel => exact ⟨1, by omega, by go_num, R8, S8, hB8⟩
        case measure => simp [intOf]
      · go_wp2_with fail
        have l0 : ∀ p : Gb wr, p.wd.cell? ⟨q7, 0, none⟩ = some (.int .i64 a) := fun p => p.cell c0
        have l1 : ∀ p : Gb wr, p.wd.cell? ⟨q7, 1, none⟩ = some (.int .i64 e) := fun p => p.cell c1
        have l2 : ∀ p : Gb wr, p.wd.cell? ⟨q7, 2, none⟩ = some (.int .i64 f) := fun p => p.cell c2
        have m0 : ∀ p : Gb wr, p.wd.cell? ⟨q9, 0, none⟩ = some (.bool neg) := fun p => p.cell d0
        have m2 : ∀ p : Gb wr, p.wd.cell? ⟨q9, 2, none⟩ = some (.int .u64 y) := fun p => p.cell d2
        refine wp_region_below (by kernel_rfl) (by kernel_rfl) ?_
        repeat (quiet_step ((go_at_call 98; refine Calls.gb_of (HJ1.out _))))
        refine wpQuiet_nil ?_
        intro _ hw'
        obtain ⟨gq, hw''⟩ := hw'
        subst hw''
        have R7 := HR.out.below gq.below
        have S7 := HS1.out.below gq.below
        have hB7 := HB1.out.trans (gq.below.mono HB1.out.size)
        go_wp2_with (go_at_call 53; refine (HW1.out _).mono ?_; rintro ee w8 ⟨rfl, hb8⟩; have R8 := R7.below hb8; have S8 := S7.below hb8; have hB8 := hB7.trans (hb8.mono hB7.size))
        go_roundw
        case rel => exact ⟨2, by omega, by go_num, R8, S8, hB8⟩
        case measure => simp [intOf]
      ·
        go_wp2_with fail
        have l0 : ∀ p : Gb wr, p.wd.cell? ⟨q7, 0, none⟩ = some (.int .i64 a) := fun p => p.cell c0
        have l1 : ∀ p : Gb wr, p.wd.cell? ⟨q7, 1, none⟩ = some (.int .i64 e) := fun p => p.cell c1
        have l2 : ∀ p : Gb wr, p.wd.cell? ⟨q7, 2, none⟩ = some (.int .i64 f) := fun p => p.cell c2
        have m1 : ∀ p : Gb wr, p.wd.cell? ⟨q9, 1, none⟩ = some (.int .i64 x) := fun p => p.cell d1
        refine wp_region_below (by kernel_rfl) (by kernel_rfl) ?_
        repeat (quiet_step ((go_at_call 95; refine Calls.gb_of (HB.out _))))
        refine wpQuiet_nil ?_
        intro _ hw'
        obtain ⟨gq, hw''⟩ := hw'
        subst hw''
        have R7 := HR.out.below gq.below
        have S7 := HS1.out.below gq.below
        have hB7 := HB1.out.trans (gq.below.mono HB1.out.size)
        have c0 := R7.c0
        have c1 := R7.c1
        have c2 := R7.c2
        go_wp2_with (go_at_call 99; refine (HT.out _).mono ?_; rintro ee w8 ⟨rfl, hb8⟩; have R8 := R7.below hb8; have S8 := S7.below hb8; have hB8 := hB7.trans (hb8.mono hB7.size); have c0 := R8.c0; have c1 := R8.c1; have c2 := R8.c2; have d0 := S8.c0; have d1 := S8.c1; have d2 := S8.c2; have d3 := S8.fz 0; have d4 := S8.fz 1; have d5 := S8.fz 2)
        go_region
        have S9 := ((S8.s0 (.bool neg)).s1 (.int .i64 (X))).s2 (.int .u64 (Z))
        have R9 : Row3 ((((w8.setCell ⟨q9, 0, none⟩ (.bool neg)).setCell ⟨q9, 1, none⟩ (.int .i64 (X))).setCell ⟨q9, 2, none⟩ (.int .u64 (Z)))) q7 168 (.int .i64 a) (.int .i64 e) (.int .i64 f) := by
          unfold Row3
          rw [Below.heap_setCell _ ⟨q9, 2, none⟩ _ q7 hne, Below.heap_setCell _ ⟨q9, 1, none⟩ _ q7 hne, Below.heap_setCell _ ⟨q9, 0, none⟩ _ q7 hne]
          exact R8
        have hB9 := ((hB8.setCell (p := ⟨q9, 0, none⟩) hq4 (.bool neg)).setCell (p := ⟨q9, 1, none⟩) hq4 (.int .i64 (X))).setCell (p := ⟨q9, 2, none⟩) hq4 (.int .u64 (Z))
        generalize ((w8.setCell ⟨q9, 0, none⟩ (.bool neg)).setCell ⟨q9, 1, none⟩ (.int .i64 (X))).setCell ⟨q9, 2, none⟩ (.int .u64 (Z)) = W9 at S9 R9 hB9 ⊢
        have c0 := R9.c0
        have c1 := R9.c1
        have c2 := R9.c2
        have g0 := S9.c0
        have g1 := S9.c1
        have g2 := S9.c2
        have hB9 := hB9.drew
        go_wp2_with (first
          | (go_at_call 98; refine (HJ2.out _).mono ?_; rintro ee w10 ⟨rfl, hb10⟩; have hB10 := hB9.trans (hb10.mono hB9.size))
          | (go_at_call 53; refine (HW2.out _).mono ?_; rintro ee w11 ⟨rfl, hb11⟩; have hB11 := hB10.trans (hb11.mono hB10.size)))
        exact bodyPost_ret (v := .tuple #[.int .u64 0, .bool false, .int .i64 0]) (by simp [results, Tryz.results54, go_sem]) rfl ⟨rfl, hB11⟩
  have qc' : ¬ 0 < X := qc
  have n1 : IntKind.i64.wrap (52 - f + 1) = 52 - f + 1 := by rw [IntKind.wrap_i64]; omega
  have n2 : IntKind.i64.wrap (52 - f + 1 - X) = 52 - f + 1 - X := by rw [IntKind.wrap_i64]; omega
  have n3 : (0 : Int) ≤ 52 - f + 1 - X := by omega
  have n4 : ¬ (52 - f + 1 - X < 0) := by omega
  obtain ⟨Y, hY⟩ : ∃ Y, Go.bits .or .u64 y 4503599627370496 = Y := ⟨_, rfl⟩
  obtain ⟨Z2, hZ2⟩ : ∃ Z2, Y / 2 ^ (52 - f + 1 - X).toNat = Z2 := ⟨_, rfl⟩
  have hdone : True := trivial
  obtain ⟨r2, hr2, hJ2⟩ := join_det h neg (0) (Z2)
  obtain ⟨v2, e2, hv2, hW2⟩ := widen_det h r2 hr2
  have HJ2 := Lib.hid hJ2
  have HW2 := Lib.hid hW2
  clear hJ2 hW2
  by_cases q2 : v2 = b
  · have z2 : (v2 != b) = false := by simpa using q2
    clear q2
    refine ⟨r2, true, 0, hr2, fun w => ?_⟩
    go_enter Tryz.func54, Tryz.ntmps54
    go_wp2_with (first
      | (go_at_call 92; refine (HOf.out _).mono ?_; rintro ee w1 ⟨rfl, hb1⟩; have R1 := Row3.new w1 168 (.int .i64 a) (.int .i64 e) (.int .i64 f); have hb1 := hb1.alloc hb1.size (.cells #[.int .i64 a, .int .i64 e, .int .i64 f] 168))
      | (go_at_call 97; refine (widths_any _).mono ?_; rintro ee w2 ⟨rfl, hb2⟩; have R2 := R1.below hb2; have hb2 := hb1.trans (hb2.mono hb1.size))
      | (go_at_call 93; refine (HS.out _).mono ?_; rintro ee w3 ⟨rfl, hb3⟩; have R3 := (R2.below hb3).alloc (.cells #[.bool neg, .int .i64 x, .int .u64 y] 172); have S3 := Row3.new w3 172 (.bool neg) (.int .i64 x) (.int .u64 y); have c0 := R3.c0; have c1 := R3.c1; have c2 := R3.c2; have hb4 := hb2.trans (hb3.mono hb2.size); have hq4 := hb4.size; have hb5 := hb4.alloc hb4.size (.cells #[.bool neg, .int .i64 x, .int .u64 y] 172))
      | (go_at_call 99; refine (HT.out _).mono ?_; rintro ee w6 ⟨rfl, hb6⟩; have R6 := R3.below hb6; have S6 := S3.below hb6; have hB6 := hb5.trans (hb6.mono hb5.size); have hne : w1.heap.size ≠ w3.heap.size := (by have := R1.lt; have := R2.lt; have := hb3.size; omega)))
    obtain ⟨q7, hq7⟩ : ∃ q, w1.heap.size = q := ⟨_, rfl⟩
    obtain ⟨q9, hq9⟩ : ∃ q, w3.heap.size = q := ⟨_, rfl⟩
    rw [hq7] at R6 hne
    rw [hq9] at S6 hne hq4
    rw [hq7, hq9]
    clear R1 hb1 R2 hb2 R3 S3 c0 c1 c2 hb4 hb5 hq7 hq9
    have HR6 := Lib.hid R6
    have HS6 := Lib.hid S6
    have HB6 := Lib.hid hB6
    clear R6 S6 hB6
    go_loopw [33] (fun i wr => ∃ k : Nat, k ≤ 2 ∧ i = .int .i64 k ∧ Hid (Row3 wr q7 168 (.int .i64 a) (.int .i64 e) (.int .i64 f)) ∧ Hid (Row3 wr q9 172 (.bool neg) (.int .i64 x) (.int .u64 y)) ∧ Hid (Below w.heap.size w wr)) (fun i _ => 3 - (intOf i).toNat)
    case atStart => exact ⟨0, by omega, rfl, HR6, HS6, HB6⟩
    case round =>
      clear HR6 HS6 HB6
      obtain ⟨k, hk, rfl, HR, HS1, HB1⟩ := hrel
      have c0 := HR.out.c0
      have c1 := HR.out.c1
      have c2 := HR.out.c2
      have d0 := HS1.out.c0
      have d1 := HS1.out.c1
      have d2 := HS1.out.c2
      have d3 := HS1.out.fz 0
      have d4 := HS1.out.fz 1
      have d5 := HS1.out.fz 2
      obtain rfl | rfl | rfl : k = 0 ∨ k = 1 ∨ k = 2 := by omega
      · go_wp2_with fail
        have l0 : ∀ p : Gb wr, p.wd.cell? ⟨q7, 0, none⟩ = some (.int .i64 a) := fun p => p.cell c0
        have l1 : ∀ p : Gb wr, p.wd.cell? ⟨q7, 1, none⟩ = some (.int .i64 e) := fun p => p.cell c1
        have l2 : ∀ p : Gb wr, p.wd.cell? ⟨q7, 2, none⟩ = some (.int .i64 f) := fun p => p.cell c2
        have m0 : ∀ p : Gb wr, p.wd.cell? ⟨q9, 0, none⟩ = some (.bool neg) := fun p => p.cell d0
        have m2 : ∀ p : Gb wr, p.wd.cell? ⟨q9, 2, none⟩ = some (.int .u64 y) := fun p => p.cell d2
        refine wp_region_below (by kernel_rfl) (by kernel_rfl) ?_
        repeat (quiet_step ((go_at_call 98; refine Calls.gb_of (HJ0.out _))))
        refine wpQuiet_nil ?_
        intro _ hw'
        obtain ⟨gq, hw''⟩ := hw'
        subst hw''
        have R7 := HR.out.below gq.below
        have S7 := HS1.out.below gq.below
        have hB7 := HB1.out.trans (gq.below.mono HB1.out.size)
        go_wp2_with (go_at_call 53; refine (HW0.out _).mono ?_; rintro ee w8 ⟨rfl, hb8⟩; have R8 := R7.below hb8; have S8 := S7.below hb8; have hB8 := hB7.trans (hb8.mono hB7.size))
        go_roundw
        case rel => exact ⟨1, by omega, by go_num, R8, S8, hB8⟩
        case measure => simp [intOf]
      · go_wp2_with fail
        have l0 : ∀ p : Gb wr, p.wd.cell? ⟨q7, 0, none⟩ = some (.int .i64 a) := fun p => p.cell c0
        have l1 : ∀ p : Gb wr, p.wd.cell? ⟨q7, 1, none⟩ = some (.int .i64 e) := fun p => p.cell c1
        have l2 : ∀ p : Gb wr, p.wd.cell? ⟨q7, 2, none⟩ = some (.int .i64 f) := fun p => p.cell c2
        have m0 : ∀ p : Gb wr, p.wd.cell? ⟨q9, 0, none⟩ = some (.bool neg) := fun p => p.cell d0
        have m2 : ∀ p : Gb wr, p.wd.cell? ⟨q9, 2, none⟩ = some (.int .u64 y) := fun p => p.cell d2
        refine wp_region_below (by kernel_rfl) (by kernel_rfl) ?_
        repeat (quiet_step ((go_at_call 98; refine Calls.gb_of (HJ1.out _))))
        refine wpQuiet_nil ?_
        intro _ hw'
        obtain ⟨gq, hw''⟩ := hw'
        subst hw''
        have R7 := HR.out.below gq.below
        have S7 := HS1.out.below gq.below
        have hB7 := HB1.out.trans (gq.below.mono HB1.out.size)
        go_wp2_with (go_at_call 53; refine (HW1.out _).mono ?_; rintro ee w8 ⟨rfl, hb8⟩; have R8 := R7.below hb8; have S8 := S7.below hb8; have hB8 := hB7.trans (hb8.mono hB7.size))
        go_roundw
        case rel => exact ⟨2, by omega, by go_num, R8, S8, hB8⟩
        case measure => simp [intOf]
      ·
        go_wp2_with fail
        have l0 : ∀ p : Gb wr, p.wd.cell? ⟨q7, 0, none⟩ = some (.int .i64 a) := fun p => p.cell c0
        have l1 : ∀ p : Gb wr, p.wd.cell? ⟨q7, 1, none⟩ = some (.int .i64 e) := fun p => p.cell c1
        have l2 : ∀ p : Gb wr, p.wd.cell? ⟨q7, 2, none⟩ = some (.int .i64 f) := fun p => p.cell c2
        have m1 : ∀ p : Gb wr, p.wd.cell? ⟨q9, 1, none⟩ = some (.int .i64 x) := fun p => p.cell d1
        refine wp_region_below (by kernel_rfl) (by kernel_rfl) ?_
        repeat (quiet_step ((go_at_call 95; refine Calls.gb_of (HB.out _))))
        refine wpQuiet_nil ?_
        intro _ hw'
        obtain ⟨gq, hw''⟩ := hw'
        subst hw''
        have R7 := HR.out.below gq.below
        have S7 := HS1.out.below gq.below
        have hB7 := HB1.out.trans (gq.below.mono HB1.out.size)
        have c0 := R7.c0
        have c1 := R7.c1
        have c2 := R7.c2
        go_wp2_with (go_at_call 99; refine (HT.out _).mono ?_; rintro ee w8 ⟨rfl, hb8⟩; have R8 := R7.below hb8; have S8 := S7.below hb8; have hB8 := hB7.trans (hb8.mono hB7.size); have c0 := R8.c0; have c1 := R8.c1; have c2 := R8.c2; have d0 := S8.c0; have d1 := S8.c1; have d2 := S8.c2; have d3 := S8.fz 0; have d4 := S8.fz 1; have d5 := S8.fz 2)
        go_region
        have S9 := ((S8.s0 (.bool neg)).s1 (.int .i64 (0))).s2 (.int .u64 (Z2))
        have R9 : Row3 ((((w8.setCell ⟨q9, 0, none⟩ (.bool neg)).setCell ⟨q9, 1, none⟩ (.int .i64 (0))).setCell ⟨q9, 2, none⟩ (.int .u64 (Z2)))) q7 168 (.int .i64 a) (.int .i64 e) (.int .i64 f) := by
          unfold Row3
          rw [Below.heap_setCell _ ⟨q9, 2, none⟩ _ q7 hne, Below.heap_setCell _ ⟨q9, 1, none⟩ _ q7 hne, Below.heap_setCell _ ⟨q9, 0, none⟩ _ q7 hne]
          exact R8
        have hB9 := ((hB8.setCell (p := ⟨q9, 0, none⟩) hq4 (.bool neg)).setCell (p := ⟨q9, 1, none⟩) hq4 (.int .i64 (0))).setCell (p := ⟨q9, 2, none⟩) hq4 (.int .u64 (Z2))
        generalize ((w8.setCell ⟨q9, 0, none⟩ (.bool neg)).setCell ⟨q9, 1, none⟩ (.int .i64 (0))).setCell ⟨q9, 2, none⟩ (.int .u64 (Z2)) = W9 at S9 R9 hB9 ⊢
        have c0 := R9.c0
        have c1 := R9.c1
        have c2 := R9.c2
        have g0 := S9.c0
        have g1 := S9.c1
        have g2 := S9.c2
        have hB9 := hB9.drew
        go_wp2_with (first
          | (go_at_call 98; refine (HJ2.out _).mono ?_; rintro ee w10 ⟨rfl, hb10⟩; have hB10 := hB9.trans (hb10.mono hB9.size))
          | (go_at_call 53; refine (HW2.out _).mono ?_; rintro ee w11 ⟨rfl, hb11⟩; have hB11 := hB10.trans (hb11.mono hB10.size)))
        exact bodyPost_ret (v := .tuple #[.int .u64 r2, .bool true, .int .i64 0]) (by simp [results, Tryz.results54, go_sem]) rfl ⟨rfl, hB11⟩
  have z2 : (v2 != b) = true := by simpa using q2
  clear q2
  refine ⟨0, false, 0, by unfold U64; omega, fun w => ?_⟩
  go_enter Tryz.func54, Tryz.ntmps54
  go_wp2_with (first
    | (go_at_call 92; refine (HOf.out _).mono ?_; rintro ee w1 ⟨rfl, hb1⟩; have R1 := Row3.new w1 168 (.int .i64 a) (.int .i64 e) (.int .i64 f); have hb1 := hb1.alloc hb1.size (.cells #[.int .i64 a, .int .i64 e, .int .i64 f] 168))
    | (go_at_call 97; refine (widths_any _).mono ?_; rintro ee w2 ⟨rfl, hb2⟩; have R2 := R1.below hb2; have hb2 := hb1.trans (hb2.mono hb1.size))
    | (go_at_call 93; refine (HS.out _).mono ?_; rintro ee w3 ⟨rfl, hb3⟩; have R3 := (R2.below hb3).alloc (.cells #[.bool neg, .int .i64 x, .int .u64 y] 172); have S3 := Row3.new w3 172 (.bool neg) (.int .i64 x) (.int .u64 y); have c0 := R3.c0; have c1 := R3.c1; have c2 := R3.c2; have hb4 := hb2.trans (hb3.mono hb2.size); have hq4 := hb4.size; have hb5 := hb4.alloc hb4.size (.cells #[.bool neg, .int .i64 x, .int .u64 y] 172))
    | (go_at_call 99; refine (HT.out _).mono ?_; rintro ee w6 ⟨rfl, hb6⟩; have R6 := R3.below hb6; have S6 := S3.below hb6; have hB6 := hb5.trans (hb6.mono hb5.size); have hne : w1.heap.size ≠ w3.heap.size := (by have := R1.lt; have := R2.lt; have := hb3.size; omega)))
  obtain ⟨q7, hq7⟩ : ∃ q, w1.heap.size = q := ⟨_, rfl⟩
  obtain ⟨q9, hq9⟩ : ∃ q, w3.heap.size = q := ⟨_, rfl⟩
  rw [hq7] at R6 hne
  rw [hq9] at S6 hne hq4
  rw [hq7, hq9]
  clear R1 hb1 R2 hb2 R3 S3 c0 c1 c2 hb4 hb5 hq7 hq9
  have HR6 := Lib.hid R6
  have HS6 := Lib.hid S6
  have HB6 := Lib.hid hB6
  clear R6 S6 hB6
  go_loopw [33] (fun i wr => ∃ k : Nat, k ≤ 2 ∧ i = .int .i64 k ∧ Hid (Row3 wr q7 168 (.int .i64 a) (.int .i64 e) (.int .i64 f)) ∧ Hid (Row3 wr q9 172 (.bool neg) (.int .i64 x) (.int .u64 y)) ∧ Hid (Below w.heap.size w wr)) (fun i _ => 3 - (intOf i).toNat)
  case atStart => exact ⟨0, by omega, rfl, HR6, HS6, HB6⟩
  case round =>
    clear HR6 HS6 HB6
    obtain ⟨k, hk, rfl, HR, HS1, HB1⟩ := hrel
    have c0 := HR.out.c0
    have c1 := HR.out.c1
    have c2 := HR.out.c2
    have d0 := HS1.out.c0
    have d1 := HS1.out.c1
    have d2 := HS1.out.c2
    have d3 := HS1.out.fz 0
    have d4 := HS1.out.fz 1
    have d5 := HS1.out.fz 2
    obtain rfl | rfl | rfl : k = 0 ∨ k = 1 ∨ k = 2 := by omega
    · go_wp2_with fail
      have l0 : ∀ p : Gb wr, p.wd.cell? ⟨q7, 0, none⟩ = some (.int .i64 a) := fun p => p.cell c0
      have l1 : ∀ p : Gb wr, p.wd.cell? ⟨q7, 1, none⟩ = some (.int .i64 e) := fun p => p.cell c1
      have l2 : ∀ p : Gb wr, p.wd.cell? ⟨q7, 2, none⟩ = some (.int .i64 f) := fun p => p.cell c2
      have m0 : ∀ p : Gb wr, p.wd.cell? ⟨q9, 0, none⟩ = some (.bool neg) := fun p => p.cell d0
      have m2 : ∀ p : Gb wr, p.wd.cell? ⟨q9, 2, none⟩ = some (.int .u64 y) := fun p => p.cell d2
      refine wp_region_below (by kernel_rfl) (by kernel_rfl) ?_
      repeat (quiet_step ((go_at_call 98; refine Calls.gb_of (HJ0.out _))))
      refine wpQuiet_nil ?_
      intro _ hw'
      obtain ⟨gq, hw''⟩ := hw'
      subst hw''
      have R7 := HR.out.below gq.below
      have S7 := HS1.out.below gq.below
      have hB7 := HB1.out.trans (gq.below.mono HB1.out.size)
      go_wp2_with (go_at_call 53; refine (HW0.out _).mono ?_; rintro ee w8 ⟨rfl, hb8⟩; have R8 := R7.below hb8; have S8 := S7.below hb8; have hB8 := hB7.trans (hb8.mono hB7.size))
      go_roundw
      case rel => exact ⟨1, by omega, by go_num, R8, S8, hB8⟩
      case measure => simp [intOf]
    · go_wp2_with fail
      have l0 : ∀ p : Gb wr, p.wd.cell? ⟨q7, 0, none⟩ = some (.int .i64 a) := fun p => p.cell c0
      have l1 : ∀ p : Gb wr, p.wd.cell? ⟨q7, 1, none⟩ = some (.int .i64 e) := fun p => p.cell c1
      have l2 : ∀ p : Gb wr, p.wd.cell? ⟨q7, 2, none⟩ = some (.int .i64 f) := fun p => p.cell c2
      have m0 : ∀ p : Gb wr, p.wd.cell? ⟨q9, 0, none⟩ = some (.bool neg) := fun p => p.cell d0
      have m2 : ∀ p : Gb wr, p.wd.cell? ⟨q9, 2, none⟩ = some (.int .u64 y) := fun p => p.cell d2
      refine wp_region_below (by kernel_rfl) (by kernel_rfl) ?_
      repeat (quiet_step ((go_at_call 98; refine Calls.gb_of (HJ1.out _))))
      refine wpQuiet_nil ?_
      intro _ hw'
      obtain ⟨gq, hw''⟩ := hw'
      subst hw''
      have R7 := HR.out.below gq.below
      have S7 := HS1.out.below gq.below
      have hB7 := HB1.out.trans (gq.below.mono HB1.out.size)
      go_wp2_with (go_at_call 53; refine (HW1.out _).mono ?_; rintro ee w8 ⟨rfl, hb8⟩; have R8 := R7.below hb8; have S8 := S7.below hb8; have hB8 := hB7.trans (hb8.mono hB7.size))
      go_roundw
      case rel => exact ⟨2, by omega, by go_num, R8, S8, hB8⟩
      case measure => simp [intOf]
    ·
      go_wp2_with fail
      have l0 : ∀ p : Gb wr, p.wd.cell? ⟨q7, 0, none⟩ = some (.int .i64 a) := fun p => p.cell c0
      have l1 : ∀ p : Gb wr, p.wd.cell? ⟨q7, 1, none⟩ = some (.int .i64 e) := fun p => p.cell c1
      have l2 : ∀ p : Gb wr, p.wd.cell? ⟨q7, 2, none⟩ = some (.int .i64 f) := fun p => p.cell c2
      have m1 : ∀ p : Gb wr, p.wd.cell? ⟨q9, 1, none⟩ = some (.int .i64 x) := fun p => p.cell d1
      refine wp_region_below (by kernel_rfl) (by kernel_rfl) ?_
      repeat (quiet_step ((go_at_call 95; refine Calls.gb_of (HB.out _))))
      refine wpQuiet_nil ?_
      intro _ hw'
      obtain ⟨gq, hw''⟩ := hw'
      subst hw''
      have R7 := HR.out.below gq.below
      have S7 := HS1.out.below gq.below
      have hB7 := HB1.out.trans (gq.below.mono HB1.out.size)
      have c0 := R7.c0
      have c1 := R7.c1
      have c2 := R7.c2
      go_wp2_with (go_at_call 99; refine (HT.out _).mono ?_; rintro ee w8 ⟨rfl, hb8⟩; have R8 := R7.below hb8; have S8 := S7.below hb8; have hB8 := hB7.trans (hb8.mono hB7.size); have c0 := R8.c0; have c1 := R8.c1; have c2 := R8.c2; have d0 := S8.c0; have d1 := S8.c1; have d2 := S8.c2; have d3 := S8.fz 0; have d4 := S8.fz 1; have d5 := S8.fz 2)
      go_region
      have S9 := ((S8.s0 (.bool neg)).s1 (.int .i64 (0))).s2 (.int .u64 (Z2))
      have R9 : Row3 ((((w8.setCell ⟨q9, 0, none⟩ (.bool neg)).setCell ⟨q9, 1, none⟩ (.int .i64 (0))).setCell ⟨q9, 2, none⟩ (.int .u64 (Z2)))) q7 168 (.int .i64 a) (.int .i64 e) (.int .i64 f) := by
        unfold Row3
        rw [Below.heap_setCell _ ⟨q9, 2, none⟩ _ q7 hne, Below.heap_setCell _ ⟨q9, 1, none⟩ _ q7 hne, Below.heap_setCell _ ⟨q9, 0, none⟩ _ q7 hne]
        exact R8
      have hB9 := ((hB8.setCell (p := ⟨q9, 0, none⟩) hq4 (.bool neg)).setCell (p := ⟨q9, 1, none⟩) hq4 (.int .i64 (0))).setCell (p := ⟨q9, 2, none⟩) hq4 (.int .u64 (Z2))
      generalize ((w8.setCell ⟨q9, 0, none⟩ (.bool neg)).setCell ⟨q9, 1, none⟩ (.int .i64 (0))).setCell ⟨q9, 2, none⟩ (.int .u64 (Z2)) = W9 at S9 R9 hB9 ⊢
      have c0 := R9.c0
      have c1 := R9.c1
      have c2 := R9.c2
      have g0 := S9.c0
      have g1 := S9.c1
      have g2 := S9.c2
      have hB9 := hB9.drew
      go_wp2_with (first
        | (go_at_call 98; refine (HJ2.out _).mono ?_; rintro ee w10 ⟨rfl, hb10⟩; have hB10 := hB9.trans (hb10.mono hB9.size))
        | (go_at_call 53; refine (HW2.out _).mono ?_; rintro ee w11 ⟨rfl, hb11⟩; have hB11 := hB10.trans (hb11.mono hB10.size)))
      exact bodyPost_ret (v := .tuple #[.int .u64 0, .bool false, .int .i64 0]) (by simp [results, Tryz.results54, go_sem]) rfl ⟨rfl, hB11⟩
end Go.Proofs.YtfmceonbejlhlaaGreatDoor

/-
  nat's FromBytes: the limbs.
-/
namespace Go.Proofs.YtfmceonbejlhlaaGreatDoor
open Go.RowKit Go.Proofs.YtfmceonbejlhlaaGreatDoorW.PrintWords Go.Proofs.YtfmceonbejlhlaaGreatDoorW.PrintLast Go.Proofs.YtfmceonbejlhlaaGreatDoorW.PrintMore
set_option linter.unusedVariables false

/-- Bytes that lie at a place. -/
def BAt (W : World) (g o : Nat) (bs : List Int) : Prop := ∀ j b, bs[j]? = some b → W.cell? ⟨g, o + j, none⟩ = some (.int .u8 b)
/-- A byte comes to its limb. -/
def limbSet (bs : List Int) (n i : Nat) (L : List Int) : List Int := L.set (i / 4) (Go.bits .or .u32 (L.getD (i / 4) 0) (IntKind.u32.wrap (bs.getD (n - 1 - i) 0 * 2 ^ (8 * (i % 4)))))
def limbGo (bs : List Int) (n i : Nat) (L : List Int) : List Int := if i < n then limbGo bs n (i + 1) (limbSet bs n i L) else L
termination_by n - i
def limbsF (bs : List Int) : List Int := limbGo bs bs.length 0 (List.replicate ((bs.length + 3) / 4) 0)
theorem limbSet_len (bs : List Int) (n i : Nat) (L : List Int) : (limbSet bs n i L).length = L.length := by simp [limbSet]
theorem limbGo_len (bs : List Int) (n i : Nat) (L : List Int) : (limbGo bs n i L).length = L.length := by
  fun_induction limbGo bs n i L with
  | case1 i L h ih => rw [ih, limbSet_len]
  | case2 => rfl
theorem limbsF_len (bs : List Int) : (limbsF bs).length = (bs.length + 3) / 4 := by rw [limbsF, limbGo_len, List.length_replicate]
theorem wrap_u32_range (n : Int) : 0 ≤ IntKind.u32.wrap n ∧ IntKind.u32.wrap n < 4294967296 := by rw [IntKind.wrap_u32]; omega
theorem limbGo_range (bs : List Int) (n i : Nat) (L : List Int) (h : ∀ x ∈ L, 0 ≤ x ∧ x < 4294967296) : ∀ x ∈ limbGo bs n i L, 0 ≤ x ∧ x < 4294967296 := by
  fun_induction limbGo bs n i L with
  | case1 i L hlt ih =>
    refine ih fun x hx => ?_
    rcases List.mem_or_eq_of_mem_set hx with hx | rfl
    · exact h x hx
    · exact wrap_u32_range _
  | case2 => exact h
theorem limbsF_range (bs : List Int) : ∀ x ∈ limbsF bs, 0 ≤ x ∧ x < 4294967296 := limbGo_range _ _ _ _ fun x hx => by
  rw [List.mem_replicate] at hx
  obtain ⟨_, rfl⟩ := hx
  omega
/-- Limbs handed back. -/
def LimbPost (L : List Int) (w : World) (e : Ending) (w' : World) : Prop := ∃ v, e = .returned (.tuple #[v, .int .i64 0]) ∧ w'.ownsRow w.heap.size 152 1 v L.length (L.map (Value.int .u32)) ∧ Below w.heap.size w w'
theorem info152 : (Tryz.prog.info? 152).map (fun i => (i.zero, i.size, i.bytes)) = some (some (.int .u32 0), 1, 4) := by kernel_rfl
theorem getD_get {L : List Int} {i : Nat} (h : i < L.length) : L[i]? = some (L.getD i 0) := by
  rw [List.getD_eq_getElem?_getD, List.getElem?_eq_getElem h]; rfl
set_option maxHeartbeats 8000000 in
set_option maxRecDepth 100000 in
theorem frombytes_any (bs : List Int) (hbs : ∀ b ∈ bs, 0 ≤ b ∧ b < 256) (g o n c : Nat) (hlen : bs.length = n) (hn : n ≤ 16384) (hne : n = 0 ∨ bs.getD 0 0 ≠ 0) (hnc : n ≤ c) (w : World) (hB : BAt w g o bs) (hg : g < w.heap.size) :
    Calls Tryz.prog 85 #[.slice (some ⟨g, o, none⟩) n c] w (LimbPost (limbsF bs) w) := by
  obtain ⟨m, hm⟩ : ∃ m, (n + 3) / 4 = m := ⟨_, rfl⟩
  obtain ⟨i0, hi, hz0, hz1, hz2⟩ := info_parts info152
  have hlf : limbsF bs = limbGo bs n 0 (List.replicate m 0) := by rw [limbsF, hlen, hm]
  have hmn : m ≤ 4097 := by omega
  have hnz : (n : Int) ≤ 16384 := by omega
  have w1 : IntKind.i64.wrap ((n : Int) + 3) = (n : Int) + 3 := by rw [IntKind.wrap_i64]; omega
  have q1 : ((n : Int) + 3) / 4 = (m : Int) := by omega
  have b0 : 0 < n → ∃ x, x ≠ 0 ∧ w.cell? ⟨g, o, none⟩ = some (.int .u8 x) := fun h => ⟨bs.getD 0 0, by rcases hne with h' | h'; omega; exact h', by have := hB 0 _ (getD_get (by omega)); exact this⟩
  have HB := Lib.hid hB
  have HLF := Lib.hid hlf
  clear hB hlf
  go_enter Tryz.func85, Tryz.ntmps85
  go_wp2_with fail
  go_loopw [0] (fun s0 wr => s0 = .slice (some ⟨g, o, none⟩) n c ∧ wr = w) (fun _ _ => 0)
  case atStart => exact ⟨rfl, rfl⟩
  case round =>
    obtain ⟨rfl, hwr⟩ := hrel
    subst wr
    by_cases h0 : 0 < n
    · obtain ⟨x, hx0, hx⟩ := b0 h0
      have hxb : (x == 0) = false := by simpa using hx0
      have h0z : (0 : Int) < (n : Int) := by omega
      clear b0
      go_wp2_with (at_make; (refine wpList_make_full _ rfl (.tmp 23) (.tmp 23) 150 rfl w.heap.size 152 i0 (.int .u32 0) 1 Tryz.underlying150 hi hz0 hz1 .i64 .i64 (((n : Int) + 3) / 4) (((n : Int) + 3) / 4) m rfl rfl q1 q1 (by rw [hz2]; omega) (by unfold maxLen; omega) (Nat.le_refl _) ?_; intro w2 hown hgr))
      have hown0 : w2.ownsRow w.heap.size 152 1 (.slice (some ⟨w.heap.size, 0, none⟩) m m) m ((List.replicate m (0 : Int)).map (Value.int .u32)) := by
        have h := hown
        rw [Nat.mul_one, show (Value.int .u32 0).cells = #[.int .u32 0] from rfl, toList_madeCells_one] at h
        rw [List.map_replicate]
        exact h
      have hbw : Below w.heap.size w w2 := (Below.refl _ w).grown hgr (Nat.le_refl _) (fun k e => by cases e)
      obtain ⟨q, hq⟩ : ∃ q, w.heap.size = q := ⟨_, rfl⟩
      rw [hq] at hown0
      have HO0 := Lib.hid hown0
      have HB0 := Lib.hid hbw
      clear hown hgr hown0 hbw hx hxb hx0
      rw [hq]
      go_loopw [27] (fun i wi => ∃ (k : Nat) (L : List Int), k ≤ n ∧ i = .int .i64 k ∧ L.length = m ∧ Hid (limbGo bs n k L = limbGo bs n 0 (List.replicate m 0)) ∧ Hid (wi.ownsRow q 152 1 (.slice (some ⟨q, 0, none⟩) m m) m (L.map (Value.int .u32))) ∧ Hid (Below w.heap.size w wi)) (fun i _ => n - (intOf i).toNat)
      case atStart => exact ⟨0, _, by omega, rfl, by rw [List.length_replicate], rfl, HO0, HB0⟩
      case round =>
        clear HO0 HB0
        obtain ⟨k, L, hk, rfl, hL, HEQ, HO, HB1⟩ := hrel
        by_cases hlt : k < n
        · have hltz : (k : Int) < (n : Int) := by omega
          obtain ⟨kq, hkq⟩ : ∃ kq, k / 4 = kq := ⟨_, rfl⟩
          obtain ⟨kr, hkr⟩ : ∃ kr, k % 4 = kr := ⟨_, rfl⟩
          have e1 : (k : Int) / 4 = (kq : Int) := by omega
          have e2 : (k : Int) % 4 = (kr : Int) := by omega
          have e3 : (kq : Int) < (m : Int) := by omega
          obtain ⟨kn, hkn⟩ : ∃ kn, n - 1 - k = kn := ⟨_, rfl⟩
          have e4 : IntKind.i64.wrap ((n : Int) - 1) = (n : Int) - 1 := by rw [IntKind.wrap_i64]; omega
          have e5 : IntKind.i64.wrap ((n : Int) - 1 - (k : Int)) = (kn : Int) := by rw [IntKind.wrap_i64]; omega
          have e6 : (kn : Int) < (n : Int) := by omega
          have e7 : IntKind.i64.wrap (8 * (kr : Int)) = ((8 * kr : Nat) : Int) := by rw [IntKind.wrap_i64]; omega
          obtain ⟨u, hu⟩ : ∃ u, L.getD kq 0 = u := ⟨_, rfl⟩
          obtain ⟨y, hy⟩ : ∃ y, bs.getD kn 0 = y := ⟨_, rfl⟩
          have hyb : bs[kn]? = some y := by rw [← hy]; exact getD_get (by omega)
          have hyr := hbs y (List.mem_of_getElem? hyb)
          have e8 : IntKind.u32.wrap y = y := by rw [IntKind.wrap_u32]; omega
          have c1 : wr.cell? ⟨q, kq, none⟩ = some (.int .u32 u) := by
            have := HO.out.cells (g := q) rfl kq (.int .u32 u) (by rw [List.getElem?_map, getD_get (by omega), hu]; rfl)
            rw [WideShapes.add_plain, Nat.zero_add] at this
            exact this
          have c2 : wr.cell? ⟨g, o + kn, none⟩ = some (.int .u8 y) := (HB1.out.cell (p := ⟨g, o + kn, none⟩) hg).trans (HB.out kn y hyb)
          have f1 : wr.frozen? ⟨q, kq, none⟩ = false := by
            obtain ⟨cs, hc⟩ := own_typed HO.out q rfl
            exact frozen_of_row wr q kq _ _ hc
          have HL := Lib.hid hL
          go_wp2_with fail
          go_region
          have hs := HO.out.stored kq (.int .u32 (Go.bits .or .u32 u (y * 2 ^ (8 * kr) % 4294967296)))
          have hE : limbSet bs n k L = L.set kq (Go.bits .or .u32 u (y * 2 ^ (8 * kr) % 4294967296)) := by
            unfold limbSet
            rw [hkq, hkr, hkn, hu, hy, IntKind.wrap_u32]
          rw [← List.map_set, ← hE] at hs
          have hs2 := hs.1.drew
          have hb2 := (HB1.out.setCell (p := ⟨q, kq, none⟩) (by rw [← hq]; exact Nat.le_refl _) (.int .u32 (Go.bits .or .u32 u (y * 2 ^ (8 * kr) % 4294967296)))).drew
          go_wp2
          go_roundw
          case rel =>
            refine ⟨k + 1, limbSet bs n k L, by omega, by go_num, by rw [limbSet_len]; exact HL.out, (show Hid _ from ?_), hs2, hb2⟩
            have := HEQ.out
            rw [limbGo, if_pos hlt] at this
            exact this
          case measure => simp [intOf]; omega
        · obtain rfl : k = n := by omega
          have hkk : ¬ (k : Int) < (k : Int) := by omega
          have hf : L = limbsF bs := by
            have := HEQ.out
            rw [limbGo, if_neg (Nat.lt_irrefl _)] at this
            rw [HLF.out]
            exact this
          have HL := Lib.hid hL
          have HF := Lib.hid hf
          clear hL hf
          go_wp2
          refine bodyPost_ret (v := .tuple #[.slice (some ⟨q, 0, none⟩) m m, .int .i64 0]) (by simp [results, Tryz.results85, go_sem]) rfl ⟨_, rfl, ?_, HB1.out⟩
          rw [← HF.out, HL.out, hq]
          exact HO.out
    · obtain rfl : n = 0 := by omega
      obtain rfl : m = 0 := by omega
      have hz : ¬ (0 : Int) < ((0 : Nat) : Int) := by omega
      go_wp2_with (at_make; (refine wpList_make_full _ rfl (.tmp 23) (.tmp 23) 150 rfl w.heap.size 152 i0 (.int .u32 0) 1 Tryz.underlying150 hi hz0 hz1 .i64 .i64 0 0 0 rfl rfl rfl rfl (by rw [hz2]; omega) (by unfold maxLen; omega) (Nat.le_refl _) ?_; intro w2 hown hgr))
      have hown0 : w2.ownsRow w.heap.size 152 1 (.slice (some ⟨w.heap.size, 0, none⟩) 0 0) 0 [] := by
        have h := hown
        rw [Nat.zero_mul, show (Value.int .u32 0).cells = #[.int .u32 0] from rfl, toList_madeCells_one] at h
        exact h
      have hbw : Below w.heap.size w w2 := (Below.refl _ w).grown hgr (Nat.le_refl _) (fun k e => by cases e)
      have HO0 := Lib.hid hown0
      have HB0 := Lib.hid hbw
      clear hown hgr hown0 hbw
      have hE : limbsF bs = [] := by
        rw [HLF.out, limbGo, if_neg (Nat.lt_irrefl _)]; rfl
      have HE := Lib.hid hE
      clear hE
      obtain ⟨q, hq⟩ : ∃ q, w.heap.size = q := ⟨_, rfl⟩
      rw [hq]
      rw [hq] at HO0
      go_loopw [27] (fun i wi => i = .int .i64 0 ∧ Hid (wi.ownsRow q 152 1 (.slice (some ⟨q, 0, none⟩) 0 0) 0 []) ∧ Hid (Below w.heap.size w wi)) (fun _ _ => 0)
      case atStart => exact ⟨rfl, HO0, HB0⟩
      case round =>
        clear HO0 HB0
        obtain ⟨rfl, HO, HB1⟩ := hrel
        go_wp2
        refine bodyPost_ret (v := .tuple #[.slice (some ⟨q, 0, none⟩) 0 0, .int .i64 0]) (by simp [results, Tryz.results85, go_sem]) rfl ⟨_, rfl, ?_, HB1.out⟩
        rw [HE.out, hq]
        exact HO.out
end Go.Proofs.YtfmceonbejlhlaaGreatDoor
