import Derived.Test.YtlbokaekhjjabaaRows
import Derived.WalkKit
import Derived.ProofKit
import Derived.OpenShut
import Derived.ShutString
import Derived.ChangeOld
import Derived.Below
import Derived.SizedLaws
import Derived.Test.YtlbokaekhjjabaaMEscRight0
import Derived.Test.YtlbokaekhjjabaaMEscRight1
-- Written by a program of this session (joint.sh) out of the translation. Not trusted: Lean checks it.
namespace Go.Proofs.Ytlbokaekhjjabaa.S
open Go.RowKit Go.Proofs.YtlbokaekhjjabaaW.PrintWords Go.Proofs.YtlbokaekhjjabaaW.PrintLast Go.Proofs.YtlbokaekhjjabaaW.PrintMore
attribute [local go_sem] max2_int min2_int max_two min_two max_three min_three max_four min_four   -- for this text's walks alone
set_option linter.unusedVariables false
set_option linter.unusedSimpArgs false

/-! ### glossatorlaw03_EscFirst: function 15 -/
def glossatorlaw03_EscFirst.j0 : Nat → ByteArray → ByteArray → Int → Bool → Option (Bool)
  | 0, _, _, _, _ => none
  | k + 1, x0, x1, x6, x44 => if x44 = true then (some false) else (if 0 ≤ (wrap64 (x6 + 1)) then (if (wrap64 (x6 + 1)) ≤ (x0.size : Int) then (if (x0.extract 0 ((wrap64 (x6 + 1)) : Int).toNat).size + x1.size ≤ 9223372036854775807 then ((esc_Scan.f ((x0.extract 0 ((wrap64 (x6 + 1)) : Int).toNat) ++ x1)).bind fun bt150 => (if 0 ≤ x6 then (if x6 ≤ (x0.size : Int) then ((esc_Scan.f (x0.extract 0 (x6 : Int).toNat)).bind fun bt153 => (if bt150.2.1 = x6 then (if bt150.2.2 = 4 then (if bt153.2.1 = x6 then (some (bt153.2.2 == 3)) else (some false)) else (some false)) else (some false))) else (none)) else (none))) else (none)) else (none)) else (none))
def glossatorlaw03_EscFirst.f (k : Nat) (a0 : ByteArray) (a1 : ByteArray) : Option (Bool) := (esc_Scan.f a0).bind fun bt145 => (if bt145.2.2 = 4 then (if bt145.2.1 < 0 then (glossatorlaw03_EscFirst.j0 k a0 a1 bt145.2.1 true) else (glossatorlaw03_EscFirst.j0 k a0 a1 bt145.2.1 (decide (bt145.2.1 ≥ (a0.size : Int))))) else (if bt145.2.2 = 0 then ((glossatorlaw03_awake.f).bind fun t148 => (some t148)) else (if bt145.2.2 = 3 then (if bt145.2.1 = (a0.size : Int) then ((glossatorlaw03_awake.f).bind fun t149 => (some t149)) else (some false)) else (some false))))
theorem glossatorlaw03_EscFirst.mono_l : ∀ k, (∀ y0 y1 y2 y3, LeO (glossatorlaw03_EscFirst.j0 k y0 y1 y2 y3) (glossatorlaw03_EscFirst.j0 (k + 1) y0 y1 y2 y3))
  | 0 => fun _ _ _ _ r h => by simp [glossatorlaw03_EscFirst.j0] at h
  | k + 1 => by
    have ih0 := glossatorlaw03_EscFirst.mono_l k
    · intro y0 y1 y2 y3
      unfold glossatorlaw03_EscFirst.j0
      repeat' first
      | (with_reducible exact ih0 _ _ _ _)
      | (with_reducible exact LeO.refl _)
      | (with_reducible exact LeO.none _)
      | (with_reducible refine LeO.ite ?_ ?_)
      | (with_reducible refine LeO.bind ?_ (fun _ => ?_))
      | exact ih0 _ _ _ _
      | exact LeO.none _
      | refine LeO.ite ?_ ?_
      | refine LeO.bind ?_ (fun _ => ?_)
theorem glossatorlaw03_EscFirst.mono : ∀ a0 a1 k, LeO (glossatorlaw03_EscFirst.f k a0 a1) (glossatorlaw03_EscFirst.f (k + 1) a0 a1) := by
  intro a0 a1 k
  have ih0 := glossatorlaw03_EscFirst.mono_l k
  unfold glossatorlaw03_EscFirst.f
  repeat' first
      | (with_reducible exact ih0 _ _ _ _)
      | (with_reducible exact LeO.refl _)
      | (with_reducible exact LeO.none _)
      | (with_reducible refine LeO.ite ?_ ?_)
      | (with_reducible refine LeO.bind ?_ (fun _ => ?_))
      | exact ih0 _ _ _ _
      | exact LeO.none _
      | refine LeO.ite ?_ ?_
      | refine LeO.bind ?_ (fun _ => ?_)
set_option maxHeartbeats 8000000 in
set_option maxRecDepth 100000 in
theorem glossatorlaw03_EscFirst.calls (k : Nat) (a0 : ByteArray) (a1 : ByteArray) (r : Bool) (w : World) (h : glossatorlaw03_EscFirst.f k a0 a1 = some r) :
    Calls Try.prog 15 #[.string a0, .string a1] w fun e w' => e = .returned (.bool r) ∧ Below w.heap.size w w' := by
  have HB := Aside0.mk (Below.refl w.heap.size w)
  have H : ((esc_Scan.f a0).bind fun bt145 => (if bt145.2.2 = 4 then (if bt145.2.1 < 0 then (glossatorlaw03_EscFirst.j0 k a0 a1 bt145.2.1 true) else (glossatorlaw03_EscFirst.j0 k a0 a1 bt145.2.1 (decide (bt145.2.1 ≥ (a0.size : Int))))) else (if bt145.2.2 = 0 then ((glossatorlaw03_awake.f).bind fun t148 => (some t148)) else (if bt145.2.2 = 3 then (if bt145.2.1 = (a0.size : Int) then ((glossatorlaw03_awake.f).bind fun t149 => (some t149)) else (some false)) else (some false))))) = some r := h
  clear h
  replace H := Option.bind_eq_some_iff.mp H
  obtain ⟨⟨t145, t146, t147⟩, A30, H⟩ := H
  replace H : (if t147 = 4 then (if t146 < 0 then (glossatorlaw03_EscFirst.j0 k a0 a1 t146 true) else (glossatorlaw03_EscFirst.j0 k a0 a1 t146 (decide (t146 ≥ (a0.size : Int))))) else (if t147 = 0 then ((glossatorlaw03_awake.f).bind fun t148 => (some t148)) else (if t147 = 3 then (if t146 = (a0.size : Int) then ((glossatorlaw03_awake.f).bind fun t149 => (some t149)) else (some false)) else (some false)))) = some r := H
  have A3 := Aside0.mk A30
  clear A30
  by_cases c4 : t147 = 4
  · rw [if_pos c4] at H
    have c4b0 : (t147 == 4) = true := beq_iff_eq.mpr c4
    have c4b1 : (t147 != 4) = false := bne_eq_false_iff_eq.mpr c4
    clear c4
    have HC5 := Aside0.mk H
    clear H
    go_enter Try.func15, Try.ntmps15
    go_upto_region 4 with (first | ((with_reducible refine gate_callee (f := 37) rfl ?_); refine goesL_ (some 16) rfl rfl Try.func37 (by kernel_rfl) rfl #[.string a0] rfl (by (try simp only [List.map_toArray, List.map_cons, List.map_nil]); first | done | rfl | (simp only [List.length_drop, List.length_take]; rfl)) ?_; (with_reducible refine (esc_Scan.calls a0 t145 t146 t147 _ A3.out).mono ?_); rintro e w6 ⟨rfl, hb⟩; refine ⟨_, rfl, ?_⟩; have n0_ := Aside0.mk (below_step (by repeat (first | (with_reducible first | exact HB.out | apply below_alloc | apply pw_below_drewN | apply below_drew1) | exact HB.out)) hb); clear HB; have HB := n0_; clear n0_; (try clear hb); (try clear hb2); (try clear hk); (try clear hi)))
    (try simp only [Act.put, List.setIfInBounds_toArray, List.set_cons_zero, List.set_cons_succ])
    go_cut [44] (fun v44 wc => ∃ (kq : Nat) (x44_4 : Bool), v44 = .bool x44_4 ∧ Aside0 (glossatorlaw03_EscFirst.j0 kq a0 a1 t146 x44_4 = some r) ∧ Aside0 (kq ≤ k) ∧ Aside0 (Below w.heap.size w wc))
    case first =>
      have H := HC5.out
      clear HC5
      by_cases c7 : t146 < 0
      · rw [if_pos c7] at H
        have c7b0 : decide (t146 < 0) = true := decide_eq_true c7
        clear c7
        (first | rw [c7b0] | (simp only [i64_w, i32_w]; rw [c7b0]) | skip)
        have H' := Aside0.mk H
        clear H
        go_wp2
        go_meet
        case rel => exact ⟨_, (true), (by first | rfl | (simp; done) | (simp [*]; done)), H', ⟨by first | omega | exact Nat.le_refl _⟩, ⟨by repeat (first | (with_reducible first | exact HB.out | apply below_alloc | apply pw_below_drewN | apply below_drew1) | exact HB.out)⟩⟩
      · rw [if_neg c7] at H
        have c7b0 : decide (t146 < 0) = false := decide_eq_false c7
        clear c7
        (first | rw [c7b0] | (simp only [i64_w, i32_w]; rw [c7b0]) | skip)
        have H' := Aside0.mk H
        clear H
        go_wp2
        go_meet
        case rel => exact ⟨_, (decide (t146 ≥ (a0.size : Int))), (by first | rfl | (simp; done) | (simp [*]; done)), H', ⟨by first | omega | exact Nat.le_refl _⟩, ⟨by repeat (first | (with_reducible first | exact HB.out | apply below_alloc | apply pw_below_drewN | apply below_drew1) | exact HB.out)⟩⟩
    case rest =>
      clear HC5
      try clear c1
      try clear p2
      try clear c3
      try clear c4
      try clear c4b0
      try clear c4b1
      try clear c7
      try clear c7b0
      obtain ⟨kq, x44_4, rfl, HA, HJ4, HB⟩ := hcut
      cases kq with
      | zero => exact absurd HA.out (by simp [glossatorlaw03_EscFirst.j0])
      | succ kj4 =>
        have H := HA.out
        clear HA
        simp only [glossatorlaw03_EscFirst.j0] at H
        by_cases c8 : x44_4 = true
        · subst c8
          have H1 : (some false) = some r := by rw [if_pos rfl] at H; exact H
          clear H
          have H := H1
          clear H1
          obtain rfl := Option.some.inj H
          go_wp2
          go_ret
          exact ⟨by first | rfl | (simp [errW_none, errW_some] <;> rfl) | (simp [*, errW_none, errW_some] <;> rfl), by repeat (first | (with_reducible first | exact HB.out | apply below_alloc | apply pw_below_drewN | apply below_drew1) | exact HB.out)⟩
        · replace c8 := Bool.eq_false_iff.mpr c8
          subst c8
          have H1 : (if 0 ≤ (wrap64 (t146 + 1)) then (if (wrap64 (t146 + 1)) ≤ (a0.size : Int) then (if (a0.extract 0 ((wrap64 (t146 + 1)) : Int).toNat).size + a1.size ≤ 9223372036854775807 then ((esc_Scan.f ((a0.extract 0 ((wrap64 (t146 + 1)) : Int).toNat) ++ a1)).bind fun bt150 => (if 0 ≤ t146 then (if t146 ≤ (a0.size : Int) then ((esc_Scan.f (a0.extract 0 (t146 : Int).toNat)).bind fun bt153 => (if bt150.2.1 = t146 then (if bt150.2.2 = 4 then (if bt153.2.1 = t146 then (some (bt153.2.2 == 3)) else (some false)) else (some false)) else (some false))) else (none)) else (none))) else (none)) else (none)) else (none)) = some r := by rw [if_neg (show ¬ (false = true) by decide)] at H; exact H
          clear H
          have H := H1
          clear H1
          obtain ⟨ji9, hji9⟩ : ∃ j_ : Int, (wrap64 (t146 + 1)) = j_ := ⟨_, rfl⟩
          replace H : (if 0 ≤ (ji9) then (if (ji9) ≤ (a0.size : Int) then (if (a0.extract 0 ((ji9) : Int).toNat).size + a1.size ≤ 9223372036854775807 then ((esc_Scan.f ((a0.extract 0 ((ji9) : Int).toNat) ++ a1)).bind fun bt150 => (if 0 ≤ t146 then (if t146 ≤ (a0.size : Int) then ((esc_Scan.f (a0.extract 0 (t146 : Int).toNat)).bind fun bt153 => (if bt150.2.1 = t146 then (if bt150.2.2 = 4 then (if bt153.2.1 = t146 then (some (bt153.2.2 == 3)) else (some false)) else (some false)) else (some false))) else (none)) else (none))) else (none)) else (none)) else (none)) = some r := by first | (rw [hji9] at H; exact H) | (simp only [hji9] at H ⊢; exact H)
          have hji9w : (IntKind.i64.wrap (t146 + 1)) = ji9 := (i64_w _).trans hji9
          by_cases c10 : 0 ≤ (ji9)
          · rw [if_pos c10] at H
            have c10b0 := eq_true c10
            have c10b1 : decide (0 ≤ (ji9)) = true := decide_eq_true c10
            clear c10
            by_cases c11 : (ji9) ≤ (a0.size : Int)
            · rw [if_pos c11] at H
              have c11b0 := eq_true c11
              have c11b1 : decide ((ji9) ≤ (a0.size : Int)) = true := decide_eq_true c11
              clear c11
              by_cases c12 : (a0.extract 0 ((ji9) : Int).toNat).size + a1.size ≤ 9223372036854775807
              · rw [if_pos c12] at H
                have c12b0 := eq_true c12
                have c12b1 : decide ((a0.extract 0 ((ji9) : Int).toNat).size + a1.size ≤ 9223372036854775807) = true := decide_eq_true c12
                try have c12b2 : (9223372036854775807 < (a0.extract 0 ((ji9) : Int).toNat).size + a1.size) = False := eq_false (Nat.not_lt.2 c12)
                replace H := Option.bind_eq_some_iff.mp H
                obtain ⟨⟨t150, t151, t152⟩, A130, H⟩ := H
                replace H : (if 0 ≤ t146 then (if t146 ≤ (a0.size : Int) then ((esc_Scan.f (a0.extract 0 (t146 : Int).toNat)).bind fun bt153 => (if t151 = t146 then (if t152 = 4 then (if bt153.2.1 = t146 then (some (bt153.2.2 == 3)) else (some false)) else (some false)) else (some false))) else (none)) else (none)) = some r := H
                have A13 := Aside0.mk A130
                clear A130
                by_cases c14 : 0 ≤ t146
                · rw [if_pos c14] at H
                  have c14b0 := eq_true c14
                  have c14b1 : decide (0 ≤ t146) = true := decide_eq_true c14
                  clear c14
                  by_cases c15 : t146 ≤ (a0.size : Int)
                  · rw [if_pos c15] at H
                    have c15b0 := eq_true c15
                    have c15b1 : decide (t146 ≤ (a0.size : Int)) = true := decide_eq_true c15
                    clear c15
                    replace H := Option.bind_eq_some_iff.mp H
                    obtain ⟨⟨t153, t154, t155⟩, A160, H⟩ := H
                    replace H : (if t151 = t146 then (if t152 = 4 then (if t154 = t146 then (some (t155 == 3)) else (some false)) else (some false)) else (some false)) = some r := H
                    have A16 := Aside0.mk A160
                    clear A160
                    by_cases c17 : t151 = t146
                    · rw [if_pos c17] at H
                      have c17b0 : (t151 == t146) = true := beq_iff_eq.mpr c17
                      have c17b1 : (t151 != t146) = false := bne_eq_false_iff_eq.mpr c17
                      clear c17
                      by_cases c18 : t152 = 4
                      · rw [if_pos c18] at H
                        have c18b0 : (t152 == 4) = true := beq_iff_eq.mpr c18
                        have c18b1 : (t152 != 4) = false := bne_eq_false_iff_eq.mpr c18
                        clear c18
                        by_cases c19 : t154 = t146
                        · rw [if_pos c19] at H
                          have c19b0 : (t154 == t146) = true := beq_iff_eq.mpr c19
                          have c19b1 : (t154 != t146) = false := bne_eq_false_iff_eq.mpr c19
                          clear c19
                          obtain rfl := Option.some.inj H
                          go_wp2_with (first | ((with_reducible refine gate_callee (f := 37) rfl ?_); refine goesL_ (some 52) rfl rfl Try.func37 (by kernel_rfl) rfl #[.string ((a0.extract 0 ((ji9) : Int).toNat) ++ a1)] rfl (by (try simp only [List.map_toArray, List.map_cons, List.map_nil]); first | done | (simp only [hji9]; rfl) | rfl | (simp only [List.length_drop, List.length_take]; rfl)) ?_; (with_reducible refine (esc_Scan.calls ((a0.extract 0 ((ji9) : Int).toNat) ++ a1) t150 t151 t152 _ A13.out).mono ?_); rintro e w20 ⟨rfl, hb⟩; refine ⟨_, rfl, ?_⟩; have n0_ := Aside0.mk (below_step (by repeat (first | (with_reducible first | exact HB.out | apply below_alloc | apply pw_below_drewN | apply below_drew1) | exact HB.out)) hb); clear HB; have HB := n0_; clear n0_; (try clear hb); (try clear hb2); (try clear hk); (try clear hi)) | ((with_reducible refine gate_callee (f := 37) rfl ?_); refine goesL_ (some 60) rfl rfl Try.func37 (by kernel_rfl) rfl #[.string (a0.extract 0 (t146 : Int).toNat)] rfl (by (try simp only [List.map_toArray, List.map_cons, List.map_nil]); first | done | rfl | (simp only [List.length_drop, List.length_take]; rfl)) ?_; (with_reducible refine (esc_Scan.calls (a0.extract 0 (t146 : Int).toNat) t153 t154 t155 _ A16.out).mono ?_); rintro e w21 ⟨rfl, hb⟩; refine ⟨_, rfl, ?_⟩; have n0_ := Aside0.mk (below_step (by repeat (first | (with_reducible first | exact HB.out | apply below_alloc | apply pw_below_drewN | apply below_drew1) | exact HB.out)) hb); clear HB; have HB := n0_; clear n0_; (try clear hb); (try clear hb2); (try clear hk); (try clear hi)))
                          go_ret
                          exact ⟨by first | rfl | (simp [errW_none, errW_some] <;> rfl) | (simp only [← hji9]; first | rfl | (simp [errW_none, errW_some] <;> rfl)) | (simp [*, errW_none, errW_some] <;> rfl), by repeat (first | (with_reducible first | exact HB.out | apply below_alloc | apply pw_below_drewN | apply below_drew1) | exact HB.out)⟩
                        · rw [if_neg c19] at H
                          have c19b0 : (t154 == t146) = false := beq_eq_false_iff_ne.mpr c19
                          have c19b1 : (t154 != t146) = true := bne_iff_ne.mpr c19
                          obtain rfl := Option.some.inj H
                          go_wp2_with (first | ((with_reducible refine gate_callee (f := 37) rfl ?_); refine goesL_ (some 52) rfl rfl Try.func37 (by kernel_rfl) rfl #[.string ((a0.extract 0 ((ji9) : Int).toNat) ++ a1)] rfl (by (try simp only [List.map_toArray, List.map_cons, List.map_nil]); first | done | (simp only [hji9]; rfl) | rfl | (simp only [List.length_drop, List.length_take]; rfl)) ?_; (with_reducible refine (esc_Scan.calls ((a0.extract 0 ((ji9) : Int).toNat) ++ a1) t150 t151 t152 _ A13.out).mono ?_); rintro e w22 ⟨rfl, hb⟩; refine ⟨_, rfl, ?_⟩; have n0_ := Aside0.mk (below_step (by repeat (first | (with_reducible first | exact HB.out | apply below_alloc | apply pw_below_drewN | apply below_drew1) | exact HB.out)) hb); clear HB; have HB := n0_; clear n0_; (try clear hb); (try clear hb2); (try clear hk); (try clear hi)) | ((with_reducible refine gate_callee (f := 37) rfl ?_); refine goesL_ (some 60) rfl rfl Try.func37 (by kernel_rfl) rfl #[.string (a0.extract 0 (t146 : Int).toNat)] rfl (by (try simp only [List.map_toArray, List.map_cons, List.map_nil]); first | done | rfl | (simp only [List.length_drop, List.length_take]; rfl)) ?_; (with_reducible refine (esc_Scan.calls (a0.extract 0 (t146 : Int).toNat) t153 t154 t155 _ A16.out).mono ?_); rintro e w23 ⟨rfl, hb⟩; refine ⟨_, rfl, ?_⟩; have n0_ := Aside0.mk (below_step (by repeat (first | (with_reducible first | exact HB.out | apply below_alloc | apply pw_below_drewN | apply below_drew1) | exact HB.out)) hb); clear HB; have HB := n0_; clear n0_; (try clear hb); (try clear hb2); (try clear hk); (try clear hi)))
                          go_ret
                          exact ⟨by first | rfl | (simp [errW_none, errW_some] <;> rfl) | (simp only [← hji9]; first | rfl | (simp [errW_none, errW_some] <;> rfl)) | (simp [*, errW_none, errW_some] <;> rfl), by repeat (first | (with_reducible first | exact HB.out | apply below_alloc | apply pw_below_drewN | apply below_drew1) | exact HB.out)⟩
                      · rw [if_neg c18] at H
                        have c18b0 : (t152 == 4) = false := beq_eq_false_iff_ne.mpr c18
                        have c18b1 : (t152 != 4) = true := bne_iff_ne.mpr c18
                        obtain rfl := Option.some.inj H
                        go_wp2_with (first | ((with_reducible refine gate_callee (f := 37) rfl ?_); refine goesL_ (some 52) rfl rfl Try.func37 (by kernel_rfl) rfl #[.string ((a0.extract 0 ((ji9) : Int).toNat) ++ a1)] rfl (by (try simp only [List.map_toArray, List.map_cons, List.map_nil]); first | done | (simp only [hji9]; rfl) | rfl | (simp only [List.length_drop, List.length_take]; rfl)) ?_; (with_reducible refine (esc_Scan.calls ((a0.extract 0 ((ji9) : Int).toNat) ++ a1) t150 t151 t152 _ A13.out).mono ?_); rintro e w24 ⟨rfl, hb⟩; refine ⟨_, rfl, ?_⟩; have n0_ := Aside0.mk (below_step (by repeat (first | (with_reducible first | exact HB.out | apply below_alloc | apply pw_below_drewN | apply below_drew1) | exact HB.out)) hb); clear HB; have HB := n0_; clear n0_; (try clear hb); (try clear hb2); (try clear hk); (try clear hi)) | ((with_reducible refine gate_callee (f := 37) rfl ?_); refine goesL_ (some 60) rfl rfl Try.func37 (by kernel_rfl) rfl #[.string (a0.extract 0 (t146 : Int).toNat)] rfl (by (try simp only [List.map_toArray, List.map_cons, List.map_nil]); first | done | rfl | (simp only [List.length_drop, List.length_take]; rfl)) ?_; (with_reducible refine (esc_Scan.calls (a0.extract 0 (t146 : Int).toNat) t153 t154 t155 _ A16.out).mono ?_); rintro e w25 ⟨rfl, hb⟩; refine ⟨_, rfl, ?_⟩; have n0_ := Aside0.mk (below_step (by repeat (first | (with_reducible first | exact HB.out | apply below_alloc | apply pw_below_drewN | apply below_drew1) | exact HB.out)) hb); clear HB; have HB := n0_; clear n0_; (try clear hb); (try clear hb2); (try clear hk); (try clear hi)))
                        go_ret
                        exact ⟨by first | rfl | (simp [errW_none, errW_some] <;> rfl) | (simp only [← hji9]; first | rfl | (simp [errW_none, errW_some] <;> rfl)) | (simp [*, errW_none, errW_some] <;> rfl), by repeat (first | (with_reducible first | exact HB.out | apply below_alloc | apply pw_below_drewN | apply below_drew1) | exact HB.out)⟩
                    · rw [if_neg c17] at H
                      have c17b0 : (t151 == t146) = false := beq_eq_false_iff_ne.mpr c17
                      have c17b1 : (t151 != t146) = true := bne_iff_ne.mpr c17
                      obtain rfl := Option.some.inj H
                      go_wp2_with (first | ((with_reducible refine gate_callee (f := 37) rfl ?_); refine goesL_ (some 52) rfl rfl Try.func37 (by kernel_rfl) rfl #[.string ((a0.extract 0 ((ji9) : Int).toNat) ++ a1)] rfl (by (try simp only [List.map_toArray, List.map_cons, List.map_nil]); first | done | (simp only [hji9]; rfl) | rfl | (simp only [List.length_drop, List.length_take]; rfl)) ?_; (with_reducible refine (esc_Scan.calls ((a0.extract 0 ((ji9) : Int).toNat) ++ a1) t150 t151 t152 _ A13.out).mono ?_); rintro e w26 ⟨rfl, hb⟩; refine ⟨_, rfl, ?_⟩; have n0_ := Aside0.mk (below_step (by repeat (first | (with_reducible first | exact HB.out | apply below_alloc | apply pw_below_drewN | apply below_drew1) | exact HB.out)) hb); clear HB; have HB := n0_; clear n0_; (try clear hb); (try clear hb2); (try clear hk); (try clear hi)) | ((with_reducible refine gate_callee (f := 37) rfl ?_); refine goesL_ (some 60) rfl rfl Try.func37 (by kernel_rfl) rfl #[.string (a0.extract 0 (t146 : Int).toNat)] rfl (by (try simp only [List.map_toArray, List.map_cons, List.map_nil]); first | done | rfl | (simp only [List.length_drop, List.length_take]; rfl)) ?_; (with_reducible refine (esc_Scan.calls (a0.extract 0 (t146 : Int).toNat) t153 t154 t155 _ A16.out).mono ?_); rintro e w27 ⟨rfl, hb⟩; refine ⟨_, rfl, ?_⟩; have n0_ := Aside0.mk (below_step (by repeat (first | (with_reducible first | exact HB.out | apply below_alloc | apply pw_below_drewN | apply below_drew1) | exact HB.out)) hb); clear HB; have HB := n0_; clear n0_; (try clear hb); (try clear hb2); (try clear hk); (try clear hi)))
                      go_ret
                      exact ⟨by first | rfl | (simp [errW_none, errW_some] <;> rfl) | (simp only [← hji9]; first | rfl | (simp [errW_none, errW_some] <;> rfl)) | (simp [*, errW_none, errW_some] <;> rfl), by repeat (first | (with_reducible first | exact HB.out | apply below_alloc | apply pw_below_drewN | apply below_drew1) | exact HB.out)⟩
                  · rw [if_neg c15] at H
                    exact absurd H (by simp)
                · rw [if_neg c14] at H
                  exact absurd H (by simp)
              · rw [if_neg c12] at H
                exact absurd H (by simp)
            · rw [if_neg c11] at H
              exact absurd H (by simp)
          · rw [if_neg c10] at H
            exact absurd H (by simp)
  · rw [if_neg c4] at H
    have c4b0 : (t147 == 4) = false := beq_eq_false_iff_ne.mpr c4
    have c4b1 : (t147 != 4) = true := bne_iff_ne.mpr c4
    by_cases c28 : t147 = 0
    · rw [if_pos c28] at H
      have c28b0 : (t147 == 0) = true := beq_iff_eq.mpr c28
      have c28b1 : (t147 != 0) = false := bne_eq_false_iff_eq.mpr c28
      clear c28
      replace H := Option.bind_eq_some_iff.mp H
      obtain ⟨t148, A290, H⟩ := H
      replace H : (some t148) = some r := H
      have A29 := Aside0.mk A290
      clear A290
      obtain rfl := Option.some.inj H
      go_enter Try.func15, Try.ntmps15
      go_wp2_with (first | ((with_reducible refine gate_callee (f := 37) rfl ?_); refine goesL_ (some 16) rfl rfl Try.func37 (by kernel_rfl) rfl #[.string a0] rfl (by (try simp only [List.map_toArray, List.map_cons, List.map_nil]); first | done | rfl | (simp only [List.length_drop, List.length_take]; rfl)) ?_; (with_reducible refine (esc_Scan.calls a0 t145 t146 t147 _ A3.out).mono ?_); rintro e w30 ⟨rfl, hb⟩; refine ⟨_, rfl, ?_⟩; have n0_ := Aside0.mk (below_step (by repeat (first | (with_reducible first | exact HB.out | apply below_alloc | apply pw_below_drewN | apply below_drew1) | exact HB.out)) hb); clear HB; have HB := n0_; clear n0_; (try clear hb); (try clear hb2); (try clear hk); (try clear hi)) | (go_at_call 32; (with_reducible refine (glossatorlaw03_awake.calls  t148 _ A29.out).mono ?_); rintro e w31 ⟨rfl, hb⟩; have n0_ := Aside0.mk (below_step (by repeat (first | (with_reducible first | exact HB.out | apply below_alloc | apply pw_below_drewN | apply below_drew1) | exact HB.out)) hb); clear HB; have HB := n0_; clear n0_; (try clear hb); (try clear hb2); (try clear hk); (try clear hi)))
      go_ret
      exact ⟨by first | rfl | (simp [errW_none, errW_some] <;> rfl) | (simp [*, errW_none, errW_some] <;> rfl), by repeat (first | (with_reducible first | exact HB.out | apply below_alloc | apply pw_below_drewN | apply below_drew1) | exact HB.out)⟩
    · rw [if_neg c28] at H
      have c28b0 : (t147 == 0) = false := beq_eq_false_iff_ne.mpr c28
      have c28b1 : (t147 != 0) = true := bne_iff_ne.mpr c28
      by_cases c32 : t147 = 3
      · rw [if_pos c32] at H
        have c32b0 : (t147 == 3) = true := beq_iff_eq.mpr c32
        have c32b1 : (t147 != 3) = false := bne_eq_false_iff_eq.mpr c32
        clear c32
        by_cases c33 : t146 = (a0.size : Int)
        · rw [if_pos c33] at H
          have c33b0 : (t146 == (a0.size : Int)) = true := beq_iff_eq.mpr c33
          have c33b1 : (t146 != (a0.size : Int)) = false := bne_eq_false_iff_eq.mpr c33
          clear c33
          replace H := Option.bind_eq_some_iff.mp H
          obtain ⟨t149, A340, H⟩ := H
          replace H : (some t149) = some r := H
          have A34 := Aside0.mk A340
          clear A340
          obtain rfl := Option.some.inj H
          go_enter Try.func15, Try.ntmps15
          go_wp2_with (first | ((with_reducible refine gate_callee (f := 37) rfl ?_); refine goesL_ (some 16) rfl rfl Try.func37 (by kernel_rfl) rfl #[.string a0] rfl (by (try simp only [List.map_toArray, List.map_cons, List.map_nil]); first | done | rfl | (simp only [List.length_drop, List.length_take]; rfl)) ?_; (with_reducible refine (esc_Scan.calls a0 t145 t146 t147 _ A3.out).mono ?_); rintro e w35 ⟨rfl, hb⟩; refine ⟨_, rfl, ?_⟩; have n0_ := Aside0.mk (below_step (by repeat (first | (with_reducible first | exact HB.out | apply below_alloc | apply pw_below_drewN | apply below_drew1) | exact HB.out)) hb); clear HB; have HB := n0_; clear n0_; (try clear hb); (try clear hb2); (try clear hk); (try clear hi)) | (go_at_call 32; (with_reducible refine (glossatorlaw03_awake.calls  t149 _ A34.out).mono ?_); rintro e w36 ⟨rfl, hb⟩; have n0_ := Aside0.mk (below_step (by repeat (first | (with_reducible first | exact HB.out | apply below_alloc | apply pw_below_drewN | apply below_drew1) | exact HB.out)) hb); clear HB; have HB := n0_; clear n0_; (try clear hb); (try clear hb2); (try clear hk); (try clear hi)))
          go_ret
          exact ⟨by first | rfl | (simp [errW_none, errW_some] <;> rfl) | (simp [*, errW_none, errW_some] <;> rfl), by repeat (first | (with_reducible first | exact HB.out | apply below_alloc | apply pw_below_drewN | apply below_drew1) | exact HB.out)⟩
        · rw [if_neg c33] at H
          have c33b0 : (t146 == (a0.size : Int)) = false := beq_eq_false_iff_ne.mpr c33
          have c33b1 : (t146 != (a0.size : Int)) = true := bne_iff_ne.mpr c33
          obtain rfl := Option.some.inj H
          go_enter Try.func15, Try.ntmps15
          go_wp2_with (first | ((with_reducible refine gate_callee (f := 37) rfl ?_); refine goesL_ (some 16) rfl rfl Try.func37 (by kernel_rfl) rfl #[.string a0] rfl (by (try simp only [List.map_toArray, List.map_cons, List.map_nil]); first | done | rfl | (simp only [List.length_drop, List.length_take]; rfl)) ?_; (with_reducible refine (esc_Scan.calls a0 t145 t146 t147 _ A3.out).mono ?_); rintro e w37 ⟨rfl, hb⟩; refine ⟨_, rfl, ?_⟩; have n0_ := Aside0.mk (below_step (by repeat (first | (with_reducible first | exact HB.out | apply below_alloc | apply pw_below_drewN | apply below_drew1) | exact HB.out)) hb); clear HB; have HB := n0_; clear n0_; (try clear hb); (try clear hb2); (try clear hk); (try clear hi)))
          go_ret
          exact ⟨by first | rfl | (simp [errW_none, errW_some] <;> rfl) | (simp [*, errW_none, errW_some] <;> rfl), by repeat (first | (with_reducible first | exact HB.out | apply below_alloc | apply pw_below_drewN | apply below_drew1) | exact HB.out)⟩
      · rw [if_neg c32] at H
        have c32b0 : (t147 == 3) = false := beq_eq_false_iff_ne.mpr c32
        have c32b1 : (t147 != 3) = true := bne_iff_ne.mpr c32
        obtain rfl := Option.some.inj H
        go_enter Try.func15, Try.ntmps15
        go_wp2_with (first | ((with_reducible refine gate_callee (f := 37) rfl ?_); refine goesL_ (some 16) rfl rfl Try.func37 (by kernel_rfl) rfl #[.string a0] rfl (by (try simp only [List.map_toArray, List.map_cons, List.map_nil]); first | done | rfl | (simp only [List.length_drop, List.length_take]; rfl)) ?_; (with_reducible refine (esc_Scan.calls a0 t145 t146 t147 _ A3.out).mono ?_); rintro e w38 ⟨rfl, hb⟩; refine ⟨_, rfl, ?_⟩; have n0_ := Aside0.mk (below_step (by repeat (first | (with_reducible first | exact HB.out | apply below_alloc | apply pw_below_drewN | apply below_drew1) | exact HB.out)) hb); clear HB; have HB := n0_; clear n0_; (try clear hb); (try clear hb2); (try clear hk); (try clear hi)))
        go_ret
        exact ⟨by first | rfl | (simp [errW_none, errW_some] <;> rfl) | (simp [*, errW_none, errW_some] <;> rfl), by repeat (first | (with_reducible first | exact HB.out | apply below_alloc | apply pw_below_drewN | apply below_drew1) | exact HB.out)⟩

/-- THE ONE PURE STATEMENT of glossatorlaw03_EscFirst: yours. -/
def glossatorlaw03_EscFirst.Pure : Prop := ∀ (a0 : ByteArray) (a1 : ByteArray), a0.size ≤ 140737488351232 → a1.size ≤ 140737488351232 → ∃ k, glossatorlaw03_EscFirst.f k a0 a1 = some true
theorem glossatorlaw03_EscFirst.walk (P : glossatorlaw03_EscFirst.Pure) (a0 : ByteArray) (a1 : ByteArray) (w : World) (w0 : a0.size ≤ 140737488351232) (w1 : a1.size ≤ 140737488351232) :
    Calls Try.prog 15 #[.string a0, .string a1] w fun e w' => e = .returned (.bool true) ∧ Below w.heap.size w w' := by
  obtain ⟨k, h⟩ := P a0 a1 w0 w1
  refine (glossatorlaw03_EscFirst.calls k a0 a1 true w h).mono ?_
  rintro e w' ⟨rfl, hd⟩
  exact ⟨rfl, hd⟩

end Go.Proofs.Ytlbokaekhjjabaa.S

/-
  esc's scan looks at the bytes up to its place alone; a text that is cut is short. Without Go.
-/
namespace Go.Proofs.Ytlbokaekhjjabaa
open Go.RowKit
set_option linter.unusedVariables false

/-- Two texts that are the same in the first n bytes. -/
def Agr (s t : ByteArray) (n : Nat) : Prop := n ≤ s.size ∧ n ≤ t.size ∧ s.data.toList.take n = t.data.toList.take n
theorem Agr.mono {s t : ByteArray} {n m : Nat} (h : Agr s t n) (hm : m ≤ n) : Agr s t m := by
  obtain ⟨h1, h2, h3⟩ := h
  refine ⟨by omega, by omega, ?_⟩
  have := congrArg (List.take m) h3
  rwa [List.take_take, List.take_take, Nat.min_eq_left hm] at this
theorem Agr.byte {s t : ByteArray} {n i : Nat} (h : Agr s t n) (hi : i < n) : byteAt s i = byteAt t i := by
  obtain ⟨h1, h2, h3⟩ := h
  have : (s.data.toList.take n)[i]? = (t.data.toList.take n)[i]? := by rw [h3]
  rw [List.getElem?_take_of_lt hi, List.getElem?_take_of_lt hi] at this
  unfold byteAt
  rw [List.getD_eq_getElem?_getD, List.getD_eq_getElem?_getD, this]
/-- How many bytes a reader has looked at. -/
def reach (r : Nat × Int) : Nat := if r.2 = 4 then r.1 + 1 else r.1
theorem reach_0 (p : Nat) : reach (p, 0) = p := by simp [reach]
theorem reach_3 (p : Nat) : reach (p, 3) = p := by simp [reach]
theorem reach_4 (p : Nat) : reach (p, 4) = p + 1 := by simp [reach]

structure Loc {α : Type} (s : ByteArray) (p : Nat) (R : ByteArray → α × Nat × Int) : Prop where
  at0 : (R s).2.2 = 0 → p ≤ (R s).2.1 ∧ (R s).2.1 ≤ s.size
  at3 : (R s).2.2 = 3 → (R s).2.1 = s.size
  at4 : (R s).2.2 = 4 → p ≤ (R s).2.1 + 1 ∧ (R s).2.1 < s.size
  err : (R s).2.2 = 0 ∨ (R s).2.2 = 3 ∨ (R s).2.2 = 4
  same : ∀ t, Agr s t (reach (R s).2) → (R s).2.2 ≠ 3 → (R t).2 = (R s).2 ∧ ((R s).2.2 = 0 → R t = R s)
  cut : ∀ t, Agr s t t.size → p ≤ t.size → t.size < reach (R s).2 → (R t).2 = (t.size, 3)

/-- One reader behind another. -/
def bnd {α β : Type} (R : ByteArray → α × Nat × Int) (Q : α → ByteArray → Nat → Int → β × Nat × Int) (t : ByteArray) : β × Nat × Int := Q (R t).1 t (R t).2.1 (R t).2.2
theorem Loc.bind {α β : Type} {s : ByteArray} {p : Nat} (hp : p ≤ s.size) {R : ByteArray → α × Nat × Int} {Q : α → ByteArray → Nat → Int → β × Nat × Int}
    (h : Loc s p R) (hq : ∀ v q, R s = (v, q, 0) → p ≤ q → q ≤ s.size → Loc s q (fun t => Q v t q 0)) (he : ∀ v t q e, e ≠ 0 → (Q v t q e).2 = (q, e)) :
    Loc s p (bnd R Q) := by
  obtain ⟨v, q, e, hr⟩ : ∃ v q e, R s = (v, q, e) := ⟨_, _, _, rfl⟩
  obtain ⟨a0, a3, a4, ae, aS, ac⟩ := h
  rw [hr] at a0 a3 a4 ae aS ac
  dsimp only at a0 a3 a4 ae aS ac
  by_cases h0 : e = 0
  · subst h0
    obtain ⟨a1, a2⟩ := a0 rfl
    obtain ⟨b0, b3, b4, be, bs, bc⟩ := hq v q hr a1 a2
    have hreach : q ≤ reach (Q v s q 0).2 := by
      unfold reach
      rcases be with h | h | h
      · rw [h, if_neg (by decide)]; exact (b0 h).1
      · rw [h, if_neg (by decide), b3 h]; exact a2
      · rw [h, if_pos rfl]; exact (b4 h).1
    have e1 : bnd R Q s = Q v s q 0 := by show Q (R s).1 s (R s).2.1 (R s).2.2 = _; rw [hr]
    have hs : ∀ t, Agr s t q → bnd R Q t = Q v t q 0 := by
      intro t ht
      have := (aS t (by rw [reach_0]; exact ht) (by decide)).2 rfl
      show Q (R t).1 t (R t).2.1 (R t).2.2 = _
      rw [this]
    constructor
    · rw [e1]; intro h; have := b0 h; exact ⟨by omega, this.2⟩
    · rw [e1]; exact b3
    · rw [e1]; intro h; have := b4 h; exact ⟨by omega, this.2⟩
    · rw [e1]; exact be
    · rw [e1]
      intro t ht h3
      rw [hs t (ht.mono hreach)]
      exact bs t ht h3
    · rw [e1]
      intro t ht hpt hl
      by_cases hqt : q ≤ t.size
      · rw [hs t (ht.mono hqt)]
        exact bc t ht hqt hl
      · have := ac t ht hpt (by rw [reach_0]; omega)
        show (Q (R t).1 t (R t).2.1 (R t).2.2).2 = _
        rw [he _ _ _ _ (by rw [this]; show (3 : Int) ≠ 0; decide)]
        exact this
  · have e1 : (bnd R Q s).2 = (q, e) := by show (Q (R s).1 s (R s).2.1 (R s).2.2).2 = _; rw [hr]; exact he _ _ _ _ h0
    constructor
    · rw [e1]; intro h; exact absurd h h0
    · rw [e1]; exact a3
    · rw [e1]; exact a4
    · rw [e1]; exact ae
    · rw [e1]
      intro t ht h3
      have := (aS t ht h3).1
      refine ⟨?_, fun h => absurd h h0⟩
      show (Q (R t).1 t (R t).2.1 (R t).2.2).2 = _
      rw [he _ _ _ _ (by rw [this]; exact h0)]
      exact this
    · rw [e1]
      intro t ht hpt hl
      have := ac t ht hpt hl
      show (Q (R t).1 t (R t).2.1 (R t).2.2).2 = _
      rw [he _ _ _ _ (by rw [this]; show (3 : Int) ≠ 0; decide)]
      exact this

theorem Loc.ret {α : Type} {s : ByteArray} {p : Nat} (hp : p ≤ s.size) (x : α) : Loc s p (fun _ => (x, p, 0)) := by
  constructor
  · intro _; exact ⟨Nat.le_refl _, hp⟩
  · intro h; cases h
  · intro h; cases h
  · exact .inl rfl
  · intro t _ _; exact ⟨rfl, fun _ => rfl⟩
  · intro t _ h1 h2; rw [reach_0] at h2; omega

theorem nx_loc (s : ByteArray) (is : Int → Bool) (p : Nat) (hp : p ≤ s.size) : Loc s p (fun t => nx t is p 0) := by
  have e0 : ∀ t : ByteArray, nx t is p 0 = if p < t.size then (if is (byteAt t p) then (byteAt t p, p + 1, 0) else (0, p, 4)) else (0, p, 3) := fun t => by unfold nx; rw [if_neg (by decide)]
  by_cases h : p < s.size
  · by_cases h1 : is (byteAt s p) = true
    · have e : nx s is p 0 = (byteAt s p, p + 1, 0) := by rw [e0, if_pos h, if_pos h1]
      constructor
      · rw [e]; intro _; exact ⟨Nat.le_succ _, h⟩
      · rw [e]; intro h; cases h
      · rw [e]; intro h; cases h
      · rw [e]; exact .inl rfl
      · rw [e]
        intro t ht _
        have hr := reach_0 (p + 1)
        rw [hr] at ht
        have hb := ht.byte (i := p) (by omega)
        have e2 : nx t is p 0 = (byteAt s p, p + 1, 0) := by rw [e0, if_pos (by have := ht.2.1; omega), ← hb, if_pos h1]
        rw [e2]; exact ⟨rfl, fun _ => rfl⟩
      · rw [e]
        intro t ht h2 h3
        have hr := reach_0 (p + 1)
        rw [hr] at h3
        have : t.size = p := by omega
        rw [e0, if_neg (by omega), this]
    · have e : nx s is p 0 = (0, p, 4) := by rw [e0, if_pos h, if_neg h1]
      have hr := reach_4 p
      constructor
      · rw [e]; intro h; cases h
      · rw [e]; intro h; cases h
      · rw [e]; intro _; exact ⟨Nat.le_succ _, h⟩
      · rw [e]; exact .inr (.inr rfl)
      · rw [e]
        intro t ht _
        rw [hr] at ht
        have hb := ht.byte (i := p) (by omega)
        have e2 : nx t is p 0 = (0, p, 4) := by rw [e0, if_pos (by have := ht.2.1; omega), ← hb, if_neg h1]
        rw [e2]; exact ⟨rfl, fun _ => rfl⟩
      · rw [e]
        intro t ht h2 h3
        rw [hr] at h3
        have : t.size = p := by omega
        rw [e0, if_neg (by omega), this]
  · have e : nx s is p 0 = (0, p, 3) := by rw [e0, if_neg h]
    have hr := reach_3 p
    constructor
    · rw [e]; intro h; cases h
    · rw [e]; intro _; show p = s.size; omega
    · rw [e]; intro h; cases h
    · rw [e]; exact .inr (.inl rfl)
    · rw [e]; intro t _ h; exact absurd rfl h
    · rw [e]
      intro t ht h2 h3
      rw [hr] at h3
      omega
theorem nx_pass (s : ByteArray) (is : Int → Bool) (p : Nat) {e : Int} (he : e ≠ 0) : nx s is p e = (0, p, e) := by unfold nx; rw [if_pos he]
theorem unitL_pass (s : ByteArray) (low : Bool) (k : Nat) : ∀ (i u : Int) (p : Nat) {e : Int}, e ≠ 0 → (unitL s low k i u p e).2 = (p, e) := by
  induction k with
  | zero => intro i u p e h; rfl
  | succ k ih =>
    intro i u p e h
    simp only [unitL]
    rw [nx_pass s _ p h]
    exact ih _ _ _ h
theorem unitL_loc (s : ByteArray) (low : Bool) (k : Nat) : ∀ (i u : Int) (p : Nat), p ≤ s.size → Loc s p (fun t => unitL t low k i u p 0) := by
  induction k with
  | zero => intro i u p hp; exact Loc.ret hp u
  | succ k ih =>
    intro i u p hp
    exact Loc.bind (Q := fun v t q e => unitL t low k (i + 1) (u * 16 + max (dig v) 0) q e) hp (nx_loc s (unitIs low i u) p hp) (fun v q _ _ hq => ih _ _ q hq) (fun v t q e he => unitL_pass t low k _ _ q he)
theorem escF_loc (s : ByteArray) (p : Nat) (hp : p ≤ s.size) : Loc s p (fun t => escF t p 0) := by
  refine Loc.bind (Q := fun v t q e => if v ≠ 117 then ([unl letterPairs v], q, e) else
    let a := unitF t false q e
    if a.1 / 1024 = 54 then
      let b := nx t (fun c => c == 92) a.2.1 a.2.2
      let c := nx t (fun c => c == 117) b.2.1 b.2.2
      let d := unitF t true c.2.1 c.2.2
      (encL (65536 + a.1 % 1024 * 1024 + d.1 % 1024), d.2.1, d.2.2)
    else (encL a.1, a.2.1, a.2.2)) hp (nx_loc s escIs p hp) (fun v q _ _ hq => ?_) (fun v t q e he => ?_)
  · by_cases hv : v ≠ 117
    · simp only [if_pos hv]; exact Loc.ret hq _
    · simp only [if_neg hv]
      refine Loc.bind (Q := fun u t q e => if u / 1024 = 54 then
          let b := nx t (fun c => c == 92) q e
          let c := nx t (fun c => c == 117) b.2.1 b.2.2
          let d := unitF t true c.2.1 c.2.2
          (encL (65536 + u % 1024 * 1024 + d.1 % 1024), d.2.1, d.2.2)
        else (encL u, q, e)) hq (unitL_loc s false 4 0 0 q hq) (fun u q _ _ hq => ?_) (fun u t q e he => ?_)
      · by_cases hu : u / 1024 = 54
        · simp only [if_pos hu]
          refine Loc.bind (Q := fun _ t q e =>
            let c := nx t (fun c => c == 117) q e
            let d := unitF t true c.2.1 c.2.2
            (encL (65536 + u % 1024 * 1024 + d.1 % 1024), d.2.1, d.2.2)) hq (nx_loc s (fun c => c == 92) q hq) (fun _ q _ _ hq => ?_) (fun _ t q e he => ?_)
          · refine Loc.bind (Q := fun _ t q e =>
              let d := unitF t true q e
              (encL (65536 + u % 1024 * 1024 + d.1 % 1024), d.2.1, d.2.2)) hq (nx_loc s (fun c => c == 117) q hq) (fun _ q _ _ hq => ?_) (fun _ t q e he => ?_)
            · refine Loc.bind (Q := fun d t q e => (encL (65536 + u % 1024 * 1024 + d % 1024), q, e)) hq (unitL_loc s true 4 0 0 q hq) (fun d q _ _ hq => ?_) (fun d t q e he => rfl)
              exact Loc.ret hq _
            · exact unitL_pass t true 4 0 0 q he
          · dsimp only
            rw [nx_pass t _ q he]
            exact unitL_pass t true 4 0 0 q he
        · simp only [if_neg hu]; exact Loc.ret hq _
      · by_cases hu : u / 1024 = 54
        · simp only [if_pos hu]
          rw [nx_pass t _ q he, nx_pass t _ q he]
          exact unitL_pass t true 4 0 0 q he
        · simp only [if_neg hu]
  · by_cases hv : v ≠ 117
    · simp only [if_pos hv]
    · simp only [if_neg hv]
      have h1 := unitL_pass t false 4 0 0 q he
      have h2 : (unitF t false q e).2 = (q, e) := h1
      rw [h2]
      by_cases hu : (unitF t false q e).1 / 1024 = 54
      · simp only [if_pos hu]
        rw [nx_pass t _ q he, nx_pass t _ q he]
        exact unitL_pass t true 4 0 0 q he
      · simp only [if_neg hu]
end Go.Proofs.Ytlbokaekhjjabaa

/-
  Scan as a reader: it looks at the bytes up to its place alone; a text that is cut is short. Without Go.
-/
namespace Go.Proofs.Ytlbokaekhjjabaa
open Go.RowKit
set_option linter.unusedVariables false

/-- Any two numbers of rounds that suffice tell the same. -/
theorem scn_fuel (s : ByteArray) (k : Nat) : ∀ (k' p : Nat) (e : Int) (out : List Int), left s p e < k → left s p e < k' → p ≤ s.size → scn s k p e out = scn s k' p e out := by
  induction k with
  | zero => intro k' p e out h; omega
  | succ k ih =>
    intro k' p e out hk hk' hp
    cases k' with
    | zero => omega
    | succ k' =>
      simp only [scn]
      by_cases h0 : e ≠ 0
      · rw [if_pos h0, if_pos h0]
      rw [if_neg h0, if_neg h0]
      have h0' : e = 0 := by omega
      subst h0'
      have a1 := nx_at s ge32 p 0 hp
      by_cases h1 : (nx s ge32 p 0).2.2 ≠ 0
      · rw [if_pos h1, if_pos h1]
      rw [if_neg h1, if_neg h1]
      have hn := nx_ok (show (nx s ge32 p 0).2.2 = 0 by omega)
      rw [hn.2.2.2] at a1 ⊢
      dsimp only at a1 ⊢
      unfold left at hk hk'
      rw [if_pos rfl] at hk hk'
      by_cases h2 : byteAt s p = 34
      · rw [if_pos h2, if_pos h2]
      rw [if_neg h2, if_neg h2]
      by_cases h3 : byteAt s p = 92
      · rw [if_pos h3, if_pos h3]
        have b1 := escF_ok s (p + 1) 0 a1
        have hl : left s (escF s (p + 1) 0).2.1 (escF s (p + 1) 0).2.2 < k ∧ left s (escF s (p + 1) 0).2.1 (escF s (p + 1) 0).2.2 < k' := by
          unfold left; split
          · rename_i h; have := b1.2.2.2 h; omega
          · omega
        exact ih _ _ _ _ hl.1 hl.2 b1.2.1
      rw [if_neg h3, if_neg h3]
      have c1 := plainN_ok s p hn.2.1
      have hl : left s (p + (plainN s p).1) (plainN s p).2 < k ∧ left s (p + (plainN s p).1) (plainN s p).2 < k' := by
        unfold left; split
        · rename_i h; have := c1.2.1 h; omega
        · omega
      exact ih _ _ _ _ hl.1 hl.2 c1.1

/-- The rest of Scan from a place on. -/
def scnF (s : ByteArray) (p : Nat) (e : Int) (out : List Int) : List Int × Nat × Int := scn s (2 * s.size + 2) p e out
theorem left_lt (s : ByteArray) (p : Nat) (e : Int) : left s p e < 2 * s.size + 2 := by unfold left; split <;> omega
theorem scnF_pass (s : ByteArray) (p : Nat) {e : Int} (out : List Int) (he : e ≠ 0) : scnF s p e out = ([], p, e) := by
  unfold scnF
  simp only [scn]
  rw [if_pos he]
/-- What stands behind a byte that next told. -/
def behind (p : Nat) (out : List Int) (c : Int) (s : ByteArray) (q : Nat) (e : Int) : List Int × Nat × Int :=
  if e ≠ 0 then ([], q, e) else if c = 34 then (out, q, 0)
  else if c = 92 then scnF s (escF s q 0).2.1 (escF s q 0).2.2 (out ++ (escF s q 0).1)
  else scnF s (p + (plainN s p).1) (plainN s p).2 (out ++ bytesOf s p (plainN s p).1)
theorem scnF_step (s : ByteArray) (p : Nat) (out : List Int) : scnF s p 0 out = behind p out (nx s ge32 p 0).1 s (nx s ge32 p 0).2.1 (nx s ge32 p 0).2.2 := by
  by_cases hp : p ≤ s.size
  · have e1 : scnF s p 0 out = scn s (2 * s.size + 3) p 0 out := scn_fuel s _ _ p 0 out (left_lt s p 0) (Nat.lt_succ_of_lt (left_lt s p 0)) hp
    rw [e1]
    unfold behind
    simp only [scn]
    rw [if_neg (by decide)]
    rfl
  · have e : nx s ge32 p 0 = (0, p, 3) := by unfold nx; rw [if_neg (by decide), if_neg (by omega)]
    unfold scnF behind
    simp only [scn]
    rw [e, if_neg (by decide), if_pos (by show (3 : Int) ≠ 0; decide), if_pos (by show (3 : Int) ≠ 0; decide)]

theorem enc_ptL {l : List UInt8} (h : (ptL l).2 ≠ 0) : ∃ x t, l = x ++ t ∧ (ptL l).2 = x.length ∧ 0 < x.length ∧ (encL (ptL l).1).map byteOf = x := by
  rcases enc_pt l with h1 | h1
  · rw [h1] at h; exact absurd rfl h
  · exact h1
theorem ptL_app {x : List UInt8} {c : Int} (hx : (encL c).map byteOf = x) (h0 : 0 < x.length) (t : List UInt8) : ptL (x ++ t) = (c, (x.length : Int)) := by
  have hn : encL c ≠ [] := by intro h; rw [h] at hx; subst hx; simp at h0
  rw [← hx, pt_enc c t hn, List.length_map]

/-- One byte more, behind a first one. -/
theorem run_more {n k m : Int} {t : List UInt8} {st : St} (h1 : runL t (n, k, m) = some st) (h2 : st.1 ≤ 0) (hn : 0 < n) :
    ∃ d t', t = d :: t' ∧ ¬ ((d.toNat : Int) < k ∨ (d.toNat : Int) > m) ∧ runL t' (n - 1, 128, 191) = some st := by
  cases t with
  | nil => cases h1; exact absurd h2 (by dsimp only; omega)
  | cons d t' =>
    simp only [runL] at h1
    rw [stp_in hn] at h1
    by_cases hd : (d.toNat : Int) < k ∨ (d.toNat : Int) > m
    · rw [if_pos hd] at h1; cases h1
    · rw [if_neg hd] at h1; exact ⟨d, t', rfl, hd, h1⟩
/-- A text that is right and not empty begins with a code point. -/
theorem whole_pt {l : List UInt8} (h : Whole l) (hl : l ≠ []) : (ptL l).2 ≠ 0 := by
  obtain ⟨st, h1, h2⟩ := h
  cases l with
  | nil => exact absurd rfl hl
  | cons c t =>
    rcases row_cases c with h | ⟨_, h⟩ | ⟨_, h⟩ | ⟨q1, q2, l, m, _, h⟩ | ⟨q1, q2, l, m, _, h⟩
    · simp only [runL] at h1
      have : stp st0 c.toNat (-1) = none := by unfold stp; rw [if_neg (by decide), h, if_pos (.inl rfl)]
      rw [this] at h1; cases h1
    · rw [ptL_1 _ _ _ _ _ _ h]; dsimp only; omega
    · rw [run_first h (by decide)] at h1
      obtain ⟨d, t', rfl, hd, h1⟩ := run_more h1 h2 (by decide)
      rw [ptL_2 _ _ _ _ _ _ _ h, if_neg hd]; dsimp only; omega
    · rw [run_first h (by decide)] at h1
      obtain ⟨d, t', rfl, hd, h1⟩ := run_more h1 h2 (by decide)
      obtain ⟨d', t', rfl, hd', h1⟩ := run_more h1 h2 (by decide)
      rw [ptL_3 _ _ _ _ _ _ _ _ h, if_neg hd, if_neg hd']; dsimp only; omega
    · rw [run_first h (by decide)] at h1
      obtain ⟨d, t', rfl, hd, h1⟩ := run_more h1 h2 (by decide)
      obtain ⟨d', t', rfl, hd', h1⟩ := run_more h1 h2 (by decide)
      obtain ⟨d'', t', rfl, hd'', h1⟩ := run_more h1 h2 (by decide)
      rw [ptL_4 _ _ _ _ _ _ _ _ _ h, if_neg hd, if_neg hd', if_neg hd'']; dsimp only; omega
theorem pt_more {a : List UInt8} (h : (ptL a).2 ≠ 0) (r : List UInt8) : (ptL (a ++ r)).2 ≠ 0 := by
  obtain ⟨x, t, h1, h2, h3, h4⟩ := enc_ptL h
  rw [h1, List.append_assoc, ptL_app h4 h3]
  dsimp only; omega

/-- A plain piece, over a list. -/
def plL (l : List UInt8) : Nat × Int := if (ptL l).2 = 0 then ((chkL l st0 0).1.toNat, (chkL l st0 0).2) else ((ptL l).2.toNat, 0)
theorem plL_A {x : List UInt8} {c : Int} (hx : (encL c).map byteOf = x) (h0 : 0 < x.length) (r : List UInt8) : plL (x ++ r) = (x.length, 0) := by
  unfold plL
  rw [ptL_app hx h0, if_neg (by dsimp only; omega)]
  rfl
theorem plL_B {a r : List UInt8} {c : UInt8} {st : St} (h : (ptL a).2 = 0) (h1 : runL a st0 = some st) (h2 : stp st c.toNat (-1) = none) : plL (a ++ c :: r) = (a.length, 4) := by
  have hz : (ptL (a ++ c :: r)).2 = 0 := by
    refine Classical.byContradiction fun hn => ?_
    obtain ⟨x, t, e1, e2, e3, e4⟩ := enc_ptL hn
    have hw : Whole x := by rw [← e4]; exact whole_enc _
    rcases List.append_eq_append_iff.mp e1 with ⟨a', rfl, ha⟩ | ⟨c', rfl, hc⟩
    · cases a' with
      | nil =>
        rw [List.append_nil] at e3 e4
        have := ptL_app e4 e3 []
        rw [List.append_nil] at this
        rw [this] at h
        dsimp only at h; omega
      | cons d z =>
        rw [List.cons_append] at ha
        obtain ⟨rfl, _⟩ := List.cons.inj ha
        obtain ⟨st', r1, r2⟩ := hw
        rw [runL_append, h1] at r1
        simp only [Option.bind_some, runL] at r1
        rw [h2] at r1
        cases r1
    · have := ptL_app e4 e3 c'
      rw [this] at h
      dsimp only at h; omega
  unfold plL
  rw [if_pos hz, chkL_err 0 h1 h2]
  simp
theorem plL_C {l : List UInt8} {st : St} (h : (ptL l).2 = 0) (h1 : runL l st0 = some st) (h2 : 0 < st.1) : plL l = (l.length, 3) := by
  unfold plL
  rw [if_pos h, chkL_run 0 h1, if_pos (by omega)]
  simp
theorem plL_cases {l : List UInt8} (hl : l ≠ []) : (∃ x r c, l = x ++ r ∧ (encL c).map byteOf = x ∧ 0 < x.length) ∨
    (∃ a c r st, l = a ++ c :: r ∧ (ptL a).2 = 0 ∧ runL a st0 = some st ∧ stp st c.toNat (-1) = none) ∨ (∃ st, (ptL l).2 = 0 ∧ runL l st0 = some st ∧ 0 < st.1) := by
  by_cases h : (ptL l).2 = 0
  · right
    rcases run_or l st0 with ⟨st, h1⟩ | ⟨a, c, b, st, rfl, h1, h2⟩
    · right
      refine ⟨st, h, h1, Classical.byContradiction fun hn => ?_⟩
      exact whole_pt ⟨st, h1, by omega⟩ hl h
    · left
      exact ⟨a, c, b, st, rfl, Classical.byContradiction fun hn => pt_more hn _ h, h1, h2⟩
  · left
    obtain ⟨x, t, h1, h2, h3, h4⟩ := enc_ptL h
    exact ⟨x, t, _, h1, h4, h3⟩
theorem run_pre {a b : List UInt8} {st : St} (h : runL (a ++ b) st0 = some st) : ∃ st', runL a st0 = some st' := by
  rw [runL_append] at h
  cases h1 : runL a st0 with
  | none => rw [h1] at h; cases h
  | some st' => exact ⟨st', rfl⟩
theorem plL_short {l r : List UInt8} {st : St} (hl : l ≠ []) (h : (ptL l).2 = 0) (h1 : runL l st0 = some st) : plL l = (l.length, 3) :=
  plL_C h h1 (Classical.byContradiction fun hn => whole_pt ⟨st, h1, by omega⟩ hl h)
/-- A piece that is cut is short. -/
theorem plL_cut {l l' r : List UInt8} (e : l = l' ++ r) (hl : l' ≠ []) (h : l'.length < reach (plL l)) : plL l' = (l'.length, 3) := by
  have hl0 : l ≠ [] := by rw [e]; simp [hl]
  have pre : ∀ a r', a = l' ++ r' → (ptL a).2 = 0 → (∃ st, runL a st0 = some st) → plL l' = (l'.length, 3) := by
    intro a r' ha h0 ⟨st, hst⟩
    rw [ha] at h0 hst
    obtain ⟨st', h1⟩ := run_pre hst
    exact plL_short (r := []) hl (Classical.byContradiction fun hn => pt_more hn _ h0) h1
  rcases plL_cases hl0 with ⟨x, r', c, h1, h2, h3⟩ | ⟨a, c, r', st, h1, h2, h3, h4⟩ | ⟨st, h1, h2, h3⟩
  · rw [h1, plL_A h2 h3] at h
    have hlx : l'.length < x.length := h
    have hx : ∃ x', x = l' ++ x' := by
      rcases List.append_eq_append_iff.mp (h1.symm.trans e) with ⟨a', ha, _⟩ | ⟨c', hc, _⟩
      · have := congrArg List.length ha; rw [List.length_append] at this; omega
      · exact ⟨c', hc⟩
    obtain ⟨x', hx⟩ := hx
    have hw : Whole x := by rw [← h2]; exact whole_enc _
    obtain ⟨st, r1, r2⟩ := hw
    rw [hx] at r1
    obtain ⟨st', r3⟩ := run_pre r1
    refine plL_short (r := []) hl (Classical.byContradiction fun hn => ?_) r3
    obtain ⟨y, t, e1, e2, e3, e4⟩ := enc_ptL hn
    have p1 := ptL_app h2 h3 r'
    have p2 := ptL_app e4 e3 (t ++ r)
    rw [← List.append_assoc, ← e1, ← e, h1, p1] at p2
    have := congrArg Prod.snd p2
    have := congrArg List.length e1
    rw [List.length_append] at this
    dsimp only at *; omega
  · rw [h1, plL_B h2 h3 h4] at h
    have hla : l'.length < a.length + 1 := h
    rcases List.append_eq_append_iff.mp (h1.symm.trans e) with ⟨a', ha, _⟩ | ⟨c', hc, _⟩
    · have := congrArg List.length ha
      rw [List.length_append] at this
      have : a' = [] := List.eq_nil_of_length_eq_zero (by omega)
      rw [this, List.append_nil] at ha
      exact pre a [] (by rw [ha, List.append_nil]) h2 ⟨st, h3⟩
    · exact pre a c' hc h2 ⟨st, h3⟩
  · exact pre l r e h1 ⟨st, h2⟩
/-- What a piece looks at. -/
theorem plL_same {l m : List UInt8} (hl : l ≠ []) (h3 : (plL l).2 ≠ 3) (h : l.take (reach (plL l)) = m.take (reach (plL l))) : plL m = plL l := by
  rcases plL_cases hl with ⟨x, r', c, h1, h2, h4⟩ | ⟨a, c, r', st, h1, h2, h5, h4⟩ | ⟨st, h1, h2, h5⟩
  · have e := plL_A h2 h4 r'
    rw [← h1] at e
    rw [e] at h ⊢
    have hr := reach_0 x.length
    rw [hr, h1, List.take_left] at h
    have : m = x ++ m.drop x.length := by
      have := List.take_append_drop x.length m
      rw [← h] at this
      exact this.symm
    rw [this, plL_A h2 h4]
  · have e := plL_B (r := r') h2 h5 h4
    rw [← h1] at e
    rw [e] at h ⊢
    have hr := reach_4 a.length
    have ha : l.take (a.length + 1) = a ++ [c] := by
      rw [h1, show a ++ c :: r' = (a ++ [c]) ++ r' by simp, show a.length + 1 = (a ++ [c]).length by simp, List.take_left]
    rw [hr, ha] at h
    have : m = a ++ c :: m.drop (a.length + 1) := by
      have := List.take_append_drop (a.length + 1) m
      rw [← h] at this
      rw [← this]; simp
    rw [this, plL_B h2 h5 h4]
  · exact absurd (congrArg Prod.snd (plL_C h1 h2 h5)) h3

theorem plainN_plL (s : ByteArray) (p : Nat) : plainN s p = plL (s.data.toList.drop p) := by
  rw [← sub_data]; rfl
theorem bytesOf_eq (s : ByteArray) (p n : Nat) : bytesOf s p n = ((s.data.toList.drop p).take n).map fun b => (b.toNat : Int) := by
  unfold bytesOf
  congr 1
  simp only [ByteArray.data_extract, Array.toList_extract]
  simp [List.extract]
theorem data_len (s : ByteArray) : s.data.toList.length = s.size := by rw [Array.length_toList]; rfl
theorem reach_add (p n : Nat) (e : Int) : reach (p + n, e) = p + reach (n, e) := by
  unfold reach; dsimp only; split <;> omega
theorem plain_loc (s : ByteArray) (p : Nat) (hp : p < s.size) : Loc s (p + 1) (fun t => (bytesOf t p (plainN t p).1, p + (plainN t p).1, (plainN t p).2)) := by
  have hl := data_len s
  have hd : (s.data.toList.drop p).length = s.size - p := by rw [List.length_drop, hl]
  have hne : s.data.toList.drop p ≠ [] := by intro h; rw [h] at hd; simp at hd; omega
  have ok := plainN_ok s p hp
  have h3 : (plainN s p).2 = 3 → p + (plainN s p).1 = s.size := by
    rw [plainN_plL]
    rcases plL_cases hne with ⟨x, r', c, h1, h2, h4⟩ | ⟨a, c, r', st, h1, h2, h5, h4⟩ | ⟨st, h1, h2, h5⟩
    · rw [h1, plL_A h2 h4]; intro h; cases h
    · rw [h1, plL_B h2 h5 h4]; intro h; cases h
    · rw [plL_C h1 h2 h5, hd]; intro _; show p + (s.size - p) = s.size; omega
  have h4 : (plainN s p).2 = 4 → p + (plainN s p).1 < s.size := by
    rw [plainN_plL]
    rcases plL_cases hne with ⟨x, r', c, h1, h2, h4⟩ | ⟨a, c, r', st, h1, h2, h5, h4⟩ | ⟨st, h1, h2, h5⟩
    · rw [h1, plL_A h2 h4]; intro h; cases h
    · rw [h1, plL_B h2 h5 h4]; intro _
      rw [h1, List.length_append, List.length_cons] at hd
      show p + a.length < s.size
      omega
    · rw [plL_C h1 h2 h5]; intro h; cases h
  constructor
  · intro h; have := ok.2.1 h; dsimp only; omega
  · exact h3
  · intro h; have := h4 h; dsimp only; omega
  · exact ok.2.2
  · intro t ht he
    dsimp only at ht he ⊢
    rw [reach_add] at ht
    have e1 : plainN t p = plainN s p := by
      rw [plainN_plL, plainN_plL]
      rw [plainN_plL] at he ht
      refine plL_same hne he ?_
      have := congrArg (List.drop p) ht.2.2
      rwa [List.drop_take, List.drop_take, Nat.add_sub_cancel_left] at this
    rw [e1]
    refine ⟨rfl, fun h0 => ?_⟩
    have hn : reach ((plainN s p).1, (plainN s p).2) = (plainN s p).1 := by rw [h0, reach_0]
    rw [hn] at ht
    have e2 : bytesOf t p (plainN s p).1 = bytesOf s p (plainN s p).1 := by
      rw [bytesOf_eq, bytesOf_eq]
      have := congrArg (List.drop p) ht.2.2
      rw [List.drop_take, List.drop_take, Nat.add_sub_cancel_left] at this
      rw [this]
    rw [e2]
  · intro t ht h1 h2
    dsimp only at h2 ⊢
    rw [reach_add, plainN_plL] at h2
    rw [plainN_plL]
    have hlt := data_len t
    have e1 : s.data.toList.drop p = t.data.toList.drop p ++ s.data.toList.drop t.size := by
      have h5 := ht.2.2
      rw [List.take_of_length_le (by omega : t.data.toList.length ≤ t.size)] at h5
      have h6 := congrArg (List.drop p) (List.take_append_drop t.size s.data.toList)
      rw [h5, List.drop_append_of_le_length (by omega)] at h6
      exact h6.symm
    have hdt : (t.data.toList.drop p).length = t.size - p := by rw [List.length_drop, hlt]
    have e2 := plL_cut e1 (by intro h; rw [h] at hdt; simp at hdt; omega) (by rw [hdt]; show t.size - p < reach ((plL (List.drop p s.data.toList)).1, (plL (List.drop p s.data.toList)).2); omega)
    rw [e2, hdt]
    dsimp only
    congr 1
    omega
theorem scnF_loc (s : ByteArray) (m : Nat) : ∀ (p : Nat) (out : List Int), p ≤ s.size → s.size - p < m → Loc s p (fun t => scnF t p 0 out) := by
  induction m with
  | zero => intro p out _ h; omega
  | succ m ih =>
    intro p out hp hm
    have e : (fun t => scnF t p 0 out) = bnd (fun t => nx t ge32 p 0) (behind p out) := by
      funext t; exact scnF_step t p out
    rw [e]
    refine Loc.bind hp (nx_loc s ge32 p hp) (fun v q hv hpq hq => ?_) (fun v t q e he => ?_)
    · have hn := nx_ok (s := s) (is := ge32) (p := p) (e := 0) (by rw [hv])
      rw [hn.2.2.2] at hv
      obtain ⟨e1, e2⟩ := Prod.mk.inj hv
      obtain ⟨e3, _⟩ := Prod.mk.inj e2
      clear hv e2
      subst e1 e3
      have hb : ∀ t, behind p out (byteAt s p) t (p + 1) 0 = if byteAt s p = 34 then (out, p + 1, 0) else if byteAt s p = 92 then scnF t (escF t (p + 1) 0).2.1 (escF t (p + 1) 0).2.2 (out ++ (escF t (p + 1) 0).1)
        else scnF t (p + (plainN t p).1) (plainN t p).2 (out ++ bytesOf t p (plainN t p).1) := fun t => by unfold behind; rw [if_neg (by decide)]
      by_cases h1 : byteAt s p = 34
      · have : (fun t => behind p out (byteAt s p) t (p + 1) 0) = fun t => (out, p + 1, 0) := by funext t; rw [hb, if_pos h1]
        rw [this]
        exact Loc.ret hq _
      by_cases h2 : byteAt s p = 92
      · have : (fun t => behind p out (byteAt s p) t (p + 1) 0) = bnd (fun t => escF t (p + 1) 0) (fun xs t q e => scnF t q e (out ++ xs)) := by funext t; rw [hb, if_neg h1, if_pos h2]; rfl
        rw [this]
        refine Loc.bind hq (escF_loc s (p + 1) hq) (fun xs q2 _ h3 h4 => ih q2 _ h4 (by omega)) (fun xs t q2 e he => ?_)
        rw [scnF_pass t q2 _ he]
      · have : (fun t => behind p out (byteAt s p) t (p + 1) 0) = bnd (fun t => (bytesOf t p (plainN t p).1, p + (plainN t p).1, (plainN t p).2)) (fun xs t q e => scnF t q e (out ++ xs)) := by funext t; rw [hb, if_neg h1, if_neg h2]; rfl
        rw [this]
        refine Loc.bind hq (plain_loc s p hn.2.1) (fun xs q2 _ h3 h4 => ih q2 _ h4 (by omega)) (fun xs t q2 e he => ?_)
        rw [scnF_pass t q2 _ he]
    · unfold behind; rw [if_pos he]
theorem scanF_loc (s : ByteArray) : Loc s 0 scanF := by
  have e : scanF = bnd (fun t => nx t (fun c => c == 34) 0 0) (fun _ t q e => scnF t q e []) := by funext t; rfl
  rw [e]
  refine Loc.bind (Nat.zero_le _) (nx_loc s _ 0 (Nat.zero_le _)) (fun v q _ _ hq => scnF_loc s _ q [] hq (Nat.lt_succ_self _)) (fun v t q e he => ?_)
  rw [scnF_pass t q _ he]
end Go.Proofs.Ytlbokaekhjjabaa

/-
  Of EscFirst, without Go: where a text errs, the first bytes up to there err whatever stands behind, and a text that is cut there is short.
-/
namespace Go.Proofs.Ytlbokaekhjjabaa.Pure
open Go.RowKit Go.Proofs.Ytlbokaekhjjabaa Go.Proofs.Ytlbokaekhjjabaa.S Go.Proofs.YtlbokaekhjjabaaW.PrintWords Go.Proofs.YtlbokaekhjjabaaW.PrintLast
set_option linter.unusedVariables false

theorem ext_size (s : ByteArray) (n : Nat) (h : n ≤ s.size) : (s.extract 0 n).size = n := by rw [ByteArray.size_extract]; omega
theorem ext_data (s : ByteArray) (n : Nat) : (s.extract 0 n).data.toList = s.data.toList.take n := by
  simp only [ByteArray.data_extract, Array.toList_extract]
  simp [List.extract]
theorem app_data (s t : ByteArray) : (s ++ t).data.toList = s.data.toList ++ t.data.toList := by simp
theorem agr_ext (s : ByteArray) (n : Nat) (h : n ≤ s.size) : Agr s (s.extract 0 n) n := by
  refine ⟨h, by rw [ext_size s n h]; exact Nat.le_refl _, ?_⟩
  rw [ext_data, List.take_take, Nat.min_self]
theorem agr_app (s t : ByteArray) (n : Nat) (h : n ≤ s.size) : Agr s (s.extract 0 n ++ t) n := by
  refine ⟨h, by rw [ByteArray.size_append, ext_size s n h]; omega, ?_⟩
  rw [app_data, ext_data]
  have : (s.data.toList.take n).length = n := by rw [List.length_take, data_len]; omega
  rw [List.take_append_of_le_length (by omega), List.take_take, Nat.min_self]

theorem EscFirst : glossatorlaw03_EscFirst.Pure := by
  intro s b hs hb
  refine ⟨1, ?_⟩
  have hL := scanF_loc s
  obtain ⟨xs, q, e, hr⟩ : ∃ xs q e, scanF s = (xs, q, e) := ⟨_, _, _, rfl⟩
  obtain ⟨a0, a3, a4, ae, aS, ac⟩ := hL
  rw [hr] at a0 a3 a4 ae aS ac
  dsimp only at a0 a3 a4 ae aS ac
  have hq : q ≤ s.size := by rcases ae with h | h | h; exact (a0 h).2; exact Nat.le_of_eq (a3 h); exact Nat.le_of_lt (a4 h).2
  unfold glossatorlaw03_EscFirst.f
  rw [scanS s (by omega) (by rw [hr]; show q ≤ _; omega), hr, Option.bind_some]
  dsimp only
  rcases ae with rfl | rfl | rfl
  · rw [if_neg (by decide), if_pos rfl, awakeS, Option.bind_some]
  · rw [if_neg (by decide), if_neg (by decide), if_pos rfl, if_pos (by rw [a3 rfl]), awakeS, Option.bind_some]
  · obtain ⟨h1, h2⟩ := a4 rfl
    have ew : wrap64 ((q : Int) + 1) = ((q + 1 : Nat) : Int) := by unfold wrap64; omega
    have et : (((q + 1 : Nat) : Int)).toNat = q + 1 := by omega
    have z1 := ext_size s (q + 1) (by omega)
    have z0 := ext_size s q (by omega)
    have r1 := aS _ (by rw [reach_4]; exact agr_app s b (q + 1) (by omega)) (by decide)
    have r0 := ac (s.extract 0 q) (by rw [z0]; exact agr_ext s q (by omega)) (by omega) (by rw [reach_4]; omega)
    rw [z0] at r0
    have zz : (s.extract 0 (q + 1) ++ b).size = q + 1 + b.size := by rw [ByteArray.size_append, z1]
    rw [if_pos rfl, if_neg (by omega), decide_eq_false (by omega)]
    simp only [glossatorlaw03_EscFirst.j0]
    rw [if_neg (by decide), ew, et, if_pos (by omega), if_pos (by omega), if_pos (by omega)]
    rw [scanS _ (by omega) (by rw [r1.1]; show q ≤ _; omega), Option.bind_some, if_pos (by omega), if_pos (by omega), Int.toNat_natCast]
    rw [scanS _ (by omega) (by rw [r0]; show q ≤ _; omega), Option.bind_some]
    rw [r1.1, r0]
    rw [if_pos rfl, if_pos rfl, if_pos rfl]
    rfl
end Go.Proofs.Ytlbokaekhjjabaa.Pure

-- Written by a program of this session (joint.sh) out of the translation. Not trusted: Lean checks it.
namespace Go.Proofs.Ytlbokaekhjjabaa.escFirst
open Go.ChangeShapes Go.WideShapes Go.ChangeAt Go.RowKit
open Go.ChangeMaps (open_string shut_string)
set_option linter.unusedVariables false
theorem own : ownKnob Try.prog.godebug = none := by kernel_rfl
set_option maxRecDepth 100000 in
theorem lifted (os : Os) (started : os.Started) (H : Type) (enc : TypeId × Value → H) :
    ReturnsInHanded {} Try.checked os 15 .any (Rows.escFirstSpec.pre6 enc Try.prog Try.f15 Rows.escFirstRow.domain false) (Rows.escFirstSpec.post enc Try.prog Try.f15 false true false false) := by
  refine returnsInHanded_of_change_sized (C := Try.checked) own started (by kernel_rfl) Try.func15
    (ChangeSpec.witness6 (enc := enc) (C := Try.checked) false ⟨#[], #[.string ByteArray.empty, .string ByteArray.empty], []⟩ 8 (by kernel_rfl) (by kernel_rfl) (by kernel_rfl) (by kernel_rfl)) ?_
  intro W base args ds gs before hval0 hW hcnd hsz0 _
  have hsz : (DataW.weightsEach Try.prog (Try.f15.params.toList ++ Rows.escFirstSpec.plain.varTypes Try.prog) (ds ++ gs)).all (· ≤ reachBytes) = true := hsz0
  have hval : ∀ (j : Nat) t v, Try.f15.params[j]? = some t → args[j]? = some v → Value.okWide Try.prog W .any base t v := hval0
  have hW' := hW
  obtain ⟨p, q, hA0, hV, rfl, hfz, hnd⟩ := hW
  have hA : DataW.TrodAll enc Try.prog W 0 (fun _ => true) true Try.f15.params.toList args.toList ds p := hA0
  rw [Try.params15] at hA hval hsz
  obtain ⟨v0, vs0, d0, ds0, p0, q0, hargs, rfl, rfl, h0, r0⟩ := trodAll_cons hA
  obtain ⟨v1, vs1, d1, ds1, p1, q1, rfl, rfl, rfl, h1, r1⟩ := trodAll_cons r0
  obtain ⟨rfl, rfl, rfl⟩ := trodAll_nil r1
  obtain rfl : args = #[v0, v1] := by cases args; simp_all
  obtain ⟨rfl, rfl⟩ := trodVars_none hV
  obtain ⟨a0, rfl, rfl, rfl, y0⟩ := open_string Try.underlying9 (hval 0 9 v0 rfl rfl) h0
  have w0 : a0.size ≤ 140737488351232 := by
    have z := sized_string hsz (j := 0) (t := 9) rfl rfl
    rw [Array.length_toList] at z
    exact z
  obtain ⟨a1, rfl, rfl, rfl, y1⟩ := open_string Try.underlying9 (hval 1 9 v1 rfl rfl) h1
  have w1 : a1.size ≤ 140737488351232 := by
    have z := sized_string hsz (j := 1) (t := 9) rfl rfl
    rw [Array.length_toList] at z
    exact z
  clear hA0 hval0 hsz0 hsz
  refine (S.glossatorlaw03_EscFirst.walk Pure.EscFirst a0 a1 W w0 w1).mono fun e W' ⟨he, bel⟩ => ?_
  subst he
  exact ⟨_, rfl, _, _, _, [], _, [], hW', trodAll_mk1 (shut_bool Try.underlying4 _), (trodAll_cons_mk (shut_string Try.underlying9 y0) (trodAll_cons_mk (shut_string Try.underlying9 y1) trodAll_mk0)), rfl, bel.frame _, fun h => by cases h⟩
theorem over : Rows.escFirstRow.holds Try.pinned (OpenSpec.ofChange Rows.escFirstSpec) :=
  OpenClaim.holds_of_wide 15 Try.f15 rfl rfl rfl rfl rfl rfl rfl ⟨rfl, rfl, rfl, rfl, rfl⟩ rfl rfl rfl rfl rfl (by kernel_rfl) Try.func15 (by kernel_rfl)
    (of_decide_eq_true (by kernel_rfl)) (by unfold Func.isWrapper; first | (rw [if_pos (by decide +kernel)]; kernel_rfl) | (rw [if_neg (by decide +kernel)]; exact ⟨rfl, rfl⟩))
    (fun os started H enc _ => lifted os started H enc)
theorem proved : Rows.EscFirstSaid := over
#print axioms proved
end Go.Proofs.Ytlbokaekhjjabaa.escFirst
namespace Go.Proofs.Ytlbokaekhjjabaa
/-- The row, under a short name, for the claim. -/
theorem escFirst_holds : Rows.EscFirstSaid := escFirst.proved
end Go.Proofs.Ytlbokaekhjjabaa

-- Written by a program of this session (joint.sh) out of the translation. Not trusted: Lean checks it.
namespace Go.Proofs.Ytlbokaekhjjabaa.S
open Go.RowKit Go.Proofs.YtlbokaekhjjabaaW.PrintWords Go.Proofs.YtlbokaekhjjabaaW.PrintLast Go.Proofs.YtlbokaekhjjabaaW.PrintMore
attribute [local go_sem] max2_int min2_int max_two min_two max_three min_three max_four min_four   -- for this text's walks alone
set_option linter.unusedVariables false
set_option linter.unusedSimpArgs false

/-! ### glossatorref02_Point: function 27 -/
def glossatorref02_Point.f (a0 : ByteArray) : Option (Int × Int) := if a0.size ≤ 140737488351232 then some (pt a0) else none
theorem glossatorref02_Point.calls (a0 : ByteArray) (r1 r2 : Int) (w : World) (h : glossatorref02_Point.f a0 = some (r1, r2)) :
    Calls Try.prog 27 #[.string a0] w fun e w' => e = .returned (.tuple #[.int .i64 r1, .int .i64 r2]) ∧ Drawn0 w w' := by
  unfold glossatorref02_Point.f at h
  split at h
  · rename_i hs
    have h' := Option.some.inj h
    obtain ⟨k, hk⟩ := (Pure.refPoint_ev a0 hs).rounds
    exact U.glossatorref02_Point.calls k a0 r1 r2 w (by rw [← h']; exact hk)
  · cases h

end Go.Proofs.Ytlbokaekhjjabaa.S

-- Written by a program of this session (joint.sh) out of the translation. Not trusted: Lean checks it.
namespace Go.Proofs.Ytlbokaekhjjabaa.S
open Go.RowKit Go.Proofs.YtlbokaekhjjabaaW.PrintWords Go.Proofs.YtlbokaekhjjabaaW.PrintLast Go.Proofs.YtlbokaekhjjabaaW.PrintMore
attribute [local go_sem] max2_int min2_int max_two min_two max_three min_three max_four min_four   -- for this text's walks alone
set_option linter.unusedVariables false
set_option linter.unusedSimpArgs false

/-! ### glossatorref02_Check: function 33 -/
def glossatorref02_Check.f (a0 : ByteArray) : Option (Int × Int) := if a0.size ≤ 140737488351232 then some (chk a0) else none
theorem glossatorref02_Check.calls (a0 : ByteArray) (r1 r2 : Int) (w : World) (h : glossatorref02_Check.f a0 = some (r1, r2)) :
    Calls Try.prog 33 #[.string a0] w fun e w' => e = .returned (.tuple #[.int .i64 r1, .int .i64 r2]) ∧ Drawn0 w w' := by
  unfold glossatorref02_Check.f at h
  split at h
  · rename_i hs
    have h' := Option.some.inj h
    obtain ⟨k, hk⟩ := (Pure.refCheck_ev a0 hs).rounds
    exact U.glossatorref02_Check.calls k a0 r1 r2 w (by rw [← h']; exact hk)
  · cases h

end Go.Proofs.Ytlbokaekhjjabaa.S

-- Written by a program of this session (joint.sh) out of the translation. Not trusted: Lean checks it.
namespace Go.Proofs.Ytlbokaekhjjabaa.S
open Go.RowKit Go.Proofs.YtlbokaekhjjabaaW.PrintWords Go.Proofs.YtlbokaekhjjabaaW.PrintLast Go.Proofs.YtlbokaekhjjabaaW.PrintMore
attribute [local go_sem] max2_int min2_int max_two min_two max_three min_three max_four min_four   -- for this text's walks alone
set_option linter.unusedVariables false
set_option linter.unusedSimpArgs false

/-! ### glossatorref02_Encode: function 29 -/
def glossatorref02_Encode.f (a0 : Int) : Option (ByteArray) := some (enc a0)
theorem glossatorref02_Encode.calls (a0 : Int) (r : ByteArray) (w : World) (h : glossatorref02_Encode.f a0 = some r) :
    Calls Try.prog 29 #[.int .i64 a0] w fun e w' => e = .returned (.string r) ∧ Below w.heap.size w w' :=
  U.glossatorref02_Encode.calls 1 a0 r w (by rw [Pure.refEncode_f a0 0]; exact h)

end Go.Proofs.Ytlbokaekhjjabaa.S

-- Written by a program of this session (joint.sh) out of the translation. Not trusted: Lean checks it.
namespace Go.Proofs.Ytlbokaekhjjabaa.S
open Go.RowKit Go.Proofs.YtlbokaekhjjabaaW.PrintWords Go.Proofs.YtlbokaekhjjabaaW.PrintLast Go.Proofs.YtlbokaekhjjabaaW.PrintMore
attribute [local go_sem] max2_int min2_int max_two min_two max_three min_three max_four min_four   -- for this text's walks alone
set_option linter.unusedVariables false
set_option linter.unusedSimpArgs false

/-! ### glossatorref03_plain: function 72 -/
def glossatorref03_plain.j0 : Nat → Int → Int → Bool → Option (Int)
  | 0, _, _, _ => none
  | k + 1, x0, x3, x4 => if x4 = true then (some x0) else (if x3 = 98 then (some 8) else (if x3 = 102 then (some 12) else (if x3 = 110 then (some 10) else (if x3 = 114 then (some 13) else (if x3 = 116 then (some 9) else (some 0))))))
def glossatorref03_plain.f (k : Nat) (a0 : Int) : Option (Int) := if a0 = 34 then (glossatorref03_plain.j0 k a0 a0 (a0 == 34)) else (if a0 = 92 then (glossatorref03_plain.j0 k a0 a0 (a0 == 92)) else (glossatorref03_plain.j0 k a0 a0 (a0 == 47)))
theorem glossatorref03_plain.mono_l : ∀ k, (∀ y0 y1 y2, LeO (glossatorref03_plain.j0 k y0 y1 y2) (glossatorref03_plain.j0 (k + 1) y0 y1 y2))
  | 0 => fun _ _ _ r h => by simp [glossatorref03_plain.j0] at h
  | k + 1 => by
    have ih0 := glossatorref03_plain.mono_l k
    · intro y0 y1 y2
      unfold glossatorref03_plain.j0
      repeat' first
      | (with_reducible exact ih0 _ _ _)
      | (with_reducible exact LeO.refl _)
      | (with_reducible exact LeO.none _)
      | (with_reducible refine LeO.ite ?_ ?_)
      | (with_reducible refine LeO.bind ?_ (fun _ => ?_))
      | exact ih0 _ _ _
      | exact LeO.none _
      | refine LeO.ite ?_ ?_
      | refine LeO.bind ?_ (fun _ => ?_)
theorem glossatorref03_plain.mono : ∀ a0 k, LeO (glossatorref03_plain.f k a0) (glossatorref03_plain.f (k + 1) a0) := by
  intro a0 k
  have ih0 := glossatorref03_plain.mono_l k
  unfold glossatorref03_plain.f
  repeat' first
      | (with_reducible exact ih0 _ _ _)
      | (with_reducible exact LeO.refl _)
      | (with_reducible exact LeO.none _)
      | (with_reducible refine LeO.ite ?_ ?_)
      | (with_reducible refine LeO.bind ?_ (fun _ => ?_))
      | exact ih0 _ _ _
      | exact LeO.none _
      | refine LeO.ite ?_ ?_
      | refine LeO.bind ?_ (fun _ => ?_)
set_option maxHeartbeats 8000000 in
set_option maxRecDepth 100000 in
theorem glossatorref03_plain.calls (k : Nat) (a0 : Int) (r : Int) (w : World) (h : glossatorref03_plain.f k a0 = some r) :
    Calls Try.prog 72 #[.int .u8 a0] w fun e w' => e = .returned (.int .u8 r) ∧ Drawn0 w w' := by
  have H : (if a0 = 34 then (glossatorref03_plain.j0 k a0 a0 (a0 == 34)) else (if a0 = 92 then (glossatorref03_plain.j0 k a0 a0 (a0 == 92)) else (glossatorref03_plain.j0 k a0 a0 (a0 == 47)))) = some r := h
  clear h
  have HC2 := Aside0.mk H
  clear H
  go_enter Try.func72, Try.ntmps72
  go_upto_if 4 with (fail)
  go_cut [4] (fun v4 wc => ∃ (kq : Nat) (x4_1 : Bool), v4 = .bool x4_1 ∧ Aside0 (glossatorref03_plain.j0 kq a0 a0 x4_1 = some r) ∧ Aside0 (kq ≤ k) ∧ Drawn0 w wc)
  case first =>
    have H := HC2.out
    clear HC2
    by_cases c3 : a0 = 34
    · rw [if_pos c3] at H
      have c3b0 : (a0 == 34) = true := beq_iff_eq.mpr c3
      have c3b1 : (a0 != 34) = false := bne_eq_false_iff_eq.mpr c3
      clear c3
      (first | rw [c3b0] | (simp only [i64_w, i32_w]; rw [c3b0]) | skip)
      have H' := Aside0.mk H
      clear H
      go_wp2
      go_meet
      case rel => exact ⟨_, ((a0 == 34)), (by first | rfl | (simp; done) | (simp [*]; done)), H', ⟨by first | omega | exact Nat.le_refl _⟩, by repeat (first | exact Drawn0.refl _ | apply Drawn0.step)⟩
    · rw [if_neg c3] at H
      have c3b0 : (a0 == 34) = false := beq_eq_false_iff_ne.mpr c3
      have c3b1 : (a0 != 34) = true := bne_iff_ne.mpr c3
      (first | rw [c3b0] | (simp only [i64_w, i32_w]; rw [c3b0]) | skip)
      by_cases c4 : a0 = 92
      · rw [if_pos c4] at H
        have c4b0 : (a0 == 92) = true := beq_iff_eq.mpr c4
        have c4b1 : (a0 != 92) = false := bne_eq_false_iff_eq.mpr c4
        clear c4
        have H' := Aside0.mk H
        clear H
        go_wp2
        go_meet
        case rel => exact ⟨_, ((a0 == 92)), (by first | rfl | (simp; done) | (simp [*]; done)), H', ⟨by first | omega | exact Nat.le_refl _⟩, by repeat (first | exact Drawn0.refl _ | apply Drawn0.step)⟩
      · rw [if_neg c4] at H
        have c4b0 : (a0 == 92) = false := beq_eq_false_iff_ne.mpr c4
        have c4b1 : (a0 != 92) = true := bne_iff_ne.mpr c4
        have H' := Aside0.mk H
        clear H
        go_wp2
        go_meet
        case rel => exact ⟨_, ((a0 == 47)), (by first | rfl | (simp; done) | (simp [*]; done)), H', ⟨by first | omega | exact Nat.le_refl _⟩, by repeat (first | exact Drawn0.refl _ | apply Drawn0.step)⟩
  case rest =>
    clear HC2
    try clear p2
    try clear c3
    try clear c3b0
    try clear c3b1
    try clear c4
    try clear c4b0
    try clear c4b1
    obtain ⟨kq, x4_1, rfl, HA, HJ1, ⟨mc1, rfl⟩⟩ := hcut
    cases kq with
    | zero => exact absurd HA.out (by simp [glossatorref03_plain.j0])
    | succ kj1 =>
      have H := HA.out
      clear HA
      simp only [glossatorref03_plain.j0] at H
      by_cases c5 : x4_1 = true
      · subst c5
        have H1 : (some a0) = some r := by rw [if_pos rfl] at H; exact H
        clear H
        have H := H1
        clear H1
        obtain rfl := Option.some.inj H
        go_wp2
        go_ret
        exact ⟨by first | rfl | (simp; done) | (simp [*]; done), by repeat (first | exact Drawn0.refl _ | apply Drawn0.step)⟩
      · replace c5 := Bool.eq_false_iff.mpr c5
        subst c5
        have H1 : (if a0 = 98 then (some 8) else (if a0 = 102 then (some 12) else (if a0 = 110 then (some 10) else (if a0 = 114 then (some 13) else (if a0 = 116 then (some 9) else (some 0)))))) = some r := by rw [if_neg (show ¬ (false = true) by decide)] at H; exact H
        clear H
        have H := H1
        clear H1
        by_cases c6 : a0 = 98
        · rw [if_pos c6] at H
          have c6b0 : (a0 == 98) = true := beq_iff_eq.mpr c6
          have c6b1 : (a0 != 98) = false := bne_eq_false_iff_eq.mpr c6
          clear c6
          obtain rfl := Option.some.inj H
          go_wp2
          go_ret
          exact ⟨by first | rfl | (simp; done) | (simp [*]; done), by repeat (first | exact Drawn0.refl _ | apply Drawn0.step)⟩
        · rw [if_neg c6] at H
          have c6b0 : (a0 == 98) = false := beq_eq_false_iff_ne.mpr c6
          have c6b1 : (a0 != 98) = true := bne_iff_ne.mpr c6
          by_cases c7 : a0 = 102
          · rw [if_pos c7] at H
            have c7b0 : (a0 == 102) = true := beq_iff_eq.mpr c7
            have c7b1 : (a0 != 102) = false := bne_eq_false_iff_eq.mpr c7
            clear c7
            obtain rfl := Option.some.inj H
            go_wp2
            go_ret
            exact ⟨by first | rfl | (simp; done) | (simp [*]; done), by repeat (first | exact Drawn0.refl _ | apply Drawn0.step)⟩
          · rw [if_neg c7] at H
            have c7b0 : (a0 == 102) = false := beq_eq_false_iff_ne.mpr c7
            have c7b1 : (a0 != 102) = true := bne_iff_ne.mpr c7
            by_cases c8 : a0 = 110
            · rw [if_pos c8] at H
              have c8b0 : (a0 == 110) = true := beq_iff_eq.mpr c8
              have c8b1 : (a0 != 110) = false := bne_eq_false_iff_eq.mpr c8
              clear c8
              obtain rfl := Option.some.inj H
              go_wp2
              go_ret
              exact ⟨by first | rfl | (simp; done) | (simp [*]; done), by repeat (first | exact Drawn0.refl _ | apply Drawn0.step)⟩
            · rw [if_neg c8] at H
              have c8b0 : (a0 == 110) = false := beq_eq_false_iff_ne.mpr c8
              have c8b1 : (a0 != 110) = true := bne_iff_ne.mpr c8
              by_cases c9 : a0 = 114
              · rw [if_pos c9] at H
                have c9b0 : (a0 == 114) = true := beq_iff_eq.mpr c9
                have c9b1 : (a0 != 114) = false := bne_eq_false_iff_eq.mpr c9
                clear c9
                obtain rfl := Option.some.inj H
                go_wp2
                go_ret
                exact ⟨by first | rfl | (simp; done) | (simp [*]; done), by repeat (first | exact Drawn0.refl _ | apply Drawn0.step)⟩
              · rw [if_neg c9] at H
                have c9b0 : (a0 == 114) = false := beq_eq_false_iff_ne.mpr c9
                have c9b1 : (a0 != 114) = true := bne_iff_ne.mpr c9
                by_cases c10 : a0 = 116
                · rw [if_pos c10] at H
                  have c10b0 : (a0 == 116) = true := beq_iff_eq.mpr c10
                  have c10b1 : (a0 != 116) = false := bne_eq_false_iff_eq.mpr c10
                  clear c10
                  obtain rfl := Option.some.inj H
                  go_wp2
                  go_ret
                  exact ⟨by first | rfl | (simp; done) | (simp [*]; done), by repeat (first | exact Drawn0.refl _ | apply Drawn0.step)⟩
                · rw [if_neg c10] at H
                  have c10b0 : (a0 == 116) = false := beq_eq_false_iff_ne.mpr c10
                  have c10b1 : (a0 != 116) = true := bne_iff_ne.mpr c10
                  obtain rfl := Option.some.inj H
                  go_wp2
                  go_ret
                  exact ⟨by first | rfl | (simp; done) | (simp [*]; done), by repeat (first | exact Drawn0.refl _ | apply Drawn0.step)⟩

end Go.Proofs.Ytlbokaekhjjabaa.S

-- Written by a program of this session (joint.sh) out of the translation. Not trusted: Lean checks it.
namespace Go.Proofs.Ytlbokaekhjjabaa.S
open Go.RowKit Go.Proofs.YtlbokaekhjjabaaW.PrintWords Go.Proofs.YtlbokaekhjjabaaW.PrintLast Go.Proofs.YtlbokaekhjjabaaW.PrintMore
attribute [local go_sem] max2_int min2_int max_two min_two max_three min_three max_four min_four   -- for this text's walks alone
set_option linter.unusedVariables false
set_option linter.unusedSimpArgs false

/-! ### glossatorref03_digit: function 81 -/
mutual
def glossatorref03_digit.j0 : Nat → Int → Bool → Option (Int)
  | 0, _, _ => none
  | k + 1, x0, x3 => if x3 = true then (some ((x0 - 48) % 256)) else (if x0 ≥ 97 then (glossatorref03_digit.j1 k x0 (decide (x0 ≤ 102))) else (glossatorref03_digit.j1 k x0 false))
def glossatorref03_digit.j1 : Nat → Int → Bool → Option (Int)
  | 0, _, _ => none
  | k + 1, x0, x13 => if x13 = true then (some (((x0 - 97) % 256) + 10)) else (if x0 ≥ 65 then (if x0 ≤ 70 then (some (((x0 - 65) % 256) + 10)) else (some (-1))) else (some (-1)))
end
def glossatorref03_digit.f (k : Nat) (a0 : Int) : Option (Int) := if a0 ≥ 48 then (glossatorref03_digit.j0 k a0 (decide (a0 ≤ 57))) else (glossatorref03_digit.j0 k a0 false)
theorem glossatorref03_digit.mono_l : ∀ k, (∀ y0 y1, LeO (glossatorref03_digit.j0 k y0 y1) (glossatorref03_digit.j0 (k + 1) y0 y1)) ∧ (∀ y0 y1, LeO (glossatorref03_digit.j1 k y0 y1) (glossatorref03_digit.j1 (k + 1) y0 y1))
  | 0 => ⟨fun _ _ r h => by simp [glossatorref03_digit.j0] at h, fun _ _ r h => by simp [glossatorref03_digit.j1] at h⟩
  | k + 1 => by
    obtain ⟨ih0, ih1⟩ := glossatorref03_digit.mono_l k
    refine ⟨?_, ?_⟩
    · intro y0 y1
      unfold glossatorref03_digit.j0
      repeat' first
      | (with_reducible exact ih0 _ _)
      | (with_reducible exact ih1 _ _)
      | (with_reducible exact LeO.refl _)
      | (with_reducible exact LeO.none _)
      | (with_reducible refine LeO.ite ?_ ?_)
      | (with_reducible refine LeO.bind ?_ (fun _ => ?_))
      | exact ih0 _ _
      | exact ih1 _ _
      | exact LeO.none _
      | refine LeO.ite ?_ ?_
      | refine LeO.bind ?_ (fun _ => ?_)
    · intro y0 y1
      unfold glossatorref03_digit.j1
      repeat' first
      | (with_reducible exact ih0 _ _)
      | (with_reducible exact ih1 _ _)
      | (with_reducible exact LeO.refl _)
      | (with_reducible exact LeO.none _)
      | (with_reducible refine LeO.ite ?_ ?_)
      | (with_reducible refine LeO.bind ?_ (fun _ => ?_))
      | exact ih0 _ _
      | exact ih1 _ _
      | exact LeO.none _
      | refine LeO.ite ?_ ?_
      | refine LeO.bind ?_ (fun _ => ?_)
theorem glossatorref03_digit.mono : ∀ a0 k, LeO (glossatorref03_digit.f k a0) (glossatorref03_digit.f (k + 1) a0) := by
  intro a0 k
  obtain ⟨ih0, ih1⟩ := glossatorref03_digit.mono_l k
  unfold glossatorref03_digit.f
  repeat' first
      | (with_reducible exact ih0 _ _)
      | (with_reducible exact ih1 _ _)
      | (with_reducible exact LeO.refl _)
      | (with_reducible exact LeO.none _)
      | (with_reducible refine LeO.ite ?_ ?_)
      | (with_reducible refine LeO.bind ?_ (fun _ => ?_))
      | exact ih0 _ _
      | exact ih1 _ _
      | exact LeO.none _
      | refine LeO.ite ?_ ?_
      | refine LeO.bind ?_ (fun _ => ?_)
set_option maxHeartbeats 8000000 in
set_option maxRecDepth 100000 in
theorem glossatorref03_digit.calls (k : Nat) (a0 : Int) (r : Int) (w : World) (h : glossatorref03_digit.f k a0 = some r) :
    Calls Try.prog 81 #[.int .u8 a0] w fun e w' => e = .returned (.int .i64 r) ∧ Drawn0 w w' := by
  have H : (if a0 ≥ 48 then (glossatorref03_digit.j0 k a0 (decide (a0 ≤ 57))) else (glossatorref03_digit.j0 k a0 false)) = some r := h
  clear h
  have HC2 := Aside0.mk H
  clear H
  go_enter Try.func81, Try.ntmps81
  go_upto_region 1 with (fail)
  go_cut [3] (fun v3 wc => ∃ (kq : Nat) (x3_1 : Bool), v3 = .bool x3_1 ∧ Aside0 (glossatorref03_digit.j0 kq a0 x3_1 = some r) ∧ Aside0 (kq ≤ k) ∧ Drawn0 w wc)
  case first =>
    have H := HC2.out
    clear HC2
    by_cases c3 : a0 ≥ 48
    · rw [if_pos c3] at H
      have c3b0 : decide (48 ≤ a0) = true := decide_eq_true c3
      clear c3
      (first | rw [c3b0] | (simp only [i64_w, i32_w]; rw [c3b0]) | skip)
      have H' := Aside0.mk H
      clear H
      go_wp2
      go_meet
      case rel => exact ⟨_, (decide (a0 ≤ 57)), (by first | rfl | (simp; done) | (simp [*]; done)), H', ⟨by first | omega | exact Nat.le_refl _⟩, by repeat (first | exact Drawn0.refl _ | apply Drawn0.step)⟩
    · rw [if_neg c3] at H
      have c3b0 : decide (48 ≤ a0) = false := decide_eq_false c3
      clear c3
      (first | rw [c3b0] | (simp only [i64_w, i32_w]; rw [c3b0]) | skip)
      have H' := Aside0.mk H
      clear H
      go_wp2
      go_meet
      case rel => exact ⟨_, (false), (by first | rfl | (simp; done) | (simp [*]; done)), H', ⟨by first | omega | exact Nat.le_refl _⟩, by repeat (first | exact Drawn0.refl _ | apply Drawn0.step)⟩
  case rest =>
    clear HC2
    try clear p2
    try clear c3
    try clear c3b0
    obtain ⟨kq, x3_1, rfl, HA, HJ1, ⟨mc1, rfl⟩⟩ := hcut
    cases kq with
    | zero => exact absurd HA.out (by simp [glossatorref03_digit.j0])
    | succ kj1 =>
      have H := HA.out
      clear HA
      simp only [glossatorref03_digit.j0] at H
      by_cases c4 : x3_1 = true
      · subst c4
        have H1 : (some ((a0 - 48) % 256)) = some r := by rw [if_pos rfl] at H; exact H
        clear H
        have H := H1
        clear H1
        obtain rfl := Option.some.inj H
        go_wp2
        go_ret
        exact ⟨by first | rfl | (simp; done) | (simp [*]; done), by repeat (first | exact Drawn0.refl _ | apply Drawn0.step)⟩
      · replace c4 := Bool.eq_false_iff.mpr c4
        subst c4
        have H1 : (if a0 ≥ 97 then (glossatorref03_digit.j1 kj1 a0 (decide (a0 ≤ 102))) else (glossatorref03_digit.j1 kj1 a0 false)) = some r := by rw [if_neg (show ¬ (false = true) by decide)] at H; exact H
        clear H
        have H := H1
        clear H1
        have HC5 := Aside0.mk H
        clear H
        go_upto_region 3 with (fail)
        go_cut [13] (fun v13 wc => ∃ (kq : Nat) (x13_4 : Bool), v13 = .bool x13_4 ∧ Aside0 (glossatorref03_digit.j1 kq a0 x13_4 = some r) ∧ Aside0 (kq ≤ kj1) ∧ Drawn0 w wc)
        case first =>
          have H := HC5.out
          clear HC5
          by_cases c6 : a0 ≥ 97
          · rw [if_pos c6] at H
            have c6b0 : decide (97 ≤ a0) = true := decide_eq_true c6
            clear c6
            (first | rw [c6b0] | (simp only [i64_w, i32_w]; rw [c6b0]) | skip)
            have H' := Aside0.mk H
            clear H
            go_wp2
            go_meet
            case rel => exact ⟨_, (decide (a0 ≤ 102)), (by first | rfl | (simp; done) | (simp [*]; done)), H', ⟨by have := HJ1.out; first | omega | exact Nat.le_refl _⟩, by repeat (first | exact Drawn0.refl _ | apply Drawn0.step)⟩
          · rw [if_neg c6] at H
            have c6b0 : decide (97 ≤ a0) = false := decide_eq_false c6
            clear c6
            (first | rw [c6b0] | (simp only [i64_w, i32_w]; rw [c6b0]) | skip)
            have H' := Aside0.mk H
            clear H
            go_wp2
            go_meet
            case rel => exact ⟨_, (false), (by first | rfl | (simp; done) | (simp [*]; done)), H', ⟨by have := HJ1.out; first | omega | exact Nat.le_refl _⟩, by repeat (first | exact Drawn0.refl _ | apply Drawn0.step)⟩
        case rest =>
          clear HC5
          try clear c1
          try clear p2
          try clear c3
          try clear c3b0
          try clear c4
          try clear c6
          try clear c6b0
          try clear p2
          obtain ⟨kq, x13_4, rfl, HA, HJ4, ⟨mc4, rfl⟩⟩ := hcut
          cases kq with
          | zero => exact absurd HA.out (by simp [glossatorref03_digit.j1])
          | succ kj4 =>
            have H := HA.out
            clear HA
            simp only [glossatorref03_digit.j1] at H
            by_cases c7 : x13_4 = true
            · subst c7
              have H1 : (some (((a0 - 97) % 256) + 10)) = some r := by rw [if_pos rfl] at H; exact H
              clear H
              have H := H1
              clear H1
              obtain rfl := Option.some.inj H
              go_wp2
              go_ret
              exact ⟨by first | rfl | (simp; done) | (simp [*]; done), by repeat (first | exact Drawn0.refl _ | apply Drawn0.step)⟩
            · replace c7 := Bool.eq_false_iff.mpr c7
              subst c7
              have H1 : (if a0 ≥ 65 then (if a0 ≤ 70 then (some (((a0 - 65) % 256) + 10)) else (some (-1))) else (some (-1))) = some r := by rw [if_neg (show ¬ (false = true) by decide)] at H; exact H
              clear H
              have H := H1
              clear H1
              by_cases c8 : a0 ≥ 65
              · rw [if_pos c8] at H
                have c8b0 : decide (65 ≤ a0) = true := decide_eq_true c8
                clear c8
                by_cases c9 : a0 ≤ 70
                · rw [if_pos c9] at H
                  have c9b0 : decide (a0 ≤ 70) = true := decide_eq_true c9
                  clear c9
                  obtain rfl := Option.some.inj H
                  go_wp2
                  go_ret
                  exact ⟨by first | rfl | (simp; done) | (simp [*]; done), by repeat (first | exact Drawn0.refl _ | apply Drawn0.step)⟩
                · rw [if_neg c9] at H
                  have c9b0 : decide (a0 ≤ 70) = false := decide_eq_false c9
                  clear c9
                  obtain rfl := Option.some.inj H
                  go_wp2
                  go_ret
                  exact ⟨by first | rfl | (simp; done) | (simp [*]; done), by repeat (first | exact Drawn0.refl _ | apply Drawn0.step)⟩
              · rw [if_neg c8] at H
                have c8b0 : decide (65 ≤ a0) = false := decide_eq_false c8
                clear c8
                obtain rfl := Option.some.inj H
                go_wp2
                go_ret
                exact ⟨by first | rfl | (simp; done) | (simp [*]; done), by repeat (first | exact Drawn0.refl _ | apply Drawn0.step)⟩

end Go.Proofs.Ytlbokaekhjjabaa.S

-- Written by a program of this session (joint.sh) out of the translation. Not trusted: Lean checks it.
namespace Go.Proofs.Ytlbokaekhjjabaa.S
open Go.RowKit Go.Proofs.YtlbokaekhjjabaaW.PrintWords Go.Proofs.YtlbokaekhjjabaaW.PrintLast Go.Proofs.YtlbokaekhjjabaaW.PrintMore
attribute [local go_sem] max2_int min2_int max_two min_two max_three min_three max_four min_four   -- for this text's walks alone
set_option linter.unusedVariables false
set_option linter.unusedSimpArgs false

/-! ### glossatorref03_four: function 73 -/
def glossatorref03_four.l0 : Nat → ByteArray → Int → Bool → Int → Int → Option (Int × Int × Int)
  | 0, _, _, _, _, _ => none
  | k + 1, x0, x1, x2, x9, x10 => if x10 < 4 then (if (wrap64 (x1 + x10)) ≥ (x0.size : Int) then (some (0, (x0.size : Int), 3)) else (if 0 ≤ (wrap64 (x1 + x10)) then (if (wrap64 (x1 + x10)) < (x0.size : Int) then ((glossatorref03_digit.f k (bt x0 (wrap64 (x1 + x10)))).bind fun t106 => (if x2 = true then (if t106 < 0 then (some (0, wrap64 (x1 + x10), 4)) else (if x10 = 0 then (if t106 = 13 then (if x10 = 1 then (if t106 < 12 then (some (0, wrap64 (x1 + x10), 4)) else (glossatorref03_four.l0 k x0 x1 x2 (wrap64 ((wrap64 (16 * x9)) + t106)) (wrap64 (x10 + 1)))) else (glossatorref03_four.l0 k x0 x1 x2 (wrap64 ((wrap64 (16 * x9)) + t106)) (wrap64 (x10 + 1)))) else (some (0, wrap64 (x1 + x10), 4))) else (if x10 = 1 then (if t106 < 12 then (some (0, wrap64 (x1 + x10), 4)) else (glossatorref03_four.l0 k x0 x1 x2 (wrap64 ((wrap64 (16 * x9)) + t106)) (wrap64 (x10 + 1)))) else (glossatorref03_four.l0 k x0 x1 x2 (wrap64 ((wrap64 (16 * x9)) + t106)) (wrap64 (x10 + 1)))))) else (if t106 < 0 then (some (0, wrap64 (x1 + x10), 4)) else (if x10 = 1 then (if x9 = 13 then (if t106 ≥ 12 then (some (0, wrap64 (x1 + x10), 4)) else (glossatorref03_four.l0 k x0 x1 x2 (wrap64 ((wrap64 (16 * x9)) + t106)) (wrap64 (x10 + 1)))) else (glossatorref03_four.l0 k x0 x1 x2 (wrap64 ((wrap64 (16 * x9)) + t106)) (wrap64 (x10 + 1)))) else (glossatorref03_four.l0 k x0 x1 x2 (wrap64 ((wrap64 (16 * x9)) + t106)) (wrap64 (x10 + 1))))))) else (none)) else (none))) else (some (x9, wrap64 (x1 + 4), 0))
def glossatorref03_four.f (k : Nat) (a0 : ByteArray) (a1 : Int) (a2 : Bool) : Option (Int × Int × Int) := glossatorref03_four.l0 k a0 a1 a2 0 0
theorem glossatorref03_four.mono_l : ∀ k, (∀ y0 y1 y2 y3 y4, LeO (glossatorref03_four.l0 k y0 y1 y2 y3 y4) (glossatorref03_four.l0 (k + 1) y0 y1 y2 y3 y4))
  | 0 => fun _ _ _ _ _ r h => by simp [glossatorref03_four.l0] at h
  | k + 1 => by
    have ih0 := glossatorref03_four.mono_l k
    · intro y0 y1 y2 y3 y4
      unfold glossatorref03_four.l0
      repeat' first
      | (with_reducible exact ih0 _ _ _ _ _)
      | (with_reducible exact glossatorref03_digit.mono _ _)
      | (with_reducible exact LeO.refl _)
      | (with_reducible exact LeO.none _)
      | (with_reducible refine LeO.ite ?_ ?_)
      | (with_reducible refine LeO.bind ?_ (fun _ => ?_))
      | exact ih0 _ _ _ _ _
      | exact glossatorref03_digit.mono _ _
      | exact LeO.none _
      | refine LeO.ite ?_ ?_
      | refine LeO.bind ?_ (fun _ => ?_)
theorem glossatorref03_four.mono : ∀ a0 a1 a2 k, LeO (glossatorref03_four.f k a0 a1 a2) (glossatorref03_four.f (k + 1) a0 a1 a2) := by
  intro a0 a1 a2 k
  have ih0 := glossatorref03_four.mono_l k
  unfold glossatorref03_four.f
  repeat' first
      | (with_reducible exact ih0 _ _ _ _ _)
      | (with_reducible exact glossatorref03_digit.mono _ _)
      | (with_reducible exact LeO.refl _)
      | (with_reducible exact LeO.none _)
      | (with_reducible refine LeO.ite ?_ ?_)
      | (with_reducible refine LeO.bind ?_ (fun _ => ?_))
      | exact ih0 _ _ _ _ _
      | exact glossatorref03_digit.mono _ _
      | exact LeO.none _
      | refine LeO.ite ?_ ?_
      | refine LeO.bind ?_ (fun _ => ?_)
set_option maxHeartbeats 8000000 in
set_option maxRecDepth 100000 in
theorem glossatorref03_four.calls (k : Nat) (a0 : ByteArray) (a1 : Int) (a2 : Bool) (r1 : Int) (r2 : Int) (r3 : Int) (w : World) (h : glossatorref03_four.f k a0 a1 a2 = some (r1, r2, r3)) :
    Calls Try.prog 73 #[.string a0, .int .i64 a1, .bool a2] w fun e w' => e = .returned (.tuple #[.int .i64 r1, .int .i64 r2, .int .i64 r3]) ∧ Drawn0 w w' := by
  have H : (glossatorref03_four.l0 k a0 a1 a2 0 0) = some (r1, r2, r3) := h
  clear h
  have H' := Aside0.mk H
  clear H
  go_enter Try.func73, Try.ntmps73
  go_wp2
  go_loopg [9, 10] k (fun kq v9 v10 w' => ∃ (x9_1 : Int) (x10_1 : Int), v9 = .int .i64 x9_1 ∧ v10 = .int .i64 x10_1 ∧ Aside0 (glossatorref03_four.l0 kq a0 a1 a2 x9_1 x10_1 = some (r1, r2, r3)) ∧ Aside0 (kq ≤ k) ∧ Drawn0 w w')
  case atStart => exact ⟨(0), (0), (by first | rfl | (simp; done) | (simp [*]; done)), (by first | rfl | (simp; done) | (simp [*]; done)), H', ⟨Nat.le_refl _⟩, by repeat (first | exact Drawn0.refl _ | apply Drawn0.step)⟩
  case round =>
    clear H'
    try clear p2
    obtain ⟨x9_1, x10_1, rfl, rfl, HA, HK1, ⟨m1, rfl⟩⟩ := hrel
    cases gk with
    | zero => exact absurd HA.out (by simp [glossatorref03_four.l0])
    | succ k1 =>
      have H := HA.out
      clear HA
      simp only [glossatorref03_four.l0] at H
      by_cases c4 : x10_1 < 4
      · rw [if_pos c4] at H
        have c4b0 : decide (x10_1 < 4) = true := decide_eq_true c4
        clear c4
        by_cases c5 : (wrap64 (a1 + x10_1)) ≥ (a0.size : Int)
        · rw [if_pos c5] at H
          have c5b0 : decide ((a0.size : Int) ≤ (wrap64 (a1 + x10_1))) = true := decide_eq_true c5
          clear c5
          simp only [Option.some.injEq, Prod.mk.injEq] at H
          obtain ⟨rfl, rfl, rfl⟩ := H
          go_wp2
          go_ret3
          exact ⟨by first | rfl | (simp; done) | (simp [*]; done), by repeat (first | exact Drawn0.refl _ | apply Drawn0.step)⟩
        · rw [if_neg c5] at H
          have c5b0 : decide ((a0.size : Int) ≤ (wrap64 (a1 + x10_1))) = false := decide_eq_false c5
          clear c5
          obtain ⟨ji6, hji6⟩ : ∃ j_ : Int, (wrap64 (a1 + x10_1)) = j_ := ⟨_, rfl⟩
          replace H : (if 0 ≤ (ji6) then (if (ji6) < (a0.size : Int) then ((glossatorref03_digit.f k1 (bt a0 (ji6))).bind fun t106 => (if a2 = true then (if t106 < 0 then (some (0, ji6, 4)) else (if x10_1 = 0 then (if t106 = 13 then (if x10_1 = 1 then (if t106 < 12 then (some (0, ji6, 4)) else (glossatorref03_four.l0 k1 a0 a1 a2 (wrap64 ((wrap64 (16 * x9_1)) + t106)) (wrap64 (x10_1 + 1)))) else (glossatorref03_four.l0 k1 a0 a1 a2 (wrap64 ((wrap64 (16 * x9_1)) + t106)) (wrap64 (x10_1 + 1)))) else (some (0, ji6, 4))) else (if x10_1 = 1 then (if t106 < 12 then (some (0, ji6, 4)) else (glossatorref03_four.l0 k1 a0 a1 a2 (wrap64 ((wrap64 (16 * x9_1)) + t106)) (wrap64 (x10_1 + 1)))) else (glossatorref03_four.l0 k1 a0 a1 a2 (wrap64 ((wrap64 (16 * x9_1)) + t106)) (wrap64 (x10_1 + 1)))))) else (if t106 < 0 then (some (0, ji6, 4)) else (if x10_1 = 1 then (if x9_1 = 13 then (if t106 ≥ 12 then (some (0, ji6, 4)) else (glossatorref03_four.l0 k1 a0 a1 a2 (wrap64 ((wrap64 (16 * x9_1)) + t106)) (wrap64 (x10_1 + 1)))) else (glossatorref03_four.l0 k1 a0 a1 a2 (wrap64 ((wrap64 (16 * x9_1)) + t106)) (wrap64 (x10_1 + 1)))) else (glossatorref03_four.l0 k1 a0 a1 a2 (wrap64 ((wrap64 (16 * x9_1)) + t106)) (wrap64 (x10_1 + 1))))))) else (none)) else (none)) = some (r1, r2, r3) := by first | (rw [hji6] at H; exact H) | (simp only [hji6] at H ⊢; exact H)
          (try rw [hji6] at c5b0)
          have hji6w : (IntKind.i64.wrap (a1 + x10_1)) = ji6 := (i64_w _).trans hji6
          by_cases c7 : 0 ≤ (ji6)
          · rw [if_pos c7] at H
            have c7b0 : decide (0 ≤ (ji6)) = true := decide_eq_true c7
            clear c7
            by_cases c8 : (ji6) < (a0.size : Int)
            · rw [if_pos c8] at H
              have c8b0 : decide ((ji6) < (a0.size : Int)) = true := decide_eq_true c8
              clear c8
              replace H := Option.bind_eq_some_iff.mp H
              obtain ⟨t106, A100, H⟩ := H
              replace H : (if a2 = true then (if t106 < 0 then (some (0, ji6, 4)) else (if x10_1 = 0 then (if t106 = 13 then (if x10_1 = 1 then (if t106 < 12 then (some (0, ji6, 4)) else (glossatorref03_four.l0 k1 a0 a1 a2 (wrap64 ((wrap64 (16 * x9_1)) + t106)) (wrap64 (x10_1 + 1)))) else (glossatorref03_four.l0 k1 a0 a1 a2 (wrap64 ((wrap64 (16 * x9_1)) + t106)) (wrap64 (x10_1 + 1)))) else (some (0, ji6, 4))) else (if x10_1 = 1 then (if t106 < 12 then (some (0, ji6, 4)) else (glossatorref03_four.l0 k1 a0 a1 a2 (wrap64 ((wrap64 (16 * x9_1)) + t106)) (wrap64 (x10_1 + 1)))) else (glossatorref03_four.l0 k1 a0 a1 a2 (wrap64 ((wrap64 (16 * x9_1)) + t106)) (wrap64 (x10_1 + 1)))))) else (if t106 < 0 then (some (0, ji6, 4)) else (if x10_1 = 1 then (if x9_1 = 13 then (if t106 ≥ 12 then (some (0, ji6, 4)) else (glossatorref03_four.l0 k1 a0 a1 a2 (wrap64 ((wrap64 (16 * x9_1)) + t106)) (wrap64 (x10_1 + 1)))) else (glossatorref03_four.l0 k1 a0 a1 a2 (wrap64 ((wrap64 (16 * x9_1)) + t106)) (wrap64 (x10_1 + 1)))) else (glossatorref03_four.l0 k1 a0 a1 a2 (wrap64 ((wrap64 (16 * x9_1)) + t106)) (wrap64 (x10_1 + 1)))))) = some (r1, r2, r3) := H
              have A10 := Aside0.mk A100
              clear A100
              by_cases c11 : a2 = true
              · subst c11
                have H1 : (if t106 < 0 then (some (0, ji6, 4)) else (if x10_1 = 0 then (if t106 = 13 then (if x10_1 = 1 then (if t106 < 12 then (some (0, ji6, 4)) else (glossatorref03_four.l0 k1 a0 a1 true (wrap64 ((wrap64 (16 * x9_1)) + t106)) (wrap64 (x10_1 + 1)))) else (glossatorref03_four.l0 k1 a0 a1 true (wrap64 ((wrap64 (16 * x9_1)) + t106)) (wrap64 (x10_1 + 1)))) else (some (0, ji6, 4))) else (if x10_1 = 1 then (if t106 < 12 then (some (0, ji6, 4)) else (glossatorref03_four.l0 k1 a0 a1 true (wrap64 ((wrap64 (16 * x9_1)) + t106)) (wrap64 (x10_1 + 1)))) else (glossatorref03_four.l0 k1 a0 a1 true (wrap64 ((wrap64 (16 * x9_1)) + t106)) (wrap64 (x10_1 + 1)))))) = some (r1, r2, r3) := by rw [if_pos rfl] at H; exact H
                clear H
                have H := H1
                clear H1
                by_cases c12 : t106 < 0
                · rw [if_pos c12] at H
                  have c12b0 : decide (t106 < 0) = true := decide_eq_true c12
                  clear c12
                  simp only [Option.some.injEq, Prod.mk.injEq] at H
                  obtain ⟨rfl, rfl, rfl⟩ := H
                  have p9 : 0 ≤ ((ji6) : Int) := of_decide_eq_true (by first | (with_reducible assumption) | assumption)
                  have q9 : (ji6) < (a0.size : Int) := of_decide_eq_true (by first | (with_reducible assumption) | assumption)
                  have hx9 := bt_at a0 (ji6)
                  replace p9 := eq_true p9
                  replace q9 := eq_true q9
                  go_wp2_with (first | ((with_reducible refine gate_callee (f := 81) rfl ?_); refine goesL_ (some 30) rfl rfl Try.func81 (by kernel_rfl) rfl #[.int .u8 (bt a0 (ji6))] rfl (by (try simp only [List.map_toArray, List.map_cons, List.map_nil]); first | done | (simp only [hji6]; rfl) | rfl | (simp only [List.length_drop, List.length_take]; rfl)) ?_; (with_reducible refine (glossatorref03_digit.calls k1 (bt a0 (ji6)) t106 _ A10.out).mono ?_); rintro e w' ⟨rfl, ⟨nd, rfl⟩⟩; refine ⟨_, rfl, ?_⟩))
                  go_ret3
                  exact ⟨by first | rfl | (simp; done) | (simp only [← hji6] <;> (first | rfl | simp)) | (simp [*]; done), by repeat (first | exact Drawn0.refl _ | apply Drawn0.step)⟩
                · rw [if_neg c12] at H
                  have c12b0 : decide (t106 < 0) = false := decide_eq_false c12
                  clear c12
                  by_cases c13 : x10_1 = 0
                  · rw [if_pos c13] at H
                    have c13b0 : (x10_1 == 0) = true := beq_iff_eq.mpr c13
                    have c13b1 : (x10_1 != 0) = false := bne_eq_false_iff_eq.mpr c13
                    clear c13
                    by_cases c14 : t106 = 13
                    · rw [if_pos c14] at H
                      have c14b0 : (t106 == 13) = true := beq_iff_eq.mpr c14
                      have c14b1 : (t106 != 13) = false := bne_eq_false_iff_eq.mpr c14
                      clear c14
                      by_cases c15 : x10_1 = 1
                      · rw [if_pos c15] at H
                        have c15b0 : (x10_1 == 1) = true := beq_iff_eq.mpr c15
                        have c15b1 : (x10_1 != 1) = false := bne_eq_false_iff_eq.mpr c15
                        clear c15
                        by_cases c16 : t106 < 12
                        · rw [if_pos c16] at H
                          have c16b0 : decide (t106 < 12) = true := decide_eq_true c16
                          clear c16
                          simp only [Option.some.injEq, Prod.mk.injEq] at H
                          obtain ⟨rfl, rfl, rfl⟩ := H
                          have p9 : 0 ≤ ((ji6) : Int) := of_decide_eq_true (by first | (with_reducible assumption) | assumption)
                          have q9 : (ji6) < (a0.size : Int) := of_decide_eq_true (by first | (with_reducible assumption) | assumption)
                          have hx9 := bt_at a0 (ji6)
                          replace p9 := eq_true p9
                          replace q9 := eq_true q9
                          go_wp2_with (first | ((with_reducible refine gate_callee (f := 81) rfl ?_); refine goesL_ (some 30) rfl rfl Try.func81 (by kernel_rfl) rfl #[.int .u8 (bt a0 (ji6))] rfl (by (try simp only [List.map_toArray, List.map_cons, List.map_nil]); first | done | (simp only [hji6]; rfl) | rfl | (simp only [List.length_drop, List.length_take]; rfl)) ?_; (with_reducible refine (glossatorref03_digit.calls k1 (bt a0 (ji6)) t106 _ A10.out).mono ?_); rintro e w' ⟨rfl, ⟨nd, rfl⟩⟩; refine ⟨_, rfl, ?_⟩))
                          go_ret3
                          exact ⟨by first | rfl | (simp; done) | (simp only [← hji6] <;> (first | rfl | simp)) | (simp [*]; done), by repeat (first | exact Drawn0.refl _ | apply Drawn0.step)⟩
                        · rw [if_neg c16] at H
                          have c16b0 : decide (t106 < 12) = false := decide_eq_false c16
                          clear c16
                          have H' := Aside0.mk H
                          clear H
                          have p9 : 0 ≤ ((ji6) : Int) := of_decide_eq_true (by first | (with_reducible assumption) | assumption)
                          have q9 : (ji6) < (a0.size : Int) := of_decide_eq_true (by first | (with_reducible assumption) | assumption)
                          have hx9 := bt_at a0 (ji6)
                          replace p9 := eq_true p9
                          replace q9 := eq_true q9
                          go_wp2_with (first | ((with_reducible refine gate_callee (f := 81) rfl ?_); refine goesL_ (some 30) rfl rfl Try.func81 (by kernel_rfl) rfl #[.int .u8 (bt a0 (ji6))] rfl (by (try simp only [List.map_toArray, List.map_cons, List.map_nil]); first | done | (simp only [hji6]; rfl) | rfl | (simp only [List.length_drop, List.length_take]; rfl)) ?_; (with_reducible refine (glossatorref03_digit.calls k1 (bt a0 (ji6)) t106 _ A10.out).mono ?_); rintro e w' ⟨rfl, ⟨nd, rfl⟩⟩; refine ⟨_, rfl, ?_⟩))
                          go_roundg k1
                          case measure => have := HK1.out; omega
                          case rel => exact ⟨(wrap64 ((wrap64 (16 * x9_1)) + t106)), (wrap64 (x10_1 + 1)), (by first | rfl | (simp; done) | (simp [*]; done)), (by first | rfl | (simp; done) | (simp [*]; done)), H', ⟨by have := HK1.out; omega⟩, by repeat (first | exact Drawn0.refl _ | apply Drawn0.step)⟩
                      · rw [if_neg c15] at H
                        have c15b0 : (x10_1 == 1) = false := beq_eq_false_iff_ne.mpr c15
                        have c15b1 : (x10_1 != 1) = true := bne_iff_ne.mpr c15
                        have H' := Aside0.mk H
                        clear H
                        have p9 : 0 ≤ ((ji6) : Int) := of_decide_eq_true (by first | (with_reducible assumption) | assumption)
                        have q9 : (ji6) < (a0.size : Int) := of_decide_eq_true (by first | (with_reducible assumption) | assumption)
                        have hx9 := bt_at a0 (ji6)
                        replace p9 := eq_true p9
                        replace q9 := eq_true q9
                        go_wp2_with (first | ((with_reducible refine gate_callee (f := 81) rfl ?_); refine goesL_ (some 30) rfl rfl Try.func81 (by kernel_rfl) rfl #[.int .u8 (bt a0 (ji6))] rfl (by (try simp only [List.map_toArray, List.map_cons, List.map_nil]); first | done | (simp only [hji6]; rfl) | rfl | (simp only [List.length_drop, List.length_take]; rfl)) ?_; (with_reducible refine (glossatorref03_digit.calls k1 (bt a0 (ji6)) t106 _ A10.out).mono ?_); rintro e w' ⟨rfl, ⟨nd, rfl⟩⟩; refine ⟨_, rfl, ?_⟩))
                        go_roundg k1
                        case measure => have := HK1.out; omega
                        case rel => exact ⟨(wrap64 ((wrap64 (16 * x9_1)) + t106)), (wrap64 (x10_1 + 1)), (by first | rfl | (simp; done) | (simp [*]; done)), (by first | rfl | (simp; done) | (simp [*]; done)), H', ⟨by have := HK1.out; omega⟩, by repeat (first | exact Drawn0.refl _ | apply Drawn0.step)⟩
                    · rw [if_neg c14] at H
                      have c14b0 : (t106 == 13) = false := beq_eq_false_iff_ne.mpr c14
                      have c14b1 : (t106 != 13) = true := bne_iff_ne.mpr c14
                      simp only [Option.some.injEq, Prod.mk.injEq] at H
                      obtain ⟨rfl, rfl, rfl⟩ := H
                      have p9 : 0 ≤ ((ji6) : Int) := of_decide_eq_true (by first | (with_reducible assumption) | assumption)
                      have q9 : (ji6) < (a0.size : Int) := of_decide_eq_true (by first | (with_reducible assumption) | assumption)
                      have hx9 := bt_at a0 (ji6)
                      replace p9 := eq_true p9
                      replace q9 := eq_true q9
                      go_wp2_with (first | ((with_reducible refine gate_callee (f := 81) rfl ?_); refine goesL_ (some 30) rfl rfl Try.func81 (by kernel_rfl) rfl #[.int .u8 (bt a0 (ji6))] rfl (by (try simp only [List.map_toArray, List.map_cons, List.map_nil]); first | done | (simp only [hji6]; rfl) | rfl | (simp only [List.length_drop, List.length_take]; rfl)) ?_; (with_reducible refine (glossatorref03_digit.calls k1 (bt a0 (ji6)) t106 _ A10.out).mono ?_); rintro e w' ⟨rfl, ⟨nd, rfl⟩⟩; refine ⟨_, rfl, ?_⟩))
                      go_ret3
                      exact ⟨by first | rfl | (simp; done) | (simp only [← hji6] <;> (first | rfl | simp)) | (simp [*]; done), by repeat (first | exact Drawn0.refl _ | apply Drawn0.step)⟩
                  · rw [if_neg c13] at H
                    have c13b0 : (x10_1 == 0) = false := beq_eq_false_iff_ne.mpr c13
                    have c13b1 : (x10_1 != 0) = true := bne_iff_ne.mpr c13
                    by_cases c17 : x10_1 = 1
                    · rw [if_pos c17] at H
                      have c17b0 : (x10_1 == 1) = true := beq_iff_eq.mpr c17
                      have c17b1 : (x10_1 != 1) = false := bne_eq_false_iff_eq.mpr c17
                      clear c17
                      by_cases c18 : t106 < 12
                      · rw [if_pos c18] at H
                        have c18b0 : decide (t106 < 12) = true := decide_eq_true c18
                        clear c18
                        simp only [Option.some.injEq, Prod.mk.injEq] at H
                        obtain ⟨rfl, rfl, rfl⟩ := H
                        have p9 : 0 ≤ ((ji6) : Int) := of_decide_eq_true (by first | (with_reducible assumption) | assumption)
                        have q9 : (ji6) < (a0.size : Int) := of_decide_eq_true (by first | (with_reducible assumption) | assumption)
                        have hx9 := bt_at a0 (ji6)
                        replace p9 := eq_true p9
                        replace q9 := eq_true q9
                        go_wp2_with (first | ((with_reducible refine gate_callee (f := 81) rfl ?_); refine goesL_ (some 30) rfl rfl Try.func81 (by kernel_rfl) rfl #[.int .u8 (bt a0 (ji6))] rfl (by (try simp only [List.map_toArray, List.map_cons, List.map_nil]); first | done | (simp only [hji6]; rfl) | rfl | (simp only [List.length_drop, List.length_take]; rfl)) ?_; (with_reducible refine (glossatorref03_digit.calls k1 (bt a0 (ji6)) t106 _ A10.out).mono ?_); rintro e w' ⟨rfl, ⟨nd, rfl⟩⟩; refine ⟨_, rfl, ?_⟩))
                        go_ret3
                        exact ⟨by first | rfl | (simp; done) | (simp only [← hji6] <;> (first | rfl | simp)) | (simp [*]; done), by repeat (first | exact Drawn0.refl _ | apply Drawn0.step)⟩
                      · rw [if_neg c18] at H
                        have c18b0 : decide (t106 < 12) = false := decide_eq_false c18
                        clear c18
                        have H' := Aside0.mk H
                        clear H
                        have p9 : 0 ≤ ((ji6) : Int) := of_decide_eq_true (by first | (with_reducible assumption) | assumption)
                        have q9 : (ji6) < (a0.size : Int) := of_decide_eq_true (by first | (with_reducible assumption) | assumption)
                        have hx9 := bt_at a0 (ji6)
                        replace p9 := eq_true p9
                        replace q9 := eq_true q9
                        go_wp2_with (first | ((with_reducible refine gate_callee (f := 81) rfl ?_); refine goesL_ (some 30) rfl rfl Try.func81 (by kernel_rfl) rfl #[.int .u8 (bt a0 (ji6))] rfl (by (try simp only [List.map_toArray, List.map_cons, List.map_nil]); first | done | (simp only [hji6]; rfl) | rfl | (simp only [List.length_drop, List.length_take]; rfl)) ?_; (with_reducible refine (glossatorref03_digit.calls k1 (bt a0 (ji6)) t106 _ A10.out).mono ?_); rintro e w' ⟨rfl, ⟨nd, rfl⟩⟩; refine ⟨_, rfl, ?_⟩))
                        go_roundg k1
                        case measure => have := HK1.out; omega
                        case rel => exact ⟨(wrap64 ((wrap64 (16 * x9_1)) + t106)), (wrap64 (x10_1 + 1)), (by first | rfl | (simp; done) | (simp [*]; done)), (by first | rfl | (simp; done) | (simp [*]; done)), H', ⟨by have := HK1.out; omega⟩, by repeat (first | exact Drawn0.refl _ | apply Drawn0.step)⟩
                    · rw [if_neg c17] at H
                      have c17b0 : (x10_1 == 1) = false := beq_eq_false_iff_ne.mpr c17
                      have c17b1 : (x10_1 != 1) = true := bne_iff_ne.mpr c17
                      have H' := Aside0.mk H
                      clear H
                      have p9 : 0 ≤ ((ji6) : Int) := of_decide_eq_true (by first | (with_reducible assumption) | assumption)
                      have q9 : (ji6) < (a0.size : Int) := of_decide_eq_true (by first | (with_reducible assumption) | assumption)
                      have hx9 := bt_at a0 (ji6)
                      replace p9 := eq_true p9
                      replace q9 := eq_true q9
                      go_wp2_with (first | ((with_reducible refine gate_callee (f := 81) rfl ?_); refine goesL_ (some 30) rfl rfl Try.func81 (by kernel_rfl) rfl #[.int .u8 (bt a0 (ji6))] rfl (by (try simp only [List.map_toArray, List.map_cons, List.map_nil]); first | done | (simp only [hji6]; rfl) | rfl | (simp only [List.length_drop, List.length_take]; rfl)) ?_; (with_reducible refine (glossatorref03_digit.calls k1 (bt a0 (ji6)) t106 _ A10.out).mono ?_); rintro e w' ⟨rfl, ⟨nd, rfl⟩⟩; refine ⟨_, rfl, ?_⟩))
                      go_roundg k1
                      case measure => have := HK1.out; omega
                      case rel => exact ⟨(wrap64 ((wrap64 (16 * x9_1)) + t106)), (wrap64 (x10_1 + 1)), (by first | rfl | (simp; done) | (simp [*]; done)), (by first | rfl | (simp; done) | (simp [*]; done)), H', ⟨by have := HK1.out; omega⟩, by repeat (first | exact Drawn0.refl _ | apply Drawn0.step)⟩
              · replace c11 := Bool.eq_false_iff.mpr c11
                subst c11
                have H1 : (if t106 < 0 then (some (0, ji6, 4)) else (if x10_1 = 1 then (if x9_1 = 13 then (if t106 ≥ 12 then (some (0, ji6, 4)) else (glossatorref03_four.l0 k1 a0 a1 false (wrap64 ((wrap64 (16 * x9_1)) + t106)) (wrap64 (x10_1 + 1)))) else (glossatorref03_four.l0 k1 a0 a1 false (wrap64 ((wrap64 (16 * x9_1)) + t106)) (wrap64 (x10_1 + 1)))) else (glossatorref03_four.l0 k1 a0 a1 false (wrap64 ((wrap64 (16 * x9_1)) + t106)) (wrap64 (x10_1 + 1))))) = some (r1, r2, r3) := by rw [if_neg (show ¬ (false = true) by decide)] at H; exact H
                clear H
                have H := H1
                clear H1
                by_cases c19 : t106 < 0
                · rw [if_pos c19] at H
                  have c19b0 : decide (t106 < 0) = true := decide_eq_true c19
                  clear c19
                  simp only [Option.some.injEq, Prod.mk.injEq] at H
                  obtain ⟨rfl, rfl, rfl⟩ := H
                  have p9 : 0 ≤ ((ji6) : Int) := of_decide_eq_true (by first | (with_reducible assumption) | assumption)
                  have q9 : (ji6) < (a0.size : Int) := of_decide_eq_true (by first | (with_reducible assumption) | assumption)
                  have hx9 := bt_at a0 (ji6)
                  replace p9 := eq_true p9
                  replace q9 := eq_true q9
                  go_wp2_with (first | ((with_reducible refine gate_callee (f := 81) rfl ?_); refine goesL_ (some 30) rfl rfl Try.func81 (by kernel_rfl) rfl #[.int .u8 (bt a0 (ji6))] rfl (by (try simp only [List.map_toArray, List.map_cons, List.map_nil]); first | done | (simp only [hji6]; rfl) | rfl | (simp only [List.length_drop, List.length_take]; rfl)) ?_; (with_reducible refine (glossatorref03_digit.calls k1 (bt a0 (ji6)) t106 _ A10.out).mono ?_); rintro e w' ⟨rfl, ⟨nd, rfl⟩⟩; refine ⟨_, rfl, ?_⟩))
                  go_ret3
                  exact ⟨by first | rfl | (simp; done) | (simp only [← hji6] <;> (first | rfl | simp)) | (simp [*]; done), by repeat (first | exact Drawn0.refl _ | apply Drawn0.step)⟩
                · rw [if_neg c19] at H
                  have c19b0 : decide (t106 < 0) = false := decide_eq_false c19
                  clear c19
                  by_cases c20 : x10_1 = 1
                  · rw [if_pos c20] at H
                    have c20b0 : (x10_1 == 1) = true := beq_iff_eq.mpr c20
                    have c20b1 : (x10_1 != 1) = false := bne_eq_false_iff_eq.mpr c20
                    clear c20
                    by_cases c21 : x9_1 = 13
                    · rw [if_pos c21] at H
                      have c21b0 : (x9_1 == 13) = true := beq_iff_eq.mpr c21
                      have c21b1 : (x9_1 != 13) = false := bne_eq_false_iff_eq.mpr c21
                      clear c21
                      by_cases c22 : t106 ≥ 12
                      · rw [if_pos c22] at H
                        have c22b0 : decide (12 ≤ t106) = true := decide_eq_true c22
                        clear c22
                        simp only [Option.some.injEq, Prod.mk.injEq] at H
                        obtain ⟨rfl, rfl, rfl⟩ := H
                        have p9 : 0 ≤ ((ji6) : Int) := of_decide_eq_true (by first | (with_reducible assumption) | assumption)
                        have q9 : (ji6) < (a0.size : Int) := of_decide_eq_true (by first | (with_reducible assumption) | assumption)
                        have hx9 := bt_at a0 (ji6)
                        replace p9 := eq_true p9
                        replace q9 := eq_true q9
                        go_wp2_with (first | ((with_reducible refine gate_callee (f := 81) rfl ?_); refine goesL_ (some 30) rfl rfl Try.func81 (by kernel_rfl) rfl #[.int .u8 (bt a0 (ji6))] rfl (by (try simp only [List.map_toArray, List.map_cons, List.map_nil]); first | done | (simp only [hji6]; rfl) | rfl | (simp only [List.length_drop, List.length_take]; rfl)) ?_; (with_reducible refine (glossatorref03_digit.calls k1 (bt a0 (ji6)) t106 _ A10.out).mono ?_); rintro e w' ⟨rfl, ⟨nd, rfl⟩⟩; refine ⟨_, rfl, ?_⟩))
                        go_ret3
                        exact ⟨by first | rfl | (simp; done) | (simp only [← hji6] <;> (first | rfl | simp)) | (simp [*]; done), by repeat (first | exact Drawn0.refl _ | apply Drawn0.step)⟩
                      · rw [if_neg c22] at H
                        have c22b0 : decide (12 ≤ t106) = false := decide_eq_false c22
                        clear c22
                        have H' := Aside0.mk H
                        clear H
                        have p9 : 0 ≤ ((ji6) : Int) := of_decide_eq_true (by first | (with_reducible assumption) | assumption)
                        have q9 : (ji6) < (a0.size : Int) := of_decide_eq_true (by first | (with_reducible assumption) | assumption)
                        have hx9 := bt_at a0 (ji6)
                        replace p9 := eq_true p9
                        replace q9 := eq_true q9
                        go_wp2_with (first | ((with_reducible refine gate_callee (f := 81) rfl ?_); refine goesL_ (some 30) rfl rfl Try.func81 (by kernel_rfl) rfl #[.int .u8 (bt a0 (ji6))] rfl (by (try simp only [List.map_toArray, List.map_cons, List.map_nil]); first | done | (simp only [hji6]; rfl) | rfl | (simp only [List.length_drop, List.length_take]; rfl)) ?_; (with_reducible refine (glossatorref03_digit.calls k1 (bt a0 (ji6)) t106 _ A10.out).mono ?_); rintro e w' ⟨rfl, ⟨nd, rfl⟩⟩; refine ⟨_, rfl, ?_⟩))
                        go_roundg k1
                        case measure => have := HK1.out; omega
                        case rel => exact ⟨(wrap64 ((wrap64 (16 * x9_1)) + t106)), (wrap64 (x10_1 + 1)), (by first | rfl | (simp; done) | (simp [*]; done)), (by first | rfl | (simp; done) | (simp [*]; done)), H', ⟨by have := HK1.out; omega⟩, by repeat (first | exact Drawn0.refl _ | apply Drawn0.step)⟩
                    · rw [if_neg c21] at H
                      have c21b0 : (x9_1 == 13) = false := beq_eq_false_iff_ne.mpr c21
                      have c21b1 : (x9_1 != 13) = true := bne_iff_ne.mpr c21
                      have H' := Aside0.mk H
                      clear H
                      have p9 : 0 ≤ ((ji6) : Int) := of_decide_eq_true (by first | (with_reducible assumption) | assumption)
                      have q9 : (ji6) < (a0.size : Int) := of_decide_eq_true (by first | (with_reducible assumption) | assumption)
                      have hx9 := bt_at a0 (ji6)
                      replace p9 := eq_true p9
                      replace q9 := eq_true q9
                      go_wp2_with (first | ((with_reducible refine gate_callee (f := 81) rfl ?_); refine goesL_ (some 30) rfl rfl Try.func81 (by kernel_rfl) rfl #[.int .u8 (bt a0 (ji6))] rfl (by (try simp only [List.map_toArray, List.map_cons, List.map_nil]); first | done | (simp only [hji6]; rfl) | rfl | (simp only [List.length_drop, List.length_take]; rfl)) ?_; (with_reducible refine (glossatorref03_digit.calls k1 (bt a0 (ji6)) t106 _ A10.out).mono ?_); rintro e w' ⟨rfl, ⟨nd, rfl⟩⟩; refine ⟨_, rfl, ?_⟩))
                      go_roundg k1
                      case measure => have := HK1.out; omega
                      case rel => exact ⟨(wrap64 ((wrap64 (16 * x9_1)) + t106)), (wrap64 (x10_1 + 1)), (by first | rfl | (simp; done) | (simp [*]; done)), (by first | rfl | (simp; done) | (simp [*]; done)), H', ⟨by have := HK1.out; omega⟩, by repeat (first | exact Drawn0.refl _ | apply Drawn0.step)⟩
                  · rw [if_neg c20] at H
                    have c20b0 : (x10_1 == 1) = false := beq_eq_false_iff_ne.mpr c20
                    have c20b1 : (x10_1 != 1) = true := bne_iff_ne.mpr c20
                    have H' := Aside0.mk H
                    clear H
                    have p9 : 0 ≤ ((ji6) : Int) := of_decide_eq_true (by first | (with_reducible assumption) | assumption)
                    have q9 : (ji6) < (a0.size : Int) := of_decide_eq_true (by first | (with_reducible assumption) | assumption)
                    have hx9 := bt_at a0 (ji6)
                    replace p9 := eq_true p9
                    replace q9 := eq_true q9
                    go_wp2_with (first | ((with_reducible refine gate_callee (f := 81) rfl ?_); refine goesL_ (some 30) rfl rfl Try.func81 (by kernel_rfl) rfl #[.int .u8 (bt a0 (ji6))] rfl (by (try simp only [List.map_toArray, List.map_cons, List.map_nil]); first | done | (simp only [hji6]; rfl) | rfl | (simp only [List.length_drop, List.length_take]; rfl)) ?_; (with_reducible refine (glossatorref03_digit.calls k1 (bt a0 (ji6)) t106 _ A10.out).mono ?_); rintro e w' ⟨rfl, ⟨nd, rfl⟩⟩; refine ⟨_, rfl, ?_⟩))
                    go_roundg k1
                    case measure => have := HK1.out; omega
                    case rel => exact ⟨(wrap64 ((wrap64 (16 * x9_1)) + t106)), (wrap64 (x10_1 + 1)), (by first | rfl | (simp; done) | (simp [*]; done)), (by first | rfl | (simp; done) | (simp [*]; done)), H', ⟨by have := HK1.out; omega⟩, by repeat (first | exact Drawn0.refl _ | apply Drawn0.step)⟩
            · rw [if_neg c8] at H
              exact absurd H (by simp)
          · rw [if_neg c7] at H
            exact absurd H (by simp)
      · rw [if_neg c4] at H
        have c4b0 : decide (x10_1 < 4) = false := decide_eq_false c4
        clear c4
        simp only [Option.some.injEq, Prod.mk.injEq] at H
        obtain ⟨rfl, rfl, rfl⟩ := H
        go_wp2
        go_ret3
        exact ⟨by first | rfl | (simp; done) | (simp [*]; done), by repeat (first | exact Drawn0.refl _ | apply Drawn0.step)⟩

end Go.Proofs.Ytlbokaekhjjabaa.S

-- Written by a program of this session (joint.sh) out of the translation. Not trusted: Lean checks it.
namespace Go.Proofs.Ytlbokaekhjjabaa.S
open Go.RowKit Go.Proofs.YtlbokaekhjjabaaW.PrintWords Go.Proofs.YtlbokaekhjjabaaW.PrintLast Go.Proofs.YtlbokaekhjjabaaW.PrintMore
attribute [local go_sem] max2_int min2_int max_two min_two max_three min_three max_four min_four   -- for this text's walks alone
set_option linter.unusedVariables false
set_option linter.unusedSimpArgs false

/-! ### glossatorref03_escape: function 58 -/
mutual
def glossatorref03_escape.j0 : Nat → ByteArray → Int → Int → Bool → Option (ByteArray × Int × Int)
  | 0, _, _, _, _ => none
  | k + 1, x0, x8, x9, x54 => if x54 = true then ((glossatorref02_Encode.f x8).bind fun t114 => (some (t114, x9, 0))) else (glossatorref03_escape.l0 k x0 x8 x9 (⟨#[92, 117]⟩ : ByteArray) 0)
def glossatorref03_escape.l0 : Nat → ByteArray → Int → Int → ByteArray → Int → Option (ByteArray × Int × Int)
  | 0, _, _, _, _, _ => none
  | k + 1, x0, x8, x9, x11, x12 => if x12 < 2 then (if (wrap64 (x9 + x12)) ≥ (x0.size : Int) then (some ((⟨#[]⟩ : ByteArray), (x0.size : Int), 3)) else (if 0 ≤ (wrap64 (x9 + x12)) then (if (wrap64 (x9 + x12)) < (x0.size : Int) then (if 0 ≤ x12 then (if x12 < (x11.size : Int) then (if (bt x0 (wrap64 (x9 + x12))) = (bt x11 x12) then (glossatorref03_escape.l0 k x0 x8 x9 x11 (wrap64 (x12 + 1))) else (some ((⟨#[]⟩ : ByteArray), wrap64 (x9 + x12), 4))) else (none)) else (none)) else (none)) else (none))) else ((glossatorref03_four.f k x0 (wrap64 (x9 + 2)) true).bind fun bt115 => (if bt115.2.2 = 0 then ((glossatorref02_Encode.f (wrap64 ((wrap64 ((wrap64 (65536 + (wrap64 ((wrap64 (x8 - 55296)) * 1024)))) + bt115.1)) - 56320))).bind fun t118 => (some (t118, bt115.2.1, 0))) else (some ((⟨#[]⟩ : ByteArray), bt115.2.1, bt115.2.2))))
end
def glossatorref03_escape.f (k : Nat) (a0 : ByteArray) (a1 : Int) : Option (ByteArray × Int × Int) := if a1 ≥ (a0.size : Int) then (some ((⟨#[]⟩ : ByteArray), (a0.size : Int), 3)) else (if 0 ≤ a1 then (if a1 < (a0.size : Int) then (if (bt a0 a1) = 117 then ((glossatorref03_four.f k a0 (wrap64 (a1 + 1)) false).bind fun bt111 => (if bt111.2.2 = 0 then (if bt111.1 < 55296 then (glossatorref03_escape.j0 k a0 bt111.1 bt111.2.1 true) else (glossatorref03_escape.j0 k a0 bt111.1 bt111.2.1 (decide (bt111.1 > 56319)))) else (some ((⟨#[]⟩ : ByteArray), bt111.2.1, bt111.2.2)))) else ((glossatorref03_plain.f k (bt a0 a1)).bind fun t107 => (if t107 = 0 then (some ((⟨#[]⟩ : ByteArray), a1, 4)) else (some (strOfNums (([t107] : List Int)), wrap64 (a1 + 1), 0))))) else (none)) else (none))
theorem glossatorref03_escape.mono_l : ∀ k, (∀ y0 y1 y2 y3, LeO (glossatorref03_escape.j0 k y0 y1 y2 y3) (glossatorref03_escape.j0 (k + 1) y0 y1 y2 y3)) ∧ (∀ y0 y1 y2 y3 y4, LeO (glossatorref03_escape.l0 k y0 y1 y2 y3 y4) (glossatorref03_escape.l0 (k + 1) y0 y1 y2 y3 y4))
  | 0 => ⟨fun _ _ _ _ r h => by simp [glossatorref03_escape.j0] at h, fun _ _ _ _ _ r h => by simp [glossatorref03_escape.l0] at h⟩
  | k + 1 => by
    obtain ⟨ih0, ih1⟩ := glossatorref03_escape.mono_l k
    refine ⟨?_, ?_⟩
    · intro y0 y1 y2 y3
      unfold glossatorref03_escape.j0
      repeat' first
      | (with_reducible exact ih0 _ _ _ _)
      | (with_reducible exact ih1 _ _ _ _ _)
      | (with_reducible exact glossatorref03_four.mono _ _ _ _)
      | (with_reducible exact glossatorref03_plain.mono _ _)
      | (with_reducible exact LeO.refl _)
      | (with_reducible exact LeO.none _)
      | (with_reducible refine LeO.ite ?_ ?_)
      | (with_reducible refine LeO.bind ?_ (fun _ => ?_))
      | exact ih0 _ _ _ _
      | exact ih1 _ _ _ _ _
      | exact glossatorref03_four.mono _ _ _ _
      | exact glossatorref03_plain.mono _ _
      | exact LeO.none _
      | refine LeO.ite ?_ ?_
      | refine LeO.bind ?_ (fun _ => ?_)
    · intro y0 y1 y2 y3 y4
      unfold glossatorref03_escape.l0
      repeat' first
      | (with_reducible exact ih0 _ _ _ _)
      | (with_reducible exact ih1 _ _ _ _ _)
      | (with_reducible exact glossatorref03_four.mono _ _ _ _)
      | (with_reducible exact glossatorref03_plain.mono _ _)
      | (with_reducible exact LeO.refl _)
      | (with_reducible exact LeO.none _)
      | (with_reducible refine LeO.ite ?_ ?_)
      | (with_reducible refine LeO.bind ?_ (fun _ => ?_))
      | exact ih0 _ _ _ _
      | exact ih1 _ _ _ _ _
      | exact glossatorref03_four.mono _ _ _ _
      | exact glossatorref03_plain.mono _ _
      | exact LeO.none _
      | refine LeO.ite ?_ ?_
      | refine LeO.bind ?_ (fun _ => ?_)
theorem glossatorref03_escape.mono : ∀ a0 a1 k, LeO (glossatorref03_escape.f k a0 a1) (glossatorref03_escape.f (k + 1) a0 a1) := by
  intro a0 a1 k
  obtain ⟨ih0, ih1⟩ := glossatorref03_escape.mono_l k
  unfold glossatorref03_escape.f
  repeat' first
      | (with_reducible exact ih0 _ _ _ _)
      | (with_reducible exact ih1 _ _ _ _ _)
      | (with_reducible exact glossatorref03_four.mono _ _ _ _)
      | (with_reducible exact glossatorref03_plain.mono _ _)
      | (with_reducible exact LeO.refl _)
      | (with_reducible exact LeO.none _)
      | (with_reducible refine LeO.ite ?_ ?_)
      | (with_reducible refine LeO.bind ?_ (fun _ => ?_))
      | exact ih0 _ _ _ _
      | exact ih1 _ _ _ _ _
      | exact glossatorref03_four.mono _ _ _ _
      | exact glossatorref03_plain.mono _ _
      | exact LeO.none _
      | refine LeO.ite ?_ ?_
      | refine LeO.bind ?_ (fun _ => ?_)
set_option maxHeartbeats 8000000 in
set_option maxRecDepth 100000 in
theorem glossatorref03_escape.calls (k : Nat) (a0 : ByteArray) (a1 : Int) (r1 : ByteArray) (r2 : Int) (r3 : Int) (w : World) (h : glossatorref03_escape.f k a0 a1 = some (r1, r2, r3)) :
    Calls Try.prog 58 #[.string a0, .int .i64 a1] w fun e w' => e = .returned (.tuple #[.string r1, .int .i64 r2, .int .i64 r3]) ∧ Below w.heap.size w w' := by
  have HB := Aside0.mk (Below.refl w.heap.size w)
  have H : (if a1 ≥ (a0.size : Int) then (some ((⟨#[]⟩ : ByteArray), (a0.size : Int), 3)) else (if 0 ≤ a1 then (if a1 < (a0.size : Int) then (if (bt a0 a1) = 117 then ((glossatorref03_four.f k a0 (wrap64 (a1 + 1)) false).bind fun bt111 => (if bt111.2.2 = 0 then (if bt111.1 < 55296 then (glossatorref03_escape.j0 k a0 bt111.1 bt111.2.1 true) else (glossatorref03_escape.j0 k a0 bt111.1 bt111.2.1 (decide (bt111.1 > 56319)))) else (some ((⟨#[]⟩ : ByteArray), bt111.2.1, bt111.2.2)))) else ((glossatorref03_plain.f k (bt a0 a1)).bind fun t107 => (if t107 = 0 then (some ((⟨#[]⟩ : ByteArray), a1, 4)) else (some (strOfNums (([t107] : List Int)), wrap64 (a1 + 1), 0))))) else (none)) else (none))) = some (r1, r2, r3) := h
  clear h
  by_cases c3 : a1 ≥ (a0.size : Int)
  · rw [if_pos c3] at H
    have c3b0 : decide ((a0.size : Int) ≤ a1) = true := decide_eq_true c3
    clear c3
    simp only [Option.some.injEq, Prod.mk.injEq] at H
    obtain ⟨rfl, rfl, rfl⟩ := H
    go_enter Try.func58, Try.ntmps58
    go_wp2
    repeat (go_quiet (fail); try go_wp2)
    go_ret3
    exact ⟨by first | rfl | (simp [errW_none, errW_some] <;> rfl) | (simp [*, errW_none, errW_some] <;> rfl), by repeat (first | (with_reducible first | exact HB.out | apply below_alloc | apply pw_below_drewN | apply below_drew1) | exact HB.out)⟩
  · rw [if_neg c3] at H
    have c3b0 : decide ((a0.size : Int) ≤ a1) = false := decide_eq_false c3
    clear c3
    by_cases c4 : 0 ≤ a1
    · rw [if_pos c4] at H
      have c4b0 : decide (0 ≤ a1) = true := decide_eq_true c4
      clear c4
      by_cases c5 : a1 < (a0.size : Int)
      · rw [if_pos c5] at H
        have c5b0 : decide (a1 < (a0.size : Int)) = true := decide_eq_true c5
        clear c5
        by_cases c7 : (bt a0 a1) = 117
        · rw [if_pos c7] at H
          have c7b0 : ((bt a0 a1) == 117) = true := beq_iff_eq.mpr c7
          have c7b1 : ((bt a0 a1) != 117) = false := bne_eq_false_iff_eq.mpr c7
          clear c7
          replace H := Option.bind_eq_some_iff.mp H
          obtain ⟨⟨t111, t112, t113⟩, A80, H⟩ := H
          replace H : (if t113 = 0 then (if t111 < 55296 then (glossatorref03_escape.j0 k a0 t111 t112 true) else (glossatorref03_escape.j0 k a0 t111 t112 (decide (t111 > 56319)))) else (some ((⟨#[]⟩ : ByteArray), t112, t113))) = some (r1, r2, r3) := H
          have A8 := Aside0.mk A80
          clear A80
          by_cases c9 : t113 = 0
          · rw [if_pos c9] at H
            have c9b0 : (t113 == 0) = true := beq_iff_eq.mpr c9
            have c9b1 : (t113 != 0) = false := bne_eq_false_iff_eq.mpr c9
            clear c9
            have HC10 := Aside0.mk H
            clear H
            have p6 : 0 ≤ (a1 : Int) := of_decide_eq_true (by first | (with_reducible assumption) | assumption)
            have q6 : a1 < (a0.size : Int) := of_decide_eq_true (by first | (with_reducible assumption) | assumption)
            have hx6 := bt_at a0 a1
            replace p6 := eq_true p6
            replace q6 := eq_true q6
            go_enter Try.func58, Try.ntmps58
            go_upto_region 11 with (first | (go_at_call 73; (with_reducible refine (glossatorref03_four.calls k a0 (wrap64 (a1 + 1)) false t111 t112 t113 _ A8.out).mono ?_); rintro e w' ⟨rfl, ⟨nd, rfl⟩⟩; (try first | exact ⟨rfl, _, World.drewN_drewN _ _ _⟩ | exact ⟨rfl, _, Eq.trans (World.drewN_drewN _ _ _) (congrArg (World.drewN _) (Nat.add_assoc _ _ _))⟩)))
            repeat (go_quiet (first | (go_at_call 73; (with_reducible refine (glossatorref03_four.calls k a0 (wrap64 (a1 + 1)) false t111 t112 t113 _ A8.out).mono ?_); rintro e w' ⟨rfl, ⟨nd, rfl⟩⟩; (try first | exact ⟨rfl, _, World.drewN_drewN _ _ _⟩ | exact ⟨rfl, _, Eq.trans (World.drewN_drewN _ _ _) (congrArg (World.drewN _) (Nat.add_assoc _ _ _))⟩))); go_upto_region 11 with (first | (go_at_call 73; (with_reducible refine (glossatorref03_four.calls k a0 (wrap64 (a1 + 1)) false t111 t112 t113 _ A8.out).mono ?_); rintro e w' ⟨rfl, ⟨nd, rfl⟩⟩; (try first | exact ⟨rfl, _, World.drewN_drewN _ _ _⟩ | exact ⟨rfl, _, Eq.trans (World.drewN_drewN _ _ _) (congrArg (World.drewN _) (Nat.add_assoc _ _ _))⟩))))
            (try simp only [Act.put, List.setIfInBounds_toArray, List.set_cons_zero, List.set_cons_succ])
            go_cut [54] (fun v54 wc => ∃ (kq : Nat) (x54_9 : Bool), v54 = .bool x54_9 ∧ Aside0 (glossatorref03_escape.j0 kq a0 t111 t112 x54_9 = some (r1, r2, r3)) ∧ Aside0 (kq ≤ k) ∧ Aside0 (Below w.heap.size w wc))
            case first =>
              have H := HC10.out
              clear HC10
              by_cases c11 : t111 < 55296
              · rw [if_pos c11] at H
                have c11b0 : decide (t111 < 55296) = true := decide_eq_true c11
                clear c11
                (first | rw [c11b0] | (simp only [i64_w, i32_w]; rw [c11b0]) | skip)
                have H' := Aside0.mk H
                clear H
                go_wp2
                repeat (go_quiet (fail); try go_wp2)
                go_meet
                case rel => exact ⟨_, (true), (by first | rfl | (simp; done) | (simp [*]; done)), H', ⟨by first | omega | exact Nat.le_refl _⟩, ⟨by repeat (first | (with_reducible first | exact HB.out | apply below_alloc | apply pw_below_drewN | apply below_drew1) | exact HB.out)⟩⟩
              · rw [if_neg c11] at H
                have c11b0 : decide (t111 < 55296) = false := decide_eq_false c11
                clear c11
                (first | rw [c11b0] | (simp only [i64_w, i32_w]; rw [c11b0]) | skip)
                have H' := Aside0.mk H
                clear H
                go_wp2
                repeat (go_quiet (fail); try go_wp2)
                go_meet
                case rel => exact ⟨_, (decide (t111 > 56319)), (by first | rfl | (simp; done) | (simp [*]; done)), H', ⟨by first | omega | exact Nat.le_refl _⟩, ⟨by repeat (first | (with_reducible first | exact HB.out | apply below_alloc | apply pw_below_drewN | apply below_drew1) | exact HB.out)⟩⟩
            case rest =>
              clear HC10
              try clear c1
              try clear p2
              try clear c3
              try clear c3b0
              try clear c4
              try clear c4b0
              try clear c5
              try clear c5b0
              try clear p6
              try clear q6
              try clear hx6
              try clear c7
              try clear c7b0
              try clear c7b1
              try clear c9
              try clear c9b0
              try clear c9b1
              try clear c11
              try clear c11b0
              try clear p6
              try clear q6
              obtain ⟨kq, x54_9, rfl, HA, HJ9, HB⟩ := hcut
              cases kq with
              | zero => exact absurd HA.out (by simp [glossatorref03_escape.j0])
              | succ kj9 =>
                have H := HA.out
                clear HA
                simp only [glossatorref03_escape.j0] at H
                by_cases c12 : x54_9 = true
                · subst c12
                  have H1 : ((glossatorref02_Encode.f t111).bind fun t114 => (some (t114, t112, 0))) = some (r1, r2, r3) := by rw [if_pos rfl] at H; exact H
                  clear H
                  have H := H1
                  clear H1
                  replace H := Option.bind_eq_some_iff.mp H
                  obtain ⟨t114, A130, H⟩ := H
                  replace H : (some (t114, t112, 0)) = some (r1, r2, r3) := H
                  have A13 := Aside0.mk A130
                  clear A130
                  simp only [Option.some.injEq, Prod.mk.injEq] at H
                  obtain ⟨rfl, rfl, rfl⟩ := H
                  go_wp2_with (first | (go_at_call 29; (with_reducible refine (glossatorref02_Encode.calls t111 t114 _ A13.out).mono ?_); rintro e w14 ⟨rfl, hb⟩; have n0_ := Aside0.mk (below_step (by repeat (first | (with_reducible first | exact HB.out | apply below_alloc | apply pw_below_drewN | apply below_drew1) | exact HB.out)) hb); clear HB; have HB := n0_; clear n0_; (try clear hb); (try clear hb2); (try clear hk); (try clear hi)))
                  repeat (go_quiet (first | (go_at_call 29; (with_reducible refine (glossatorref02_Encode.calls t111 t114 _ A13.out).mono ?_); rintro e w14 ⟨rfl, hb⟩; have n0_ := Aside0.mk (below_step (by repeat (first | (with_reducible first | exact HB.out | apply below_alloc | apply pw_below_drewN | apply below_drew1) | exact HB.out)) hb); clear HB; have HB := n0_; clear n0_; (try clear hb); (try clear hb2); (try clear hk); (try clear hi))); try go_wp2_with (first | (go_at_call 29; (with_reducible refine (glossatorref02_Encode.calls t111 t114 _ A13.out).mono ?_); rintro e w14 ⟨rfl, hb⟩; have n0_ := Aside0.mk (below_step (by repeat (first | (with_reducible first | exact HB.out | apply below_alloc | apply pw_below_drewN | apply below_drew1) | exact HB.out)) hb); clear HB; have HB := n0_; clear n0_; (try clear hb); (try clear hb2); (try clear hk); (try clear hi))))
                  go_ret3
                  exact ⟨by first | rfl | (simp [errW_none, errW_some] <;> rfl) | (simp [*, errW_none, errW_some] <;> rfl), by repeat (first | (with_reducible first | exact HB.out | apply below_alloc | apply pw_below_drewN | apply below_drew1) | exact HB.out)⟩
                · replace c12 := Bool.eq_false_iff.mpr c12
                  subst c12
                  have H1 : (glossatorref03_escape.l0 kj9 a0 t111 t112 (⟨#[92, 117]⟩ : ByteArray) 0) = some (r1, r2, r3) := by rw [if_neg (show ¬ (false = true) by decide)] at H; exact H
                  clear H
                  have H := H1
                  clear H1
                  have H' := Aside0.mk H
                  clear H
                  go_wp2
                  repeat (go_quiet (fail); try go_wp2)
                  go_loopg [12] kj9 (fun kq v12 w' => ∃ (x12_2 : Int), v12 = .int .i64 x12_2 ∧ Aside0 (glossatorref03_escape.l0 kq a0 t111 t112 (⟨#[92, 117]⟩ : ByteArray) x12_2 = some (r1, r2, r3)) ∧ Aside0 (kq ≤ kj9) ∧ Aside0 (Below w.heap.size w w'))
                  case atStart => exact ⟨(0), (by first | rfl | (simp; done) | (simp [*]; done)), H', ⟨Nat.le_refl _⟩, ⟨by repeat (first | (with_reducible first | exact HB.out | apply below_alloc | apply pw_below_drewN | apply below_drew1) | exact HB.out)⟩⟩
                  case round =>
                    clear H'
                    try clear c1
                    try clear p2
                    try clear c3
                    try clear c3b0
                    try clear c4
                    try clear c4b0
                    try clear c5
                    try clear c5b0
                    try clear p6
                    try clear q6
                    try clear hx6
                    try clear c7
                    try clear c7b0
                    try clear c7b1
                    try clear c9
                    try clear c9b0
                    try clear c9b1
                    try clear c11
                    try clear c11b0
                    try clear c12
                    try clear p2
                    try clear p6
                    try clear q6
                    obtain ⟨x12_2, rfl, HA, HK2, HB⟩ := hrel
                    cases gk with
                    | zero => exact absurd HA.out (by simp [glossatorref03_escape.l0])
                    | succ k2 =>
                      have H := HA.out
                      clear HA
                      simp only [glossatorref03_escape.l0] at H
                      by_cases c15 : x12_2 < 2
                      · rw [if_pos c15] at H
                        have c15b0 : decide (x12_2 < 2) = true := decide_eq_true c15
                        clear c15
                        by_cases c16 : (wrap64 (t112 + x12_2)) ≥ (a0.size : Int)
                        · rw [if_pos c16] at H
                          have c16b0 : decide ((a0.size : Int) ≤ (wrap64 (t112 + x12_2))) = true := decide_eq_true c16
                          clear c16
                          simp only [Option.some.injEq, Prod.mk.injEq] at H
                          obtain ⟨rfl, rfl, rfl⟩ := H
                          go_wp2
                          repeat (go_quiet (fail); try go_wp2)
                          go_ret3
                          exact ⟨by first | rfl | (simp [errW_none, errW_some] <;> rfl) | (simp [*, errW_none, errW_some] <;> rfl), by repeat (first | (with_reducible first | exact HB.out | apply below_alloc | apply pw_below_drewN | apply below_drew1) | exact HB.out)⟩
                        · rw [if_neg c16] at H
                          have c16b0 : decide ((a0.size : Int) ≤ (wrap64 (t112 + x12_2))) = false := decide_eq_false c16
                          clear c16
                          obtain ⟨ji17, hji17⟩ : ∃ j_ : Int, (wrap64 (t112 + x12_2)) = j_ := ⟨_, rfl⟩
                          replace H : (if 0 ≤ (ji17) then (if (ji17) < (a0.size : Int) then (if 0 ≤ x12_2 then (if x12_2 < ((⟨#[92, 117]⟩ : ByteArray).size : Int) then (if (bt a0 (ji17)) = (bt (⟨#[92, 117]⟩ : ByteArray) x12_2) then (glossatorref03_escape.l0 k2 a0 t111 t112 (⟨#[92, 117]⟩ : ByteArray) (wrap64 (x12_2 + 1))) else (some ((⟨#[]⟩ : ByteArray), ji17, 4))) else (none)) else (none)) else (none)) else (none)) = some (r1, r2, r3) := by first | (rw [hji17] at H; exact H) | (simp only [hji17] at H ⊢; exact H)
                          (try rw [hji17] at c16b0)
                          have hji17w : (IntKind.i64.wrap (t112 + x12_2)) = ji17 := (i64_w _).trans hji17
                          by_cases c18 : 0 ≤ (ji17)
                          · rw [if_pos c18] at H
                            have c18b0 : decide (0 ≤ (ji17)) = true := decide_eq_true c18
                            clear c18
                            by_cases c19 : (ji17) < (a0.size : Int)
                            · rw [if_pos c19] at H
                              have c19b0 : decide ((ji17) < (a0.size : Int)) = true := decide_eq_true c19
                              clear c19
                              by_cases c21 : 0 ≤ x12_2
                              · rw [if_pos c21] at H
                                have c21b0 : decide (0 ≤ x12_2) = true := decide_eq_true c21
                                clear c21
                                by_cases c22 : x12_2 < ((⟨#[92, 117]⟩ : ByteArray).size : Int)
                                · rw [if_pos c22] at H
                                  have c22b0 : decide (x12_2 < ((⟨#[92, 117]⟩ : ByteArray).size : Int)) = true := decide_eq_true c22
                                  clear c22
                                  by_cases c24 : (bt a0 (ji17)) = (bt (⟨#[92, 117]⟩ : ByteArray) x12_2)
                                  · rw [if_pos c24] at H
                                    have c24b0 : ((bt a0 (ji17)) == (bt (⟨#[92, 117]⟩ : ByteArray) x12_2)) = true := beq_iff_eq.mpr c24
                                    have c24b1 : ((bt a0 (ji17)) != (bt (⟨#[92, 117]⟩ : ByteArray) x12_2)) = false := bne_eq_false_iff_eq.mpr c24
                                    clear c24
                                    have H' := Aside0.mk H
                                    clear H
                                    have p20 : 0 ≤ ((ji17) : Int) := of_decide_eq_true (by first | (with_reducible assumption) | assumption)
                                    have q20 : (ji17) < (a0.size : Int) := of_decide_eq_true (by first | (with_reducible assumption) | assumption)
                                    have hx20 := bt_at a0 (ji17)
                                    replace p20 := eq_true p20
                                    replace q20 := eq_true q20
                                    have p23 : 0 ≤ (x12_2 : Int) := of_decide_eq_true (by first | (with_reducible assumption) | assumption)
                                    have q23 : x12_2 < (2 : Int) := of_decide_eq_true (by first | (with_reducible assumption) | assumption)
                                    have hx23 := bt_at (⟨#[92, 117]⟩ : ByteArray) x12_2
                                    replace p23 := eq_true p23
                                    replace q23 := eq_true q23
                                    go_wp2
                                    repeat (go_quiet (fail); try go_wp2)
                                    go_roundg k2
                                    case measure => have := HJ9.out; have := HK2.out; omega
                                    case rel => exact ⟨(wrap64 (x12_2 + 1)), (by first | rfl | (simp; done) | (simp [*]; done)), H', ⟨by have := HJ9.out; have := HK2.out; omega⟩, ⟨by repeat (first | (with_reducible first | exact HB.out | apply below_alloc | apply pw_below_drewN | apply below_drew1) | exact HB.out)⟩⟩
                                  · rw [if_neg c24] at H
                                    have c24b0 : ((bt a0 (ji17)) == (bt (⟨#[92, 117]⟩ : ByteArray) x12_2)) = false := beq_eq_false_iff_ne.mpr c24
                                    have c24b1 : ((bt a0 (ji17)) != (bt (⟨#[92, 117]⟩ : ByteArray) x12_2)) = true := bne_iff_ne.mpr c24
                                    simp only [Option.some.injEq, Prod.mk.injEq] at H
                                    obtain ⟨rfl, rfl, rfl⟩ := H
                                    have p20 : 0 ≤ ((ji17) : Int) := of_decide_eq_true (by first | (with_reducible assumption) | assumption)
                                    have q20 : (ji17) < (a0.size : Int) := of_decide_eq_true (by first | (with_reducible assumption) | assumption)
                                    have hx20 := bt_at a0 (ji17)
                                    replace p20 := eq_true p20
                                    replace q20 := eq_true q20
                                    have p23 : 0 ≤ (x12_2 : Int) := of_decide_eq_true (by first | (with_reducible assumption) | assumption)
                                    have q23 : x12_2 < (2 : Int) := of_decide_eq_true (by first | (with_reducible assumption) | assumption)
                                    have hx23 := bt_at (⟨#[92, 117]⟩ : ByteArray) x12_2
                                    replace p23 := eq_true p23
                                    replace q23 := eq_true q23
                                    go_wp2
                                    repeat (go_quiet (fail); try go_wp2)
                                    go_ret3
                                    exact ⟨by first | rfl | (simp [errW_none, errW_some] <;> rfl) | (simp only [← hji17]; first | rfl | (simp [errW_none, errW_some] <;> rfl)) | (simp [*, errW_none, errW_some] <;> rfl), by repeat (first | (with_reducible first | exact HB.out | apply below_alloc | apply pw_below_drewN | apply below_drew1) | exact HB.out)⟩
                                · rw [if_neg c22] at H
                                  exact absurd H (by simp)
                              · rw [if_neg c21] at H
                                exact absurd H (by simp)
                            · rw [if_neg c19] at H
                              exact absurd H (by simp)
                          · rw [if_neg c18] at H
                            exact absurd H (by simp)
                      · rw [if_neg c15] at H
                        have c15b0 : decide (x12_2 < 2) = false := decide_eq_false c15
                        clear c15
                        replace H := Option.bind_eq_some_iff.mp H
                        obtain ⟨⟨t115, t116, t117⟩, A250, H⟩ := H
                        replace H : (if t117 = 0 then ((glossatorref02_Encode.f (wrap64 ((wrap64 ((wrap64 (65536 + (wrap64 ((wrap64 (t111 - 55296)) * 1024)))) + t115)) - 56320))).bind fun t118 => (some (t118, t116, 0))) else (some ((⟨#[]⟩ : ByteArray), t116, t117))) = some (r1, r2, r3) := H
                        have A25 := Aside0.mk A250
                        clear A250
                        by_cases c26 : t117 = 0
                        · rw [if_pos c26] at H
                          have c26b0 : (t117 == 0) = true := beq_iff_eq.mpr c26
                          have c26b1 : (t117 != 0) = false := bne_eq_false_iff_eq.mpr c26
                          clear c26
                          replace H := Option.bind_eq_some_iff.mp H
                          obtain ⟨t118, A270, H⟩ := H
                          replace H : (some (t118, t116, 0)) = some (r1, r2, r3) := H
                          have A27 := Aside0.mk A270
                          clear A270
                          simp only [Option.some.injEq, Prod.mk.injEq] at H
                          obtain ⟨rfl, rfl, rfl⟩ := H
                          go_wp2_with (first | (go_at_call 73; (with_reducible refine (glossatorref03_four.calls k2 a0 (wrap64 (t112 + 2)) true t115 t116 t117 _ A25.out).mono ?_); rintro e w' ⟨rfl, ⟨nd, rfl⟩⟩; (try first | exact ⟨rfl, _, World.drewN_drewN _ _ _⟩ | exact ⟨rfl, _, Eq.trans (World.drewN_drewN _ _ _) (congrArg (World.drewN _) (Nat.add_assoc _ _ _))⟩)) | (go_at_call 29; (with_reducible refine (glossatorref02_Encode.calls (wrap64 ((wrap64 ((wrap64 (65536 + (wrap64 ((wrap64 (t111 - 55296)) * 1024)))) + t115)) - 56320)) t118 _ A27.out).mono ?_); rintro e w28 ⟨rfl, hb⟩; have n0_ := Aside0.mk (below_step (by repeat (first | (with_reducible first | exact HB.out | apply below_alloc | apply pw_below_drewN | apply below_drew1) | exact HB.out)) hb); clear HB; have HB := n0_; clear n0_; (try clear hb); (try clear hb2); (try clear hk); (try clear hi)))
                          repeat (go_quiet (first | (go_at_call 73; (with_reducible refine (glossatorref03_four.calls k2 a0 (wrap64 (t112 + 2)) true t115 t116 t117 _ A25.out).mono ?_); rintro e w' ⟨rfl, ⟨nd, rfl⟩⟩; (try first | exact ⟨rfl, _, World.drewN_drewN _ _ _⟩ | exact ⟨rfl, _, Eq.trans (World.drewN_drewN _ _ _) (congrArg (World.drewN _) (Nat.add_assoc _ _ _))⟩)) | (go_at_call 29; (with_reducible refine (glossatorref02_Encode.calls (wrap64 ((wrap64 ((wrap64 (65536 + (wrap64 ((wrap64 (t111 - 55296)) * 1024)))) + t115)) - 56320)) t118 _ A27.out).mono ?_); rintro e w28 ⟨rfl, hb⟩; have n0_ := Aside0.mk (below_step (by repeat (first | (with_reducible first | exact HB.out | apply below_alloc | apply pw_below_drewN | apply below_drew1) | exact HB.out)) hb); clear HB; have HB := n0_; clear n0_; (try clear hb); (try clear hb2); (try clear hk); (try clear hi))); try go_wp2_with (first | (go_at_call 73; (with_reducible refine (glossatorref03_four.calls k2 a0 (wrap64 (t112 + 2)) true t115 t116 t117 _ A25.out).mono ?_); rintro e w' ⟨rfl, ⟨nd, rfl⟩⟩; (try first | exact ⟨rfl, _, World.drewN_drewN _ _ _⟩ | exact ⟨rfl, _, Eq.trans (World.drewN_drewN _ _ _) (congrArg (World.drewN _) (Nat.add_assoc _ _ _))⟩)) | (go_at_call 29; (with_reducible refine (glossatorref02_Encode.calls (wrap64 ((wrap64 ((wrap64 (65536 + (wrap64 ((wrap64 (t111 - 55296)) * 1024)))) + t115)) - 56320)) t118 _ A27.out).mono ?_); rintro e w28 ⟨rfl, hb⟩; have n0_ := Aside0.mk (below_step (by repeat (first | (with_reducible first | exact HB.out | apply below_alloc | apply pw_below_drewN | apply below_drew1) | exact HB.out)) hb); clear HB; have HB := n0_; clear n0_; (try clear hb); (try clear hb2); (try clear hk); (try clear hi))))
                          go_ret3
                          exact ⟨by first | rfl | (simp [errW_none, errW_some] <;> rfl) | (simp [*, errW_none, errW_some] <;> rfl), by repeat (first | (with_reducible first | exact HB.out | apply below_alloc | apply pw_below_drewN | apply below_drew1) | exact HB.out)⟩
                        · rw [if_neg c26] at H
                          have c26b0 : (t117 == 0) = false := beq_eq_false_iff_ne.mpr c26
                          have c26b1 : (t117 != 0) = true := bne_iff_ne.mpr c26
                          simp only [Option.some.injEq, Prod.mk.injEq] at H
                          obtain ⟨rfl, rfl, rfl⟩ := H
                          go_wp2_with (first | (go_at_call 73; (with_reducible refine (glossatorref03_four.calls k2 a0 (wrap64 (t112 + 2)) true t115 t116 t117 _ A25.out).mono ?_); rintro e w' ⟨rfl, ⟨nd, rfl⟩⟩; (try first | exact ⟨rfl, _, World.drewN_drewN _ _ _⟩ | exact ⟨rfl, _, Eq.trans (World.drewN_drewN _ _ _) (congrArg (World.drewN _) (Nat.add_assoc _ _ _))⟩)))
                          repeat (go_quiet (first | (go_at_call 73; (with_reducible refine (glossatorref03_four.calls k2 a0 (wrap64 (t112 + 2)) true t115 t116 t117 _ A25.out).mono ?_); rintro e w' ⟨rfl, ⟨nd, rfl⟩⟩; (try first | exact ⟨rfl, _, World.drewN_drewN _ _ _⟩ | exact ⟨rfl, _, Eq.trans (World.drewN_drewN _ _ _) (congrArg (World.drewN _) (Nat.add_assoc _ _ _))⟩))); try go_wp2_with (first | (go_at_call 73; (with_reducible refine (glossatorref03_four.calls k2 a0 (wrap64 (t112 + 2)) true t115 t116 t117 _ A25.out).mono ?_); rintro e w' ⟨rfl, ⟨nd, rfl⟩⟩; (try first | exact ⟨rfl, _, World.drewN_drewN _ _ _⟩ | exact ⟨rfl, _, Eq.trans (World.drewN_drewN _ _ _) (congrArg (World.drewN _) (Nat.add_assoc _ _ _))⟩))))
                          go_ret3
                          exact ⟨by first | rfl | (simp [errW_none, errW_some] <;> rfl) | (simp [*, errW_none, errW_some] <;> rfl), by repeat (first | (with_reducible first | exact HB.out | apply below_alloc | apply pw_below_drewN | apply below_drew1) | exact HB.out)⟩
          · rw [if_neg c9] at H
            have c9b0 : (t113 == 0) = false := beq_eq_false_iff_ne.mpr c9
            have c9b1 : (t113 != 0) = true := bne_iff_ne.mpr c9
            simp only [Option.some.injEq, Prod.mk.injEq] at H
            obtain ⟨rfl, rfl, rfl⟩ := H
            have p6 : 0 ≤ (a1 : Int) := of_decide_eq_true (by first | (with_reducible assumption) | assumption)
            have q6 : a1 < (a0.size : Int) := of_decide_eq_true (by first | (with_reducible assumption) | assumption)
            have hx6 := bt_at a0 a1
            replace p6 := eq_true p6
            replace q6 := eq_true q6
            go_enter Try.func58, Try.ntmps58
            go_wp2_with (first | (go_at_call 73; (with_reducible refine (glossatorref03_four.calls k a0 (wrap64 (a1 + 1)) false t111 t112 t113 _ A8.out).mono ?_); rintro e w' ⟨rfl, ⟨nd, rfl⟩⟩; (try first | exact ⟨rfl, _, World.drewN_drewN _ _ _⟩ | exact ⟨rfl, _, Eq.trans (World.drewN_drewN _ _ _) (congrArg (World.drewN _) (Nat.add_assoc _ _ _))⟩)))
            repeat (go_quiet (first | (go_at_call 73; (with_reducible refine (glossatorref03_four.calls k a0 (wrap64 (a1 + 1)) false t111 t112 t113 _ A8.out).mono ?_); rintro e w' ⟨rfl, ⟨nd, rfl⟩⟩; (try first | exact ⟨rfl, _, World.drewN_drewN _ _ _⟩ | exact ⟨rfl, _, Eq.trans (World.drewN_drewN _ _ _) (congrArg (World.drewN _) (Nat.add_assoc _ _ _))⟩))); try go_wp2_with (first | (go_at_call 73; (with_reducible refine (glossatorref03_four.calls k a0 (wrap64 (a1 + 1)) false t111 t112 t113 _ A8.out).mono ?_); rintro e w' ⟨rfl, ⟨nd, rfl⟩⟩; (try first | exact ⟨rfl, _, World.drewN_drewN _ _ _⟩ | exact ⟨rfl, _, Eq.trans (World.drewN_drewN _ _ _) (congrArg (World.drewN _) (Nat.add_assoc _ _ _))⟩))))
            go_ret3
            exact ⟨by first | rfl | (simp [errW_none, errW_some] <;> rfl) | (simp [*, errW_none, errW_some] <;> rfl), by repeat (first | (with_reducible first | exact HB.out | apply below_alloc | apply pw_below_drewN | apply below_drew1) | exact HB.out)⟩
        · rw [if_neg c7] at H
          have c7b0 : ((bt a0 a1) == 117) = false := beq_eq_false_iff_ne.mpr c7
          have c7b1 : ((bt a0 a1) != 117) = true := bne_iff_ne.mpr c7
          replace H := Option.bind_eq_some_iff.mp H
          obtain ⟨t107, A300, H⟩ := H
          replace H : (if t107 = 0 then (some ((⟨#[]⟩ : ByteArray), a1, 4)) else (some (strOfNums (([t107] : List Int)), wrap64 (a1 + 1), 0))) = some (r1, r2, r3) := H
          have A30 := Aside0.mk A300
          clear A300
          by_cases c31 : t107 = 0
          · rw [if_pos c31] at H
            have c31b0 : (t107 == 0) = true := beq_iff_eq.mpr c31
            have c31b1 : (t107 != 0) = false := bne_eq_false_iff_eq.mpr c31
            clear c31
            simp only [Option.some.injEq, Prod.mk.injEq] at H
            obtain ⟨rfl, rfl, rfl⟩ := H
            have p6 : 0 ≤ (a1 : Int) := of_decide_eq_true (by first | (with_reducible assumption) | assumption)
            have q6 : a1 < (a0.size : Int) := of_decide_eq_true (by first | (with_reducible assumption) | assumption)
            have hx6 := bt_at a0 a1
            replace p6 := eq_true p6
            replace q6 := eq_true q6
            have p29 : 0 ≤ (a1 : Int) := of_decide_eq_true (by first | (with_reducible assumption) | assumption)
            have q29 : a1 < (a0.size : Int) := of_decide_eq_true (by first | (with_reducible assumption) | assumption)
            have hx29 := bt_at a0 a1
            replace p29 := eq_true p29
            replace q29 := eq_true q29
            go_enter Try.func58, Try.ntmps58
            go_wp2_with (first | (go_at_call 72; (with_reducible refine (glossatorref03_plain.calls k (bt a0 a1) t107 _ A30.out).mono ?_); rintro e w' ⟨rfl, ⟨nd, rfl⟩⟩; (try first | exact ⟨rfl, _, World.drewN_drewN _ _ _⟩ | exact ⟨rfl, _, Eq.trans (World.drewN_drewN _ _ _) (congrArg (World.drewN _) (Nat.add_assoc _ _ _))⟩)))
            repeat (go_quiet (first | (go_at_call 72; (with_reducible refine (glossatorref03_plain.calls k (bt a0 a1) t107 _ A30.out).mono ?_); rintro e w' ⟨rfl, ⟨nd, rfl⟩⟩; (try first | exact ⟨rfl, _, World.drewN_drewN _ _ _⟩ | exact ⟨rfl, _, Eq.trans (World.drewN_drewN _ _ _) (congrArg (World.drewN _) (Nat.add_assoc _ _ _))⟩))); try go_wp2_with (first | (go_at_call 72; (with_reducible refine (glossatorref03_plain.calls k (bt a0 a1) t107 _ A30.out).mono ?_); rintro e w' ⟨rfl, ⟨nd, rfl⟩⟩; (try first | exact ⟨rfl, _, World.drewN_drewN _ _ _⟩ | exact ⟨rfl, _, Eq.trans (World.drewN_drewN _ _ _) (congrArg (World.drewN _) (Nat.add_assoc _ _ _))⟩))))
            go_ret3
            exact ⟨by first | rfl | (simp [errW_none, errW_some] <;> rfl) | (simp [*, errW_none, errW_some] <;> rfl), by repeat (first | (with_reducible first | exact HB.out | apply below_alloc | apply pw_below_drewN | apply below_drew1) | exact HB.out)⟩
          · rw [if_neg c31] at H
            have c31b0 : (t107 == 0) = false := beq_eq_false_iff_ne.mpr c31
            have c31b1 : (t107 != 0) = true := bne_iff_ne.mpr c31
            obtain ⟨y108, hy108⟩ : ∃ y_ : List Int, y_ = (([t107] : List Int)) := ⟨_, rfl⟩
            replace H : (some (strOfNums y108, wrap64 (a1 + 1), 0)) = some (r1, r2, r3) := by first | (rw [hy108]; with_reducible exact H) | (have H2_ := (Option.bind_some _ _).symm.trans H; rw [hy108]; with_reducible exact H2_) | (have H2_ := (Option.bind_some _ _).symm.trans H; with_reducible exact H2_) | with_reducible exact H | (rw [hy108]; exact H) | exact H
            have Ny108 := Aside0.mk hy108
            clear hy108
            simp only [Option.some.injEq, Prod.mk.injEq] at H
            obtain ⟨rfl, rfl, rfl⟩ := H
            have p6 : 0 ≤ (a1 : Int) := of_decide_eq_true (by first | (with_reducible assumption) | assumption)
            have q6 : a1 < (a0.size : Int) := of_decide_eq_true (by first | (with_reducible assumption) | assumption)
            have hx6 := bt_at a0 a1
            replace p6 := eq_true p6
            replace q6 := eq_true q6
            have p29 : 0 ≤ (a1 : Int) := of_decide_eq_true (by first | (with_reducible assumption) | assumption)
            have q29 : a1 < (a0.size : Int) := of_decide_eq_true (by first | (with_reducible assumption) | assumption)
            have hx29 := bt_at a0 a1
            replace p29 := eq_true p29
            replace q29 := eq_true q29
            go_enter Try.func58, Try.ntmps58
            go_wp2_with (first | (go_at_call 72; (with_reducible refine (glossatorref03_plain.calls k (bt a0 a1) t107 _ A30.out).mono ?_); rintro e w' ⟨rfl, ⟨nd, rfl⟩⟩; (try first | exact ⟨rfl, _, World.drewN_drewN _ _ _⟩ | exact ⟨rfl, _, Eq.trans (World.drewN_drewN _ _ _) (congrArg (World.drewN _) (Nat.add_assoc _ _ _))⟩)) | ((with_reducible refine gate_dst (N := 33) rfl ?_); refine Kd.R_lit (Kd.int .u8) _ 5 ?hg (N := 33) ?hd (xs := ([t107] : List Int)) (inner := [.int .u8 t107]) (ok := fun _ => True) (okp := fun _ => True) ?hr ?hp (fun _ hk => hk) trivial (Below.refl _ _) (Nat.le_refl _) (by simp) ?_; (case hd => rfl); (case hg => rfl); (case hr => first | (go_simp; done) | (go_simp; rfl)); (case hp => exact (Reps.one (show Kd.M (Kd.int .u8) _ _ _ t107 [.int .u8 t107] from rfl) (Reps.none _ _))); intro v109 w32 ho33 hb hg_ hnew_; clear hg_ hnew_; (first | rw [← Ny108.out] at ho33 | (simp only [Int.reduceToNat] at ho33; rw [← Ny108.out] at ho33)); have n0_ := Aside0.mk (Kd.R_lower ho33 (below_size (by repeat (first | (with_reducible first | exact HB.out | apply below_alloc | apply pw_below_drewN | apply below_drew1) | exact HB.out)))); have n1_ := Aside0.mk (below_step (by repeat (first | (with_reducible first | exact HB.out | apply below_alloc | apply pw_below_drewN | apply below_drew1) | exact HB.out)) hb); clear HB; have HO110 := n0_; have HB := n1_; clear n0_ n1_; clear hb ho33; have hcv34 := own_string (P := Try.prog) Try.underlying28 Try.underlying5 Try.underlying9 (Kd.own_of_R HO110.out)))
            repeat (go_quiet (first | (go_at_call 72; (with_reducible refine (glossatorref03_plain.calls k (bt a0 a1) t107 _ A30.out).mono ?_); rintro e w' ⟨rfl, ⟨nd, rfl⟩⟩; (try first | exact ⟨rfl, _, World.drewN_drewN _ _ _⟩ | exact ⟨rfl, _, Eq.trans (World.drewN_drewN _ _ _) (congrArg (World.drewN _) (Nat.add_assoc _ _ _))⟩)) | ((with_reducible refine gate_dst (N := 33) rfl ?_); refine Kd.R_lit (Kd.int .u8) _ 5 ?hg (N := 33) ?hd (xs := ([t107] : List Int)) (inner := [.int .u8 t107]) (ok := fun _ => True) (okp := fun _ => True) ?hr ?hp (fun _ hk => hk) trivial (Below.refl _ _) (Nat.le_refl _) (by simp) ?_; (case hd => rfl); (case hg => rfl); (case hr => first | (go_simp; done) | (go_simp; rfl)); (case hp => exact (Reps.one (show Kd.M (Kd.int .u8) _ _ _ t107 [.int .u8 t107] from rfl) (Reps.none _ _))); intro v109 w32 ho33 hb hg_ hnew_; clear hg_ hnew_; (first | rw [← Ny108.out] at ho33 | (simp only [Int.reduceToNat] at ho33; rw [← Ny108.out] at ho33)); have n0_ := Aside0.mk (Kd.R_lower ho33 (below_size (by repeat (first | (with_reducible first | exact HB.out | apply below_alloc | apply pw_below_drewN | apply below_drew1) | exact HB.out)))); have n1_ := Aside0.mk (below_step (by repeat (first | (with_reducible first | exact HB.out | apply below_alloc | apply pw_below_drewN | apply below_drew1) | exact HB.out)) hb); clear HB; have HO110 := n0_; have HB := n1_; clear n0_ n1_; clear hb ho33; have hcv34 := own_string (P := Try.prog) Try.underlying28 Try.underlying5 Try.underlying9 (Kd.own_of_R HO110.out))); try go_wp2_with (first | (go_at_call 72; (with_reducible refine (glossatorref03_plain.calls k (bt a0 a1) t107 _ A30.out).mono ?_); rintro e w' ⟨rfl, ⟨nd, rfl⟩⟩; (try first | exact ⟨rfl, _, World.drewN_drewN _ _ _⟩ | exact ⟨rfl, _, Eq.trans (World.drewN_drewN _ _ _) (congrArg (World.drewN _) (Nat.add_assoc _ _ _))⟩)) | ((with_reducible refine gate_dst (N := 33) rfl ?_); refine Kd.R_lit (Kd.int .u8) _ 5 ?hg (N := 33) ?hd (xs := ([t107] : List Int)) (inner := [.int .u8 t107]) (ok := fun _ => True) (okp := fun _ => True) ?hr ?hp (fun _ hk => hk) trivial (Below.refl _ _) (Nat.le_refl _) (by simp) ?_; (case hd => rfl); (case hg => rfl); (case hr => first | (go_simp; done) | (go_simp; rfl)); (case hp => exact (Reps.one (show Kd.M (Kd.int .u8) _ _ _ t107 [.int .u8 t107] from rfl) (Reps.none _ _))); intro v109 w32 ho33 hb hg_ hnew_; clear hg_ hnew_; (first | rw [← Ny108.out] at ho33 | (simp only [Int.reduceToNat] at ho33; rw [← Ny108.out] at ho33)); have n0_ := Aside0.mk (Kd.R_lower ho33 (below_size (by repeat (first | (with_reducible first | exact HB.out | apply below_alloc | apply pw_below_drewN | apply below_drew1) | exact HB.out)))); have n1_ := Aside0.mk (below_step (by repeat (first | (with_reducible first | exact HB.out | apply below_alloc | apply pw_below_drewN | apply below_drew1) | exact HB.out)) hb); clear HB; have HO110 := n0_; have HB := n1_; clear n0_ n1_; clear hb ho33; have hcv34 := own_string (P := Try.prog) Try.underlying28 Try.underlying5 Try.underlying9 (Kd.own_of_R HO110.out))))
            go_ret3
            exact ⟨by first | rfl | (simp [errW_none, errW_some] <;> rfl) | (simp [*, errW_none, errW_some] <;> rfl), by repeat (first | (with_reducible first | exact HB.out | apply below_alloc | apply pw_below_drewN | apply below_drew1) | exact HB.out)⟩
      · rw [if_neg c5] at H
        exact absurd H (by simp)
    · rw [if_neg c4] at H
      exact absurd H (by simp)

end Go.Proofs.Ytlbokaekhjjabaa.S

-- Written by a program of this session (joint.sh) out of the translation. Not trusted: Lean checks it.
namespace Go.Proofs.Ytlbokaekhjjabaa.S
open Go.RowKit Go.Proofs.YtlbokaekhjjabaaW.PrintWords Go.Proofs.YtlbokaekhjjabaaW.PrintLast Go.Proofs.YtlbokaekhjjabaaW.PrintMore
attribute [local go_sem] max2_int min2_int max_two min_two max_three min_three max_four min_four   -- for this text's walks alone
set_option linter.unusedVariables false
set_option linter.unusedSimpArgs false

/-! ### glossatorref03_Scan: function 38 -/
def glossatorref03_Scan.l0 : Nat → ByteArray → List Int → Int → Option (ByteArray × Int × Int)
  | 0, _, _, _ => none
  | k + 1, x0, x5, x6 => if x6 < (x0.size : Int) then (if 0 ≤ x6 then (if (bt x0 x6) = 34 then (some (strOfNums x5, wrap64 (x6 + 1), 0)) else (if (bt x0 x6) < 32 then (some ((⟨#[]⟩ : ByteArray), x6, 4)) else (if (bt x0 x6) = 92 then ((glossatorref03_escape.f k x0 (wrap64 (x6 + 1))).bind fun bt119 => (if bt119.2.2 = 0 then (if x5.length + bt119.1.size < 140737488355328 then (glossatorref03_Scan.l0 k x0 (x5 ++ Go.Proofs.YtlbokaekhjjabaaW.PrintWords.bytesOf bt119.1) bt119.2.1) else (none)) else (some ((⟨#[]⟩ : ByteArray), bt119.2.1, bt119.2.2)))) else (if x6 ≤ (x0.size : Int) then ((glossatorref02_Point.f (x0.extract (x6 : Int).toNat x0.size)).bind fun bt125 => (if bt125.2 = 0 then ((glossatorref02_Check.f (x0.extract (x6 : Int).toNat x0.size)).bind fun bt127 => (some ((⟨#[]⟩ : ByteArray), wrap64 (x6 + bt127.1), bt127.2))) else (if x6 ≤ (wrap64 (x6 + bt125.2)) then (if (wrap64 (x6 + bt125.2)) ≤ (x0.size : Int) then (if x5.length + (x0.extract (x6 : Int).toNat ((wrap64 (x6 + bt125.2)) : Int).toNat).size < 140737488355328 then (glossatorref03_Scan.l0 k x0 (x5 ++ Go.Proofs.YtlbokaekhjjabaaW.PrintWords.bytesOf (x0.extract (x6 : Int).toNat ((wrap64 (x6 + bt125.2)) : Int).toNat)) (wrap64 (x6 + bt125.2))) else (none)) else (none)) else (none)))) else (none))))) else (none)) else (some ((⟨#[]⟩ : ByteArray), (x0.size : Int), 3))
def glossatorref03_Scan.f (k : Nat) (a0 : ByteArray) : Option (ByteArray × Int × Int) := if a0.toList = ([] : List UInt8) then (some ((⟨#[]⟩ : ByteArray), 0, 3)) else (if 0 < (a0.size : Int) then (if (bt a0 0) = 34 then (glossatorref03_Scan.l0 k a0 ([] : List Int) 1) else (some ((⟨#[]⟩ : ByteArray), 0, 4))) else (none))
theorem glossatorref03_Scan.mono_l : ∀ k, (∀ y0 y1 y2, LeO (glossatorref03_Scan.l0 k y0 y1 y2) (glossatorref03_Scan.l0 (k + 1) y0 y1 y2))
  | 0 => fun _ _ _ r h => by simp [glossatorref03_Scan.l0] at h
  | k + 1 => by
    have ih0 := glossatorref03_Scan.mono_l k
    · intro y0 y1 y2
      unfold glossatorref03_Scan.l0
      repeat' first
      | (with_reducible exact ih0 _ _ _)
      | (with_reducible exact glossatorref03_escape.mono _ _ _)
      | (with_reducible exact LeO.refl _)
      | (with_reducible exact LeO.none _)
      | (with_reducible refine LeO.ite ?_ ?_)
      | (with_reducible refine LeO.bind ?_ (fun _ => ?_))
      | exact ih0 _ _ _
      | exact glossatorref03_escape.mono _ _ _
      | exact LeO.none _
      | refine LeO.ite ?_ ?_
      | refine LeO.bind ?_ (fun _ => ?_)
theorem glossatorref03_Scan.mono : ∀ a0 k, LeO (glossatorref03_Scan.f k a0) (glossatorref03_Scan.f (k + 1) a0) := by
  intro a0 k
  have ih0 := glossatorref03_Scan.mono_l k
  unfold glossatorref03_Scan.f
  repeat' first
      | (with_reducible exact ih0 _ _ _)
      | (with_reducible exact glossatorref03_escape.mono _ _ _)
      | (with_reducible exact LeO.refl _)
      | (with_reducible exact LeO.none _)
      | (with_reducible refine LeO.ite ?_ ?_)
      | (with_reducible refine LeO.bind ?_ (fun _ => ?_))
      | exact ih0 _ _ _
      | exact glossatorref03_escape.mono _ _ _
      | exact LeO.none _
      | refine LeO.ite ?_ ?_
      | refine LeO.bind ?_ (fun _ => ?_)
set_option maxHeartbeats 8000000 in
set_option maxRecDepth 100000 in
theorem glossatorref03_Scan.calls (k : Nat) (a0 : ByteArray) (r1 : ByteArray) (r2 : Int) (r3 : Int) (w : World) (h : glossatorref03_Scan.f k a0 = some (r1, r2, r3)) :
    Calls Try.prog 38 #[.string a0] w fun e w' => e = .returned (.tuple #[.string r1, .int .i64 r2, .int .i64 r3]) ∧ Below w.heap.size w w' := by
  have HB := Aside0.mk (Below.refl w.heap.size w)
  have H : (if a0.toList = ([] : List UInt8) then (some ((⟨#[]⟩ : ByteArray), 0, 3)) else (if 0 < (a0.size : Int) then (if (bt a0 0) = 34 then (glossatorref03_Scan.l0 k a0 ([] : List Int) 1) else (some ((⟨#[]⟩ : ByteArray), 0, 4))) else (none))) = some (r1, r2, r3) := h
  clear h
  by_cases c2 : a0.toList = ([] : List UInt8)
  · rw [if_pos c2] at H
    have c2b0 : (a0.toList == ([] : List UInt8)) = true := beq_iff_eq.mpr c2
    have c2b1 : (a0.toList != ([] : List UInt8)) = false := bne_eq_false_iff_eq.mpr c2
    clear c2
    simp only [Option.some.injEq, Prod.mk.injEq] at H
    obtain ⟨rfl, rfl, rfl⟩ := H
    go_enter Try.func38, Try.ntmps38
    go_wp2
    go_ret3
    exact ⟨by first | rfl | (simp [errW_none, errW_some] <;> rfl) | (simp [*, errW_none, errW_some] <;> rfl), by repeat (first | (with_reducible first | exact HB.out | apply below_alloc | apply pw_below_drewN | apply below_drew1) | exact HB.out)⟩
  · rw [if_neg c2] at H
    have c2b0 : (a0.toList == ([] : List UInt8)) = false := beq_eq_false_iff_ne.mpr c2
    have c2b1 : (a0.toList != ([] : List UInt8)) = true := bne_iff_ne.mpr c2
    by_cases c3 : 0 < (a0.size : Int)
    · rw [if_pos c3] at H
      have c3b0 : decide (0 < (a0.size : Int)) = true := decide_eq_true c3
      have c3b1 : decide (0 < a0.size) = true := decide_eq_true (by omega)
      clear c3
      by_cases c5 : (bt a0 0) = 34
      · rw [if_pos c5] at H
        have c5b0 : ((bt a0 0) == 34) = true := beq_iff_eq.mpr c5
        have c5b1 : ((bt a0 0) != 34) = false := bne_eq_false_iff_eq.mpr c5
        clear c5
        have H' := Aside0.mk H
        clear H
        have p4 : 0 ≤ (0 : Int) := (by omega)
        have q4 : 0 < a0.size := (by have : (0 : Int) < (a0.size : Int) := of_decide_eq_true (by first | (with_reducible assumption) | assumption); omega)
        have hx4 : ∀ h : 0 < a0.size, ((a0[0]'h).toNat : Int) = bt a0 0 := bt_at a0 0
        clear p4
        have qi4 : (0 < (a0.size : Int)) = True := eq_true (of_decide_eq_true (by first | (with_reducible assumption) | assumption))
        replace q4 := eq_true q4
        go_enter Try.func38, Try.ntmps38
        go_wp2
        go_loopg [5, 6] k (fun kq v5 v6 w' => ∃ (x5_1 : List Int) (x6_1 : Int), v6 = .int .i64 x6_1 ∧ Aside0 (glossatorref03_Scan.l0 kq a0 x5_1 x6_1 = some (r1, r2, r3)) ∧ Aside0 (kq ≤ k) ∧ Aside0 (Kd.R (Kd.int .u8) 5 w' w.heap.size (fun _ => True) v5 x5_1) ∧ Aside0 (Below w.heap.size w w'))
        case atStart => exact ⟨(([] : List Int)), (1), (by first | rfl | (simp; done) | (simp [*]; done)), H', ⟨Nat.le_refl _⟩, ⟨by first | exact Kd.R_nil _ _ _ _ _ | exact Kd.N_nil _ _ _ _ _ | exact Kd.V_nil _ _ _ _ _ | exact Kd.Q_nil _ _ _ _ _ | exact Kd.S_nil _ _ _ _ _⟩, ⟨by repeat (first | (with_reducible first | exact HB.out | apply below_alloc | apply pw_below_drewN | apply below_drew1) | exact HB.out)⟩⟩
        case round =>
          clear H'
          try clear c2
          try clear c2b0
          try clear c2b1
          try clear p2
          try clear c3
          try clear c3b0
          try clear c3b1
          try clear p4
          try clear q4
          try clear hx4
          try clear qi4
          try clear c5
          try clear c5b0
          try clear c5b1
          try clear p4
          try clear q4
          obtain ⟨x5_1, x6_1, rfl, HA, HK1, HO_5, HB⟩ := hrel
          cases gk with
          | zero => exact absurd HA.out (by simp [glossatorref03_Scan.l0])
          | succ k1 =>
            have H := HA.out
            clear HA
            simp only [glossatorref03_Scan.l0] at H
            by_cases c6 : x6_1 < (a0.size : Int)
            · rw [if_pos c6] at H
              have c6b0 : decide (x6_1 < (a0.size : Int)) = true := decide_eq_true c6
              clear c6
              by_cases c7 : 0 ≤ x6_1
              · rw [if_pos c7] at H
                have c7b0 : decide (0 ≤ x6_1) = true := decide_eq_true c7
                clear c7
                by_cases c9 : (bt a0 x6_1) = 34
                · rw [if_pos c9] at H
                  have c9b0 : ((bt a0 x6_1) == 34) = true := beq_iff_eq.mpr c9
                  have c9b1 : ((bt a0 x6_1) != 34) = false := bne_eq_false_iff_eq.mpr c9
                  clear c9
                  simp only [Option.some.injEq, Prod.mk.injEq] at H
                  obtain ⟨rfl, rfl, rfl⟩ := H
                  have p8 : 0 ≤ (x6_1 : Int) := of_decide_eq_true (by first | (with_reducible assumption) | assumption)
                  have q8 : x6_1 < (a0.size : Int) := of_decide_eq_true (by first | (with_reducible assumption) | assumption)
                  have hx8 := bt_at a0 x6_1
                  replace p8 := eq_true p8
                  replace q8 := eq_true q8
                  have hcv10 := own_string (P := Try.prog) Try.underlying28 Try.underlying5 Try.underlying9 (Kd.own_of_R HO_5.out)
                  go_wp2
                  go_ret3
                  exact ⟨by first | rfl | (simp [errW_none, errW_some] <;> rfl) | (simp [*, errW_none, errW_some] <;> rfl), by repeat (first | (with_reducible first | exact HB.out | apply below_alloc | apply pw_below_drewN | apply below_drew1) | exact HB.out)⟩
                · rw [if_neg c9] at H
                  have c9b0 : ((bt a0 x6_1) == 34) = false := beq_eq_false_iff_ne.mpr c9
                  have c9b1 : ((bt a0 x6_1) != 34) = true := bne_iff_ne.mpr c9
                  by_cases c11 : (bt a0 x6_1) < 32
                  · rw [if_pos c11] at H
                    have c11b0 : decide ((bt a0 x6_1) < 32) = true := decide_eq_true c11
                    clear c11
                    simp only [Option.some.injEq, Prod.mk.injEq] at H
                    obtain ⟨rfl, rfl, rfl⟩ := H
                    have p8 : 0 ≤ (x6_1 : Int) := of_decide_eq_true (by first | (with_reducible assumption) | assumption)
                    have q8 : x6_1 < (a0.size : Int) := of_decide_eq_true (by first | (with_reducible assumption) | assumption)
                    have hx8 := bt_at a0 x6_1
                    replace p8 := eq_true p8
                    replace q8 := eq_true q8
                    go_wp2
                    go_ret3
                    exact ⟨by first | rfl | (simp [errW_none, errW_some] <;> rfl) | (simp [*, errW_none, errW_some] <;> rfl), by repeat (first | (with_reducible first | exact HB.out | apply below_alloc | apply pw_below_drewN | apply below_drew1) | exact HB.out)⟩
                  · rw [if_neg c11] at H
                    have c11b0 : decide ((bt a0 x6_1) < 32) = false := decide_eq_false c11
                    clear c11
                    by_cases c12 : (bt a0 x6_1) = 92
                    · rw [if_pos c12] at H
                      have c12b0 : ((bt a0 x6_1) == 92) = true := beq_iff_eq.mpr c12
                      have c12b1 : ((bt a0 x6_1) != 92) = false := bne_eq_false_iff_eq.mpr c12
                      clear c12
                      replace H := Option.bind_eq_some_iff.mp H
                      obtain ⟨⟨t119, t120, t121⟩, A130, H⟩ := H
                      replace H : (if t121 = 0 then (if x5_1.length + t119.size < 140737488355328 then (glossatorref03_Scan.l0 k1 a0 (x5_1 ++ Go.Proofs.YtlbokaekhjjabaaW.PrintWords.bytesOf t119) t120) else (none)) else (some ((⟨#[]⟩ : ByteArray), t120, t121))) = some (r1, r2, r3) := H
                      have A13 := Aside0.mk A130
                      clear A130
                      by_cases c14 : t121 = 0
                      · rw [if_pos c14] at H
                        have c14b0 : (t121 == 0) = true := beq_iff_eq.mpr c14
                        have c14b1 : (t121 != 0) = false := bne_eq_false_iff_eq.mpr c14
                        clear c14
                        by_cases c15 : x5_1.length + t119.size < 140737488355328
                        · rw [if_pos c15] at H
                          have LMc15 := Aside0.mk c15
                          clear c15
                          obtain ⟨y122, hy122⟩ : ∃ y_ : List Int, y_ = (x5_1 ++ Go.Proofs.YtlbokaekhjjabaaW.PrintWords.bytesOf t119) := ⟨_, rfl⟩
                          replace H : (glossatorref03_Scan.l0 k1 a0 y122 t120) = some (r1, r2, r3) := by first | (rw [hy122]; with_reducible exact H) | (have H2_ := (Option.bind_some _ _).symm.trans H; rw [hy122]; with_reducible exact H2_) | (have H2_ := (Option.bind_some _ _).symm.trans H; with_reducible exact H2_) | with_reducible exact H | (rw [hy122]; exact H) | exact H
                          have Ny122 := Aside0.mk hy122
                          clear hy122
                          have H' := Aside0.mk H
                          clear H
                          have p8 : 0 ≤ (x6_1 : Int) := of_decide_eq_true (by first | (with_reducible assumption) | assumption)
                          have q8 : x6_1 < (a0.size : Int) := of_decide_eq_true (by first | (with_reducible assumption) | assumption)
                          have hx8 := bt_at a0 x6_1
                          replace p8 := eq_true p8
                          replace q8 := eq_true q8
                          go_wp2_with (first | ((with_reducible refine gate_callee (f := 58) rfl ?_); refine goesL_ (some 76) rfl rfl Try.func58 (by kernel_rfl) rfl #[.string a0, .int .i64 (wrap64 (x6_1 + 1))] rfl (by (try simp only [List.map_toArray, List.map_cons, List.map_nil]); first | done | rfl | (simp only [List.length_drop, List.length_take]; rfl)) ?_; (with_reducible refine (glossatorref03_escape.calls k1 a0 (wrap64 (x6_1 + 1)) t119 t120 t121 _ A13.out).mono ?_); rintro e w16 ⟨rfl, hb⟩; refine ⟨_, rfl, ?_⟩; have n0_ := Aside0.mk (Kd.R_below (by (with_reducible repeat (first | apply Kd.R_alloc | apply Kd.R_drewN | apply Kd.R_drew)); exact HO_5.out) hb); have n1_ := Aside0.mk (below_step (by repeat (first | (with_reducible first | exact HB.out | apply below_alloc | apply pw_below_drewN | apply below_drew1) | exact HB.out)) hb); clear HO_5; clear HB; have HO_5 := n0_; have HB := n1_; clear n0_ n1_; (try clear hb); (try clear hb2); (try clear hk); (try clear hi)) | (at_builtin; refine print_append_str (w0 := w) w.heap.size rfl (.tmp 84) _ 28 9 5 rfl Try.underlying28 Try.underlying9 info5 u5 x5_1 t119 rfl rfl ?aO ?aB ?aS ?aL ?_; (case aB => exact (by repeat (first | (with_reducible first | exact HB.out | apply below_alloc | apply pw_below_drewN | apply below_drew1) | exact HB.out))); (case aO => exact (Kd.own_of_R (by (with_reducible repeat (first | apply Kd.R_alloc | apply Kd.R_drewN | apply Kd.R_drew)); exact HO_5.out))); (case aS => exact (below_size (by repeat (first | (with_reducible first | exact HB.out | apply below_alloc | apply pw_below_drewN | apply below_drew1) | exact HB.out)))); (case aL => have := LMc15.out; omega); intro v123 w17 ho0 hb hg; have ho := Kd.R_of_own (h1 := fun _ => rfl) (ok := fun _ => True) ho0 (fun _ _ => trivial); clear ho0; have hat := True.intro; rw [← Ny122.out] at ho; change Kd.R (Kd.int .u8) 5 w17 w.heap.size (fun _ => True) v123 y122 at ho; have n0_ := Aside0.mk (hb); have n1_ := Aside0.mk (ho); clear HB; clear HO_5; have HB := n0_; have HO124 := n1_; clear n0_ n1_; clear ho hb hg hat))
                          go_roundg k1
                          case measure => have := HK1.out; omega
                          case rel => exact ⟨(y122), (t120), (by first | rfl | (simp; done) | (simp [*]; done)), H', ⟨by have := HK1.out; omega⟩, ⟨by (with_reducible repeat (first | apply Kd.R_alloc | apply Kd.R_drewN | apply Kd.R_drew)); exact HO124.out⟩, ⟨by repeat (first | (with_reducible first | exact HB.out | apply below_alloc | apply pw_below_drewN | apply below_drew1) | exact HB.out)⟩⟩
                        · rw [if_neg c15] at H
                          exact absurd H (by simp)
                      · rw [if_neg c14] at H
                        have c14b0 : (t121 == 0) = false := beq_eq_false_iff_ne.mpr c14
                        have c14b1 : (t121 != 0) = true := bne_iff_ne.mpr c14
                        simp only [Option.some.injEq, Prod.mk.injEq] at H
                        obtain ⟨rfl, rfl, rfl⟩ := H
                        have p8 : 0 ≤ (x6_1 : Int) := of_decide_eq_true (by first | (with_reducible assumption) | assumption)
                        have q8 : x6_1 < (a0.size : Int) := of_decide_eq_true (by first | (with_reducible assumption) | assumption)
                        have hx8 := bt_at a0 x6_1
                        replace p8 := eq_true p8
                        replace q8 := eq_true q8
                        go_wp2_with (first | ((with_reducible refine gate_callee (f := 58) rfl ?_); refine goesL_ (some 76) rfl rfl Try.func58 (by kernel_rfl) rfl #[.string a0, .int .i64 (wrap64 (x6_1 + 1))] rfl (by (try simp only [List.map_toArray, List.map_cons, List.map_nil]); first | done | rfl | (simp only [List.length_drop, List.length_take]; rfl)) ?_; (with_reducible refine (glossatorref03_escape.calls k1 a0 (wrap64 (x6_1 + 1)) t119 t120 t121 _ A13.out).mono ?_); rintro e w18 ⟨rfl, hb⟩; refine ⟨_, rfl, ?_⟩; have n0_ := Aside0.mk (Kd.R_below (by (with_reducible repeat (first | apply Kd.R_alloc | apply Kd.R_drewN | apply Kd.R_drew)); exact HO_5.out) hb); have n1_ := Aside0.mk (below_step (by repeat (first | (with_reducible first | exact HB.out | apply below_alloc | apply pw_below_drewN | apply below_drew1) | exact HB.out)) hb); clear HO_5; clear HB; have HO_5 := n0_; have HB := n1_; clear n0_ n1_; (try clear hb); (try clear hb2); (try clear hk); (try clear hi)))
                        go_ret3
                        exact ⟨by first | rfl | (simp [errW_none, errW_some] <;> rfl) | (simp [*, errW_none, errW_some] <;> rfl), by repeat (first | (with_reducible first | exact HB.out | apply below_alloc | apply pw_below_drewN | apply below_drew1) | exact HB.out)⟩
                    · rw [if_neg c12] at H
                      have c12b0 : ((bt a0 x6_1) == 92) = false := beq_eq_false_iff_ne.mpr c12
                      have c12b1 : ((bt a0 x6_1) != 92) = true := bne_iff_ne.mpr c12
                      have c19b0 := eq_true (of_decide_eq_true (by first | (with_reducible assumption) | assumption) : 0 ≤ x6_1)
                      by_cases c20 : x6_1 ≤ (a0.size : Int)
                      · rw [if_pos c20] at H
                        have c20b0 := eq_true c20
                        have c20b1 : decide (x6_1 ≤ (a0.size : Int)) = true := decide_eq_true c20
                        clear c20
                        replace H := Option.bind_eq_some_iff.mp H
                        obtain ⟨⟨t125, t126⟩, A210, H⟩ := H
                        replace H : (if t126 = 0 then ((glossatorref02_Check.f (a0.extract (x6_1 : Int).toNat a0.size)).bind fun bt127 => (some ((⟨#[]⟩ : ByteArray), wrap64 (x6_1 + bt127.1), bt127.2))) else (if x6_1 ≤ (wrap64 (x6_1 + t126)) then (if (wrap64 (x6_1 + t126)) ≤ (a0.size : Int) then (if x5_1.length + (a0.extract (x6_1 : Int).toNat ((wrap64 (x6_1 + t126)) : Int).toNat).size < 140737488355328 then (glossatorref03_Scan.l0 k1 a0 (x5_1 ++ Go.Proofs.YtlbokaekhjjabaaW.PrintWords.bytesOf (a0.extract (x6_1 : Int).toNat ((wrap64 (x6_1 + t126)) : Int).toNat)) (wrap64 (x6_1 + t126))) else (none)) else (none)) else (none))) = some (r1, r2, r3) := H
                        have A21 := Aside0.mk A210
                        clear A210
                        by_cases c22 : t126 = 0
                        · rw [if_pos c22] at H
                          have c22b0 : (t126 == 0) = true := beq_iff_eq.mpr c22
                          have c22b1 : (t126 != 0) = false := bne_eq_false_iff_eq.mpr c22
                          clear c22
                          have c23b0 := eq_true (of_decide_eq_true (by first | (with_reducible assumption) | assumption) : 0 ≤ x6_1)
                          have c24b0 := eq_true (of_decide_eq_true (by first | (with_reducible assumption) | assumption) : x6_1 ≤ (a0.size : Int))
                          replace H := Option.bind_eq_some_iff.mp H
                          obtain ⟨⟨t127, t128⟩, A250, H⟩ := H
                          replace H : (some ((⟨#[]⟩ : ByteArray), wrap64 (x6_1 + t127), t128)) = some (r1, r2, r3) := H
                          have A25 := Aside0.mk A250
                          clear A250
                          simp only [Option.some.injEq, Prod.mk.injEq] at H
                          obtain ⟨rfl, rfl, rfl⟩ := H
                          have p8 : 0 ≤ (x6_1 : Int) := of_decide_eq_true (by first | (with_reducible assumption) | assumption)
                          have q8 : x6_1 < (a0.size : Int) := of_decide_eq_true (by first | (with_reducible assumption) | assumption)
                          have hx8 := bt_at a0 x6_1
                          replace p8 := eq_true p8
                          replace q8 := eq_true q8
                          go_wp2_with (first | ((with_reducible refine gate_callee (f := 27) rfl ?_); refine goesL_ (some 31) rfl rfl Try.func27 (by kernel_rfl) rfl #[.string (a0.extract (x6_1 : Int).toNat a0.size)] rfl (by (try simp only [List.map_toArray, List.map_cons, List.map_nil]); first | done | rfl | (simp only [List.length_drop, List.length_take]; rfl)) ?_; (with_reducible refine (glossatorref02_Point.calls (a0.extract (x6_1 : Int).toNat a0.size) t125 t126 _ A21.out).mono ?_); rintro e w' ⟨rfl, ⟨nd, rfl⟩⟩; refine ⟨_, rfl, ?_⟩) | ((with_reducible refine gate_callee (f := 33) rfl ?_); refine goesL_ (some 40) rfl rfl Try.func33 (by kernel_rfl) rfl #[.string (a0.extract (x6_1 : Int).toNat a0.size)] rfl (by (try simp only [List.map_toArray, List.map_cons, List.map_nil]); first | done | rfl | (simp only [List.length_drop, List.length_take]; rfl)) ?_; (with_reducible refine (glossatorref02_Check.calls (a0.extract (x6_1 : Int).toNat a0.size) t127 t128 _ A25.out).mono ?_); rintro e w' ⟨rfl, ⟨nd, rfl⟩⟩; refine ⟨_, rfl, ?_⟩))
                          go_ret3
                          exact ⟨by first | rfl | (simp [errW_none, errW_some] <;> rfl) | (simp [*, errW_none, errW_some] <;> rfl), by repeat (first | (with_reducible first | exact HB.out | apply below_alloc | apply pw_below_drewN | apply below_drew1) | exact HB.out)⟩
                        · rw [if_neg c22] at H
                          have c22b0 : (t126 == 0) = false := beq_eq_false_iff_ne.mpr c22
                          have c22b1 : (t126 != 0) = true := bne_iff_ne.mpr c22
                          have c26b0 := eq_true (of_decide_eq_true (by first | (with_reducible assumption) | assumption) : 0 ≤ x6_1)
                          by_cases c27 : x6_1 ≤ (wrap64 (x6_1 + t126))
                          · rw [if_pos c27] at H
                            have c27b0 := eq_true c27
                            have c27b1 : decide (x6_1 ≤ (wrap64 (x6_1 + t126))) = true := decide_eq_true c27
                            by_cases c28 : (wrap64 (x6_1 + t126)) ≤ (a0.size : Int)
                            · rw [if_pos c28] at H
                              have c28b0 := eq_true c28
                              have c28b1 : decide ((wrap64 (x6_1 + t126)) ≤ (a0.size : Int)) = true := decide_eq_true c28
                              by_cases c29 : x5_1.length + (a0.extract (x6_1 : Int).toNat ((wrap64 (x6_1 + t126)) : Int).toNat).size < 140737488355328
                              · rw [if_pos c29] at H
                                have LMc29 := Aside0.mk c29
                                clear c29
                                obtain ⟨y129, hy129⟩ : ∃ y_ : List Int, y_ = (x5_1 ++ Go.Proofs.YtlbokaekhjjabaaW.PrintWords.bytesOf (a0.extract (x6_1 : Int).toNat ((wrap64 (x6_1 + t126)) : Int).toNat)) := ⟨_, rfl⟩
                                replace H : (glossatorref03_Scan.l0 k1 a0 y129 (wrap64 (x6_1 + t126))) = some (r1, r2, r3) := by first | (rw [hy129]; with_reducible exact H) | (have H2_ := (Option.bind_some _ _).symm.trans H; rw [hy129]; with_reducible exact H2_) | (have H2_ := (Option.bind_some _ _).symm.trans H; with_reducible exact H2_) | with_reducible exact H | (rw [hy129]; exact H) | exact H
                                have Ny129 := Aside0.mk hy129
                                clear hy129
                                have H' := Aside0.mk H
                                clear H
                                have p8 : 0 ≤ (x6_1 : Int) := of_decide_eq_true (by first | (with_reducible assumption) | assumption)
                                have q8 : x6_1 < (a0.size : Int) := of_decide_eq_true (by first | (with_reducible assumption) | assumption)
                                have hx8 := bt_at a0 x6_1
                                replace p8 := eq_true p8
                                replace q8 := eq_true q8
                                go_wp2_with (first | ((with_reducible refine gate_callee (f := 27) rfl ?_); refine goesL_ (some 31) rfl rfl Try.func27 (by kernel_rfl) rfl #[.string (a0.extract (x6_1 : Int).toNat a0.size)] rfl (by (try simp only [List.map_toArray, List.map_cons, List.map_nil]); first | done | rfl | (simp only [List.length_drop, List.length_take]; rfl)) ?_; (with_reducible refine (glossatorref02_Point.calls (a0.extract (x6_1 : Int).toNat a0.size) t125 t126 _ A21.out).mono ?_); rintro e w' ⟨rfl, ⟨nd, rfl⟩⟩; refine ⟨_, rfl, ?_⟩) | (at_builtin; refine print_append_str (w0 := w) w.heap.size rfl (.tmp 47) _ 28 9 5 rfl Try.underlying28 Try.underlying9 info5 u5 x5_1 (a0.extract (x6_1 : Int).toNat ((wrap64 (x6_1 + t126)) : Int).toNat) rfl rfl ?aO ?aB ?aS ?aL ?_; (case aB => exact (by repeat (first | (with_reducible first | exact HB.out | apply below_alloc | apply pw_below_drewN | apply below_drew1) | exact HB.out))); (case aO => exact (Kd.own_of_R (by (with_reducible repeat (first | apply Kd.R_alloc | apply Kd.R_drewN | apply Kd.R_drew)); exact HO_5.out))); (case aS => exact (below_size (by repeat (first | (with_reducible first | exact HB.out | apply below_alloc | apply pw_below_drewN | apply below_drew1) | exact HB.out)))); (case aL => have := LMc29.out; omega); intro v130 w30 ho0 hb hg; have ho := Kd.R_of_own (h1 := fun _ => rfl) (ok := fun _ => True) ho0 (fun _ _ => trivial); clear ho0; have hat := True.intro; rw [← Ny129.out] at ho; change Kd.R (Kd.int .u8) 5 w30 w.heap.size (fun _ => True) v130 y129 at ho; have n0_ := Aside0.mk (hb); have n1_ := Aside0.mk (ho); clear HB; clear HO_5; have HB := n0_; have HO131 := n1_; clear n0_ n1_; clear ho hb hg hat))
                                go_roundg k1
                                case measure => have := HK1.out; omega
                                case rel => exact ⟨(y129), (wrap64 (x6_1 + t126)), (by first | rfl | (simp; done) | (simp [*]; done)), H', ⟨by have := HK1.out; omega⟩, ⟨by (with_reducible repeat (first | apply Kd.R_alloc | apply Kd.R_drewN | apply Kd.R_drew)); exact HO131.out⟩, ⟨by repeat (first | (with_reducible first | exact HB.out | apply below_alloc | apply pw_below_drewN | apply below_drew1) | exact HB.out)⟩⟩
                              · rw [if_neg c29] at H
                                exact absurd H (by simp)
                            · rw [if_neg c28] at H
                              exact absurd H (by simp)
                          · rw [if_neg c27] at H
                            exact absurd H (by simp)
                      · rw [if_neg c20] at H
                        exact absurd H (by simp)
              · rw [if_neg c7] at H
                exact absurd H (by simp)
            · rw [if_neg c6] at H
              have c6b0 : decide (x6_1 < (a0.size : Int)) = false := decide_eq_false c6
              clear c6
              simp only [Option.some.injEq, Prod.mk.injEq] at H
              obtain ⟨rfl, rfl, rfl⟩ := H
              go_wp2
              go_ret3
              exact ⟨by first | rfl | (simp [errW_none, errW_some] <;> rfl) | (simp [*, errW_none, errW_some] <;> rfl), by repeat (first | (with_reducible first | exact HB.out | apply below_alloc | apply pw_below_drewN | apply below_drew1) | exact HB.out)⟩
      · rw [if_neg c5] at H
        have c5b0 : ((bt a0 0) == 34) = false := beq_eq_false_iff_ne.mpr c5
        have c5b1 : ((bt a0 0) != 34) = true := bne_iff_ne.mpr c5
        simp only [Option.some.injEq, Prod.mk.injEq] at H
        obtain ⟨rfl, rfl, rfl⟩ := H
        have p4 : 0 ≤ (0 : Int) := (by omega)
        have q4 : 0 < a0.size := (by have : (0 : Int) < (a0.size : Int) := of_decide_eq_true (by first | (with_reducible assumption) | assumption); omega)
        have hx4 : ∀ h : 0 < a0.size, ((a0[0]'h).toNat : Int) = bt a0 0 := bt_at a0 0
        clear p4
        have qi4 : (0 < (a0.size : Int)) = True := eq_true (of_decide_eq_true (by first | (with_reducible assumption) | assumption))
        replace q4 := eq_true q4
        go_enter Try.func38, Try.ntmps38
        go_wp2
        go_ret3
        exact ⟨by first | rfl | (simp [errW_none, errW_some] <;> rfl) | (simp [*, errW_none, errW_some] <;> rfl), by repeat (first | (with_reducible first | exact HB.out | apply below_alloc | apply pw_below_drewN | apply below_drew1) | exact HB.out)⟩
    · rw [if_neg c3] at H
      exact absurd H (by simp)

end Go.Proofs.Ytlbokaekhjjabaa.S

-- Written by a program of this session (joint.sh) out of the translation. Not trusted: Lean checks it.
namespace Go.Proofs.Ytlbokaekhjjabaa.S
open Go.RowKit Go.Proofs.YtlbokaekhjjabaaW.PrintWords Go.Proofs.YtlbokaekhjjabaaW.PrintLast Go.Proofs.YtlbokaekhjjabaaW.PrintMore
attribute [local go_sem] max2_int min2_int max_two min_two max_three min_three max_four min_four   -- for this text's walks alone
set_option linter.unusedVariables false
set_option linter.unusedSimpArgs false

/-! ### glossatorlaw03_EscScans: function 12 -/
def glossatorlaw03_EscScans.f (k : Nat) (a0 : ByteArray) : Option (Bool) := (esc_Scan.f a0).bind fun bt132 => ((glossatorref03_Scan.f k a0).bind fun bt135 => (if bt132.1.toList = bt135.1.toList then (if bt132.2.1 = bt135.2.1 then (if bt132.2.2 = bt135.2.2 then ((glossatorlaw03_awake.f).bind fun t138 => (some t138)) else (some false)) else (some false)) else (some false)))
theorem glossatorlaw03_EscScans.mono : ∀ a0 k, LeO (glossatorlaw03_EscScans.f k a0) (glossatorlaw03_EscScans.f (k + 1) a0) := by
  intro a0 k
  unfold glossatorlaw03_EscScans.f
  repeat' first
      | (with_reducible exact glossatorref03_Scan.mono _ _)
      | (with_reducible exact LeO.refl _)
      | (with_reducible exact LeO.none _)
      | (with_reducible refine LeO.ite ?_ ?_)
      | (with_reducible refine LeO.bind ?_ (fun _ => ?_))
      | exact glossatorref03_Scan.mono _ _
      | exact LeO.none _
      | refine LeO.ite ?_ ?_
      | refine LeO.bind ?_ (fun _ => ?_)
set_option maxHeartbeats 8000000 in
set_option maxRecDepth 100000 in
theorem glossatorlaw03_EscScans.calls (k : Nat) (a0 : ByteArray) (r : Bool) (w : World) (h : glossatorlaw03_EscScans.f k a0 = some r) :
    Calls Try.prog 12 #[.string a0] w fun e w' => e = .returned (.bool r) ∧ Below w.heap.size w w' := by
  have HB := Aside0.mk (Below.refl w.heap.size w)
  have H : ((esc_Scan.f a0).bind fun bt132 => ((glossatorref03_Scan.f k a0).bind fun bt135 => (if bt132.1.toList = bt135.1.toList then (if bt132.2.1 = bt135.2.1 then (if bt132.2.2 = bt135.2.2 then ((glossatorlaw03_awake.f).bind fun t138 => (some t138)) else (some false)) else (some false)) else (some false)))) = some r := h
  clear h
  replace H := Option.bind_eq_some_iff.mp H
  obtain ⟨⟨t132, t133, t134⟩, A20, H⟩ := H
  replace H : ((glossatorref03_Scan.f k a0).bind fun bt135 => (if t132.toList = bt135.1.toList then (if t133 = bt135.2.1 then (if t134 = bt135.2.2 then ((glossatorlaw03_awake.f).bind fun t138 => (some t138)) else (some false)) else (some false)) else (some false))) = some r := H
  have A2 := Aside0.mk A20
  clear A20
  replace H := Option.bind_eq_some_iff.mp H
  obtain ⟨⟨t135, t136, t137⟩, A30, H⟩ := H
  replace H : (if t132.toList = t135.toList then (if t133 = t136 then (if t134 = t137 then ((glossatorlaw03_awake.f).bind fun t138 => (some t138)) else (some false)) else (some false)) else (some false)) = some r := H
  have A3 := Aside0.mk A30
  clear A30
  by_cases c4 : t132.toList = t135.toList
  · rw [if_pos c4] at H
    have c4b0 : (t132.toList == t135.toList) = true := beq_iff_eq.mpr c4
    have c4b1 : (t132.toList != t135.toList) = false := bne_eq_false_iff_eq.mpr c4
    clear c4
    by_cases c5 : t133 = t136
    · rw [if_pos c5] at H
      have c5b0 : (t133 == t136) = true := beq_iff_eq.mpr c5
      have c5b1 : (t133 != t136) = false := bne_eq_false_iff_eq.mpr c5
      clear c5
      by_cases c6 : t134 = t137
      · rw [if_pos c6] at H
        have c6b0 : (t134 == t137) = true := beq_iff_eq.mpr c6
        have c6b1 : (t134 != t137) = false := bne_eq_false_iff_eq.mpr c6
        clear c6
        replace H := Option.bind_eq_some_iff.mp H
        obtain ⟨t138, A70, H⟩ := H
        replace H : (some t138) = some r := H
        have A7 := Aside0.mk A70
        clear A70
        obtain rfl := Option.some.inj H
        go_enter Try.func12, Try.ntmps12
        go_wp2_with (first | ((with_reducible refine gate_callee (f := 37) rfl ?_); refine goesL_ (some 11) rfl rfl Try.func37 (by kernel_rfl) rfl #[.string a0] rfl (by (try simp only [List.map_toArray, List.map_cons, List.map_nil]); first | done | rfl | (simp only [List.length_drop, List.length_take]; rfl)) ?_; (with_reducible refine (esc_Scan.calls a0 t132 t133 t134 _ A2.out).mono ?_); rintro e w8 ⟨rfl, hb⟩; refine ⟨_, rfl, ?_⟩; have n0_ := Aside0.mk (below_step (by repeat (first | (with_reducible first | exact HB.out | apply below_alloc | apply pw_below_drewN | apply below_drew1) | exact HB.out)) hb); clear HB; have HB := n0_; clear n0_; (try clear hb); (try clear hb2); (try clear hk); (try clear hi)) | ((with_reducible refine gate_callee (f := 38) rfl ?_); refine goesL_ (some 17) rfl rfl Try.func38 (by kernel_rfl) rfl #[.string a0] rfl (by (try simp only [List.map_toArray, List.map_cons, List.map_nil]); first | done | rfl | (simp only [List.length_drop, List.length_take]; rfl)) ?_; (with_reducible refine (glossatorref03_Scan.calls k a0 t135 t136 t137 _ A3.out).mono ?_); rintro e w9 ⟨rfl, hb⟩; refine ⟨_, rfl, ?_⟩; have n0_ := Aside0.mk (below_step (by repeat (first | (with_reducible first | exact HB.out | apply below_alloc | apply pw_below_drewN | apply below_drew1) | exact HB.out)) hb); clear HB; have HB := n0_; clear n0_; (try clear hb); (try clear hb2); (try clear hk); (try clear hi)) | (go_at_call 32; (with_reducible refine (glossatorlaw03_awake.calls  t138 _ A7.out).mono ?_); rintro e w10 ⟨rfl, hb⟩; have n0_ := Aside0.mk (below_step (by repeat (first | (with_reducible first | exact HB.out | apply below_alloc | apply pw_below_drewN | apply below_drew1) | exact HB.out)) hb); clear HB; have HB := n0_; clear n0_; (try clear hb); (try clear hb2); (try clear hk); (try clear hi)))
        go_ret
        exact ⟨by first | rfl | (simp [errW_none, errW_some] <;> rfl) | (simp [*, errW_none, errW_some] <;> rfl), by repeat (first | (with_reducible first | exact HB.out | apply below_alloc | apply pw_below_drewN | apply below_drew1) | exact HB.out)⟩
      · rw [if_neg c6] at H
        have c6b0 : (t134 == t137) = false := beq_eq_false_iff_ne.mpr c6
        have c6b1 : (t134 != t137) = true := bne_iff_ne.mpr c6
        obtain rfl := Option.some.inj H
        go_enter Try.func12, Try.ntmps12
        go_wp2_with (first | ((with_reducible refine gate_callee (f := 37) rfl ?_); refine goesL_ (some 11) rfl rfl Try.func37 (by kernel_rfl) rfl #[.string a0] rfl (by (try simp only [List.map_toArray, List.map_cons, List.map_nil]); first | done | rfl | (simp only [List.length_drop, List.length_take]; rfl)) ?_; (with_reducible refine (esc_Scan.calls a0 t132 t133 t134 _ A2.out).mono ?_); rintro e w11 ⟨rfl, hb⟩; refine ⟨_, rfl, ?_⟩; have n0_ := Aside0.mk (below_step (by repeat (first | (with_reducible first | exact HB.out | apply below_alloc | apply pw_below_drewN | apply below_drew1) | exact HB.out)) hb); clear HB; have HB := n0_; clear n0_; (try clear hb); (try clear hb2); (try clear hk); (try clear hi)) | ((with_reducible refine gate_callee (f := 38) rfl ?_); refine goesL_ (some 17) rfl rfl Try.func38 (by kernel_rfl) rfl #[.string a0] rfl (by (try simp only [List.map_toArray, List.map_cons, List.map_nil]); first | done | rfl | (simp only [List.length_drop, List.length_take]; rfl)) ?_; (with_reducible refine (glossatorref03_Scan.calls k a0 t135 t136 t137 _ A3.out).mono ?_); rintro e w12 ⟨rfl, hb⟩; refine ⟨_, rfl, ?_⟩; have n0_ := Aside0.mk (below_step (by repeat (first | (with_reducible first | exact HB.out | apply below_alloc | apply pw_below_drewN | apply below_drew1) | exact HB.out)) hb); clear HB; have HB := n0_; clear n0_; (try clear hb); (try clear hb2); (try clear hk); (try clear hi)))
        go_ret
        exact ⟨by first | rfl | (simp [errW_none, errW_some] <;> rfl) | (simp [*, errW_none, errW_some] <;> rfl), by repeat (first | (with_reducible first | exact HB.out | apply below_alloc | apply pw_below_drewN | apply below_drew1) | exact HB.out)⟩
    · rw [if_neg c5] at H
      have c5b0 : (t133 == t136) = false := beq_eq_false_iff_ne.mpr c5
      have c5b1 : (t133 != t136) = true := bne_iff_ne.mpr c5
      obtain rfl := Option.some.inj H
      go_enter Try.func12, Try.ntmps12
      go_wp2_with (first | ((with_reducible refine gate_callee (f := 37) rfl ?_); refine goesL_ (some 11) rfl rfl Try.func37 (by kernel_rfl) rfl #[.string a0] rfl (by (try simp only [List.map_toArray, List.map_cons, List.map_nil]); first | done | rfl | (simp only [List.length_drop, List.length_take]; rfl)) ?_; (with_reducible refine (esc_Scan.calls a0 t132 t133 t134 _ A2.out).mono ?_); rintro e w13 ⟨rfl, hb⟩; refine ⟨_, rfl, ?_⟩; have n0_ := Aside0.mk (below_step (by repeat (first | (with_reducible first | exact HB.out | apply below_alloc | apply pw_below_drewN | apply below_drew1) | exact HB.out)) hb); clear HB; have HB := n0_; clear n0_; (try clear hb); (try clear hb2); (try clear hk); (try clear hi)) | ((with_reducible refine gate_callee (f := 38) rfl ?_); refine goesL_ (some 17) rfl rfl Try.func38 (by kernel_rfl) rfl #[.string a0] rfl (by (try simp only [List.map_toArray, List.map_cons, List.map_nil]); first | done | rfl | (simp only [List.length_drop, List.length_take]; rfl)) ?_; (with_reducible refine (glossatorref03_Scan.calls k a0 t135 t136 t137 _ A3.out).mono ?_); rintro e w14 ⟨rfl, hb⟩; refine ⟨_, rfl, ?_⟩; have n0_ := Aside0.mk (below_step (by repeat (first | (with_reducible first | exact HB.out | apply below_alloc | apply pw_below_drewN | apply below_drew1) | exact HB.out)) hb); clear HB; have HB := n0_; clear n0_; (try clear hb); (try clear hb2); (try clear hk); (try clear hi)))
      go_ret
      exact ⟨by first | rfl | (simp [errW_none, errW_some] <;> rfl) | (simp [*, errW_none, errW_some] <;> rfl), by repeat (first | (with_reducible first | exact HB.out | apply below_alloc | apply pw_below_drewN | apply below_drew1) | exact HB.out)⟩
  · rw [if_neg c4] at H
    have c4b0 : (t132.toList == t135.toList) = false := beq_eq_false_iff_ne.mpr c4
    have c4b1 : (t132.toList != t135.toList) = true := bne_iff_ne.mpr c4
    obtain rfl := Option.some.inj H
    go_enter Try.func12, Try.ntmps12
    go_wp2_with (first | ((with_reducible refine gate_callee (f := 37) rfl ?_); refine goesL_ (some 11) rfl rfl Try.func37 (by kernel_rfl) rfl #[.string a0] rfl (by (try simp only [List.map_toArray, List.map_cons, List.map_nil]); first | done | rfl | (simp only [List.length_drop, List.length_take]; rfl)) ?_; (with_reducible refine (esc_Scan.calls a0 t132 t133 t134 _ A2.out).mono ?_); rintro e w15 ⟨rfl, hb⟩; refine ⟨_, rfl, ?_⟩; have n0_ := Aside0.mk (below_step (by repeat (first | (with_reducible first | exact HB.out | apply below_alloc | apply pw_below_drewN | apply below_drew1) | exact HB.out)) hb); clear HB; have HB := n0_; clear n0_; (try clear hb); (try clear hb2); (try clear hk); (try clear hi)) | ((with_reducible refine gate_callee (f := 38) rfl ?_); refine goesL_ (some 17) rfl rfl Try.func38 (by kernel_rfl) rfl #[.string a0] rfl (by (try simp only [List.map_toArray, List.map_cons, List.map_nil]); first | done | rfl | (simp only [List.length_drop, List.length_take]; rfl)) ?_; (with_reducible refine (glossatorref03_Scan.calls k a0 t135 t136 t137 _ A3.out).mono ?_); rintro e w16 ⟨rfl, hb⟩; refine ⟨_, rfl, ?_⟩; have n0_ := Aside0.mk (below_step (by repeat (first | (with_reducible first | exact HB.out | apply below_alloc | apply pw_below_drewN | apply below_drew1) | exact HB.out)) hb); clear HB; have HB := n0_; clear n0_; (try clear hb); (try clear hb2); (try clear hk); (try clear hi)))
    go_ret
    exact ⟨by first | rfl | (simp [errW_none, errW_some] <;> rfl) | (simp [*, errW_none, errW_some] <;> rfl), by repeat (first | (with_reducible first | exact HB.out | apply below_alloc | apply pw_below_drewN | apply below_drew1) | exact HB.out)⟩

/-- THE ONE PURE STATEMENT of glossatorlaw03_EscScans: yours. -/
def glossatorlaw03_EscScans.Pure : Prop := ∀ (a0 : ByteArray), a0.size ≤ 140737488351232 → ∃ k, glossatorlaw03_EscScans.f k a0 = some true
theorem glossatorlaw03_EscScans.walk (P : glossatorlaw03_EscScans.Pure) (a0 : ByteArray) (w : World) (w0 : a0.size ≤ 140737488351232) :
    Calls Try.prog 12 #[.string a0] w fun e w' => e = .returned (.bool true) ∧ Below w.heap.size w w' := by
  obtain ⟨k, h⟩ := P a0 w0
  refine (glossatorlaw03_EscScans.calls k a0 true w h).mono ?_
  rintro e w' ⟨rfl, hd⟩
  exact ⟨rfl, hd⟩

end Go.Proofs.Ytlbokaekhjjabaa.S

/-
  Scan reads what Quote wrote, whatever stands behind. Without Go.
-/
namespace Go.Proofs.Ytlbokaekhjjabaa
open Go.RowKit
set_option linter.unusedVariables false

theorem drop_byte {s : ByteArray} {p : Nat} {b : UInt8} {r : List UInt8} (h : s.data.toList.drop p = b :: r) : p < s.size ∧ byteAt s p = b.toNat ∧ s.data.toList.drop (p + 1) = r := by
  have hl := congrArg List.length h
  rw [List.length_drop, data_len, List.length_cons] at hl
  have hp : p < s.size := by omega
  refine ⟨hp, ?_, ?_⟩
  · unfold byteAt
    have := congrArg (fun l => l[0]?) h
    simp only [List.getElem?_drop, Nat.add_zero, List.getElem?_cons_zero] at this
    rw [List.getD_eq_getElem?_getD, this]
    rfl
  · have := congrArg (List.drop 1) h
    rw [List.drop_drop] at this
    exact this
theorem drop_num {s : ByteArray} {p : Nat} {c : Int} {r : List UInt8} (h : s.data.toList.drop p = byteOf c :: r) (h0 : 0 ≤ c) (h1 : c ≤ 255) : p < s.size ∧ byteAt s p = c ∧ s.data.toList.drop (p + 1) = r := by
  have := drop_byte h
  rwa [byteOf_toNat h0 h1] at this
theorem nx_hit {s : ByteArray} {is : Int → Bool} {p : Nat} {c : Int} (hp : p < s.size) (hc : byteAt s p = c) (hi : is c = true) : nx s is p 0 = (c, p + 1, 0) := by
  unfold nx
  rw [if_neg (by decide), if_pos hp, hc, if_pos hi]

def isEsc (b : Int) : Bool := match escB b with
  | [x, l] => x == 92 && (escIs l && (l != 117 && (unl letterPairs l == b && (decide (0 ≤ l) && decide (l ≤ 255)))))
  | _ => false
def isU (b : Int) : Bool := match escB b with
  | [x, u, z, z2, h1, h2] => x == 92 && (u == 117 && (z == 48 && (z2 == 48 && (dig h1 == b / 16 && (dig h2 == b % 16 && (decide (0 ≤ h1) && (decide (h1 ≤ 255) && (decide (0 ≤ h2) && decide (h2 ≤ 255)))))))))
  | _ => false
def isPl (b : Int) : Bool := escB b == [b] && (decide (32 ≤ b) && (b != 34 && b != 92))
theorem classes : ∀ n : Nat, n < 128 → (isEsc n || (isU n || isPl n)) = true := by decide +kernel
theorem highs : ∀ n : Nat, n < 256 → 128 ≤ n → escB n = [(n : Int)] := by decide +kernel
theorem escB_class {b : Int} (h0 : 0 ≤ b) (h1 : b < 128) : (∃ l, escB b = [92, l] ∧ escIs l = true ∧ l ≠ 117 ∧ unl letterPairs l = b ∧ 0 ≤ l ∧ l ≤ 255) ∨
    (∃ x y, escB b = [92, 117, 48, 48, x, y] ∧ dig x = b / 16 ∧ dig y = b % 16 ∧ 0 ≤ x ∧ x ≤ 255 ∧ 0 ≤ y ∧ y ≤ 255) ∨ (escB b = [b] ∧ 32 ≤ b ∧ b ≠ 34 ∧ b ≠ 92) := by
  have h := classes b.toNat (by omega)
  rw [show ((b.toNat : Nat) : Int) = b by omega] at h
  simp only [Bool.or_eq_true] at h
  rcases h with h | h | h
  · left
    unfold isEsc at h
    split at h
    · rename_i x l he
      simp at h
      exact ⟨l, by rw [he, h.1], h.2.1, h.2.2.1, h.2.2.2.1, h.2.2.2.2.1, h.2.2.2.2.2⟩
    · cases h
  · right; left
    unfold isU at h
    split at h
    · rename_i x u z z2 a c he
      simp at h
      exact ⟨a, c, by rw [he, h.1, h.2.1, h.2.2.1, h.2.2.2.1], h.2.2.2.2.1, h.2.2.2.2.2.1, h.2.2.2.2.2.2.1, h.2.2.2.2.2.2.2.1, h.2.2.2.2.2.2.2.2.1, h.2.2.2.2.2.2.2.2.2⟩
    · cases h
  · right; right
    unfold isPl at h
    simp at h
    exact h

theorem encL_small {c : Int} (h0 : 0 ≤ c) (h1 : c < 128) : encL c = [c] := by unfold encL; rw [if_neg (by omega), if_pos h1]
theorem unitIs_plain {i u c : Int} (h : 0 ≤ dig c) (hu : u ≠ 13) : unitIs false i u c = true := by
  unfold unitIs
  rw [if_neg (by omega), if_neg (by simp), if_neg (by omega)]
/-- One byte, as Quote writes it. -/
theorem step_byte {s : ByteArray} {p : Nat} {b : Int} {r : List UInt8} (out : List Int) (h0 : 0 ≤ b) (h1 : b < 128) (h : s.data.toList.drop p = (escB b).map byteOf ++ r) :
    scnF s p 0 out = scnF s (p + (escB b).length) 0 (out ++ [b]) ∧ s.data.toList.drop (p + (escB b).length) = r := by
  rcases escB_class h0 h1 with ⟨l, he, hi, hn, hu, hl0, hl1⟩ | ⟨x, y, he, hx, hy, hx0, hx1, hy0, hy1⟩ | ⟨he, h2, h3, h4⟩
  · rw [he] at h ⊢
    simp only [List.map_cons, List.map_nil, List.cons_append, List.nil_append] at h
    obtain ⟨p1, b1, d1⟩ := drop_num h (by decide) (by decide)
    obtain ⟨p2, b2, d2⟩ := drop_num d1 hl0 hl1
    refine ⟨?_, d2⟩
    have e : escF s (p + 1) 0 = ([b], p + 2, 0) := by
      unfold escF
      rw [nx_hit p2 b2 hi, if_pos hn, hu]
    rw [scnF_step, nx_hit (is := ge32) p1 b1 (by decide)]
    unfold behind
    dsimp only
    rw [if_neg (by decide), if_neg (by decide), if_pos rfl, e]
    rfl
  · rw [he] at h ⊢
    simp only [List.map_cons, List.map_nil, List.cons_append, List.nil_append] at h
    obtain ⟨p1, b1, d1⟩ := drop_num h (by decide) (by decide)
    obtain ⟨p2, b2, d2⟩ := drop_num d1 (by decide) (by decide)
    obtain ⟨p3, b3, d3⟩ := drop_num d2 (by decide) (by decide)
    obtain ⟨p4, b4, d4⟩ := drop_num d3 (by decide) (by decide)
    obtain ⟨p5, b5, d5⟩ := drop_num d4 hx0 hx1
    obtain ⟨p6, b6, d6⟩ := drop_num d5 hy0 hy1
    refine ⟨?_, d6⟩
    have eu : unitF s false (p + 2) 0 = (b, p + 6, 0) := by
      unfold unitF
      simp only [unitL]
      rw [nx_hit p3 b3 (unitIs_plain (by decide) (by decide))]
      dsimp only
      rw [nx_hit p4 b4 (unitIs_plain (by decide) (by decide))]
      dsimp only
      rw [nx_hit p5 b5 (unitIs_plain (by omega) (by decide))]
      dsimp only
      rw [nx_hit p6 b6 (unitIs_plain (by omega) (by rw [hx, show dig 48 = 0 from rfl]; omega))]
      dsimp only
      rw [hx, hy, show dig 48 = 0 from rfl]
      congr 1
      omega
    have e : escF s (p + 1) 0 = ([b], p + 6, 0) := by
      unfold escF
      rw [nx_hit (is := escIs) p2 b2 (by decide)]
      dsimp only
      rw [if_neg (by decide)]
      rw [eu]
      dsimp only
      rw [if_neg (by omega), encL_small h0 h1]
    rw [scnF_step, nx_hit (is := ge32) p1 b1 (by decide)]
    unfold behind
    dsimp only
    rw [if_neg (by decide), if_neg (by decide), if_pos rfl, e]
    rfl
  · rw [he] at h ⊢
    simp only [List.map_cons, List.map_nil, List.cons_append, List.nil_append] at h
    obtain ⟨p1, b1, d1⟩ := drop_num h h0 (by omega)
    refine ⟨?_, d1⟩
    have e : plainN s p = (1, 0) := by
      rw [plainN_plL, h]
      exact plL_A (x := [byteOf b]) (c := b) (by rw [encL_small h0 h1]; rfl) (by simp) r
    rw [scnF_step, nx_hit (is := ge32) p1 b1 (by unfold ge32; exact decide_eq_true h2)]
    unfold behind
    dsimp only
    rw [if_neg (by decide), if_neg h3, if_neg h4, e]
    dsimp only
    rw [bytesOf_eq, h]
    simp only [List.take_succ_cons, List.take_zero, List.map_cons, List.map_nil]
    rw [byteOf_toNat h0 (by omega)]
    rfl
/-- A code point of more than one byte stands as it is. -/
theorem stepHigh {s : ByteArray} {p : Nat} {x r : List UInt8} {c : Int} (out : List Int) (hx : (encL c).map byteOf = x) (h0 : 0 < x.length) (hh : ∀ b ∈ x, 128 ≤ b.toNat) (h : s.data.toList.drop p = x ++ r) :
    scnF s p 0 out = scnF s (p + x.length) 0 (out ++ x.map fun b => (b.toNat : Int)) ∧ s.data.toList.drop (p + x.length) = r := by
  have hd : s.data.toList.drop (p + x.length) = r := by
    rw [← List.drop_drop, h, List.drop_left]
  refine ⟨?_, hd⟩
  have e : plainN s p = (x.length, 0) := by rw [plainN_plL, h]; exact plL_A hx h0 r
  have eb : bytesOf s p x.length = x.map fun b => (b.toNat : Int) := by rw [bytesOf_eq, h, List.take_left]
  cases x with
  | nil => simp at h0
  | cons d t =>
    obtain ⟨p1, b1, d1⟩ := drop_byte (show s.data.toList.drop p = d :: (t ++ r) from h)
    have hd := hh d (List.mem_cons_self ..)
    rw [scnF_step, nx_hit (is := ge32) p1 b1 (by unfold ge32; exact decide_eq_true (by omega))]
    unfold behind
    dsimp only
    rw [if_neg (by decide), if_neg (by omega), if_neg (by omega), e]
    dsimp only
    rw [eb]
theorem enc_class {c : Int} {x : List UInt8} (hx : (encL c).map byteOf = x) (h0 : 0 < x.length) : (x = [byteOf c] ∧ 0 ≤ c ∧ c < 128) ∨ (∀ b ∈ x, 128 ≤ b.toNat) := by
  have key : ∀ n : Int, 128 ≤ n → n ≤ 255 → 128 ≤ (byteOf n).toNat := fun n a b => by have := byteOf_toNat (n := n) (by omega) b; omega
  subst hx
  unfold encL at h0 ⊢
  split at h0
  · simp at h0
  rename_i h1
  rw [if_neg h1]
  split
  · left; exact ⟨rfl, by omega, by omega⟩
  right
  intro b hb
  repeat' split at hb
  all_goals
    simp only [List.map_cons, List.map_nil, List.mem_cons, List.not_mem_nil, or_false] at hb
    rcases hb with rfl | rfl | rfl | rfl
    all_goals exact key _ (by omega) (by omega)
theorem quoteL_high (x : List UInt8) (h : ∀ b ∈ x, 128 ≤ b.toNat) : (quoteL x).map byteOf = x ∧ quoteL x = x.map fun b => (b.toNat : Int) := by
  induction x with
  | nil => exact ⟨rfl, rfl⟩
  | cons c t ih =>
    have h1 := ih (fun b hb => h b (List.mem_cons_of_mem _ hb))
    have h2 := highs c.toNat c.toNat_lt (h c (List.mem_cons_self ..))
    simp only [quoteL]
    rw [h2, h1.2]
    refine ⟨?_, rfl⟩
    rw [List.map_append, ← h1.2, h1.1]
    simp only [List.map_cons, List.map_nil, byteOf_of]
    rfl
theorem whole_tail {x t : List UInt8} (hx : Whole x) (h : Whole (x ++ t)) : Whole t := by
  obtain ⟨st, h1, h2⟩ := hx
  obtain ⟨st', h3, h4⟩ := h
  rw [runL_append, h1] at h3
  cases t with
  | nil => exact whole_nil
  | cons c t =>
    refine ⟨st', ?_, h4⟩
    rw [← h3]
    simp only [Option.bind_some, runL]
    rw [stp_0 h2]
/-- The rounds over what Quote wrote. -/
theorem scn_quo (s : ByteArray) (m : Nat) : ∀ (l r : List UInt8) (p : Nat) (out : List Int), l.length < m → Whole l → s.data.toList.drop p = (quoteL l).map byteOf ++ byteOf 34 :: r →
    scnF s p 0 out = (out ++ l.map fun b => (b.toNat : Int), p + (quoteL l).length + 1, 0) := by
  induction m with
  | zero => intro l r p out h; omega
  | succ m ih =>
    intro l r p out hm hw h
    by_cases hl : l = []
    · subst hl
      obtain ⟨p1, b1, d1⟩ := drop_num (show s.data.toList.drop p = byteOf 34 :: r from h) (by decide) (by decide)
      rw [scnF_step, nx_hit (is := ge32) p1 b1 (by decide)]
      unfold behind
      dsimp only
      rw [if_neg (by decide), if_pos rfl]
      simp [quoteL]
    · obtain ⟨x, t, e1, e2, e3, e4⟩ := enc_ptL (whole_pt hw hl)
      rw [e1] at hw h hm ⊢
      have hwx : Whole x := by rw [← e4]; exact whole_enc _
      have hwt := whole_tail hwx hw
      rw [List.length_append] at hm
      rw [quoteL_append, List.map_append, List.append_assoc] at h
      rw [quoteL_append, List.map_append, List.length_append]
      rcases enc_class e4 e3 with ⟨h1, h2, h3⟩ | h1
      · have hq : quoteL x = escB (ptL l).1 := by
          rw [h1]
          simp only [quoteL, List.append_nil]
          rw [byteOf_toNat h2 (by omega)]
        rw [hq] at h ⊢
        obtain ⟨a1, a2⟩ := step_byte out h2 h3 h
        rw [a1, ih t r _ _ (by omega) hwt a2, h1]
        simp only [List.map_cons, List.map_nil, List.append_assoc]
        rw [byteOf_toNat h2 (by omega), Nat.add_assoc p]
      · obtain ⟨q1, q2⟩ := quoteL_high x h1
        rw [q1] at h
        obtain ⟨a1, a2⟩ := stepHigh out e4 e3 h1 h
        rw [a1, ih t r _ _ (by omega) hwt a2]
        have hz : (quoteL x).length = x.length := by rw [q2, List.length_map]
        rw [hz, List.append_assoc, Nat.add_assoc p]
theorem scan_quo {s t : ByteArray} {r : List UInt8} (hw : Whole s.data.toList) (h : t.data.toList = byteOf 34 :: ((quoteL s.data.toList).map byteOf ++ byteOf 34 :: r)) :
    scanF t = (s.data.toList.map (fun b => (b.toNat : Int)), (quoteL s.data.toList).length + 2, 0) := by
  obtain ⟨p1, b1, d1⟩ := drop_num (s := t) (p := 0) (by rw [List.drop_zero]; exact h) (by decide) (by decide)
  have e : scanF t = scnF t 1 0 [] := by
    show scnF t (nx t (fun c => c == 34) 0 0).2.1 (nx t (fun c => c == 34) 0 0).2.2 [] = _
    rw [nx_hit (is := fun c => c == 34) p1 b1 (by decide)]
  rw [e, scn_quo t _ s.data.toList r 1 [] (Nat.lt_succ_self _) hw d1]
  simp only [List.nil_append]
  congr 2
  omega
end Go.Proofs.Ytlbokaekhjjabaa
