-- Written by a program of this session (joint.sh) out of the translation. Not trusted: Lean checks it.
import Derived.Test.YtlbokaekhjjabaaUx0
import Derived.Test.YtlbokaekhjjabaaUx15
namespace Go.Proofs.Ytlbokaekhjjabaa.U
open Go.RowKit Go.Proofs.YtlbokaekhjjabaaW.PrintWords Go.Proofs.YtlbokaekhjjabaaW.PrintLast Go.Proofs.YtlbokaekhjjabaaW.PrintMore
attribute [local go_sem] max2_int min2_int max_two min_two max_three min_three max_four min_four   -- for this text's walks alone
set_option linter.unusedVariables false
set_option linter.unusedSimpArgs false

/-! ### glossatorref02_Within: function 35 -/
def glossatorref02_Within.f (k : Nat) (a0 : ByteArray) (a1 : Int) : Option (Int × Int) := if 0 ≤ (mn (a0.size : Int) (mx a1 0)) then (if (mn (a0.size : Int) (mx a1 0)) ≤ (a0.size : Int) then ((glossatorref02_within.f k (a0.extract 0 ((mn (a0.size : Int) (mx a1 0)) : Int).toNat) (mx a1 0)).bind fun bt167 => (some (bt167.1, bt167.2))) else (none)) else (none)
theorem glossatorref02_Within.mono : ∀ a0 a1 k, LeO (glossatorref02_Within.f k a0 a1) (glossatorref02_Within.f (k + 1) a0 a1) := by
  intro a0 a1 k
  unfold glossatorref02_Within.f
  repeat' first
      | (with_reducible exact glossatorref02_within.mono _ _ _)
      | (with_reducible exact LeO.refl _)
      | (with_reducible exact LeO.none _)
      | (with_reducible refine LeO.ite ?_ ?_)
      | (with_reducible refine LeO.bind ?_ (fun _ => ?_))
      | exact glossatorref02_within.mono _ _ _
      | exact LeO.none _
      | refine LeO.ite ?_ ?_
      | refine LeO.bind ?_ (fun _ => ?_)
set_option maxHeartbeats 8000000 in
set_option maxRecDepth 100000 in
theorem glossatorref02_Within.calls (k : Nat) (a0 : ByteArray) (a1 : Int) (r1 : Int) (r2 : Int) (w : World) (h : glossatorref02_Within.f k a0 a1 = some (r1, r2)) :
    Calls Try.prog 35 #[.string a0, .int .i64 a1] w fun e w' => e = .returned (.tuple #[.int .i64 r1, .int .i64 r2]) ∧ Below w.heap.size w w' := by
  have HB := Aside0.mk (Below.refl w.heap.size w)
  have H : (if 0 ≤ (mn (a0.size : Int) (mx a1 0)) then (if (mn (a0.size : Int) (mx a1 0)) ≤ (a0.size : Int) then ((glossatorref02_within.f k (a0.extract 0 ((mn (a0.size : Int) (mx a1 0)) : Int).toNat) (mx a1 0)).bind fun bt167 => (some (bt167.1, bt167.2))) else (none)) else (none)) = some (r1, r2) := h
  clear h
  obtain ⟨ji3, hji3⟩ : ∃ j_ : Int, (mx a1 0) = j_ := ⟨_, rfl⟩
  replace H : (if 0 ≤ (mn (a0.size : Int) (ji3)) then (if (mn (a0.size : Int) (ji3)) ≤ (a0.size : Int) then ((glossatorref02_within.f k (a0.extract 0 ((mn (a0.size : Int) (ji3)) : Int).toNat) (ji3)).bind fun bt167 => (some (bt167.1, bt167.2))) else (none)) else (none)) = some (r1, r2) := by first | (rw [hji3] at H; exact H) | (simp only [hji3] at H ⊢; exact H)
  (try (have hji3l : 0 ≤ ji3 := by (rw [← hji3]; unfold mx; (repeat' split) <;> omega)))
  (try (have hji3m : 0 ≤ ji3 := by omega))
  have hji3_ : (if a1 < 0 then 0 else a1) = ji3 := hji3
  obtain ⟨ji4, hji4⟩ : ∃ j_ : Int, (mn (a0.size : Int) (ji3)) = j_ := ⟨_, rfl⟩
  replace H : (if 0 ≤ (ji4) then (if (ji4) ≤ (a0.size : Int) then ((glossatorref02_within.f k (a0.extract 0 ((ji4) : Int).toNat) (ji3)).bind fun bt167 => (some (bt167.1, bt167.2))) else (none)) else (none)) = some (r1, r2) := by first | (rw [hji4] at H; exact H) | (simp only [hji4] at H ⊢; exact H)
  have hji4_ : (if (ji3) < (a0.size : Int) then (ji3) else (a0.size : Int)) = ji4 := hji4
  by_cases c5 : 0 ≤ (ji4)
  · rw [if_pos c5] at H
    have c5b0 := eq_true c5
    have c5b1 : decide (0 ≤ (ji4)) = true := decide_eq_true c5
    clear c5
    by_cases c6 : (ji4) ≤ (a0.size : Int)
    · rw [if_pos c6] at H
      have c6b0 := eq_true c6
      have c6b1 : decide ((ji4) ≤ (a0.size : Int)) = true := decide_eq_true c6
      clear c6
      replace H := Option.bind_eq_some_iff.mp H
      obtain ⟨⟨t167, t168⟩, A70, H⟩ := H
      replace H : (some (t167, t168)) = some (r1, r2) := H
      have A7 := Aside0.mk A70
      clear A70
      simp only [Option.some.injEq, Prod.mk.injEq] at H
      obtain ⟨rfl, rfl⟩ := H
      go_enter Try.func35, Try.ntmps35
      go_wp2_with (first | ((with_reducible refine gate_callee (f := 53) rfl ?_); refine goesL_ (some 15) rfl rfl Try.func53 (by kernel_rfl) rfl #[.string (a0.extract 0 ((ji4) : Int).toNat), .int .i64 ji3] rfl (by (try simp only [List.map_toArray, List.map_cons, List.map_nil]); first | done | (simp only [hji3, hji4]; rfl) | rfl | (simp only [List.length_drop, List.length_take]; rfl)) ?_; (with_reducible refine (glossatorref02_within.calls k (a0.extract 0 ((ji4) : Int).toNat) ji3 t167 t168 _ A7.out).mono ?_); rintro e w' ⟨rfl, ⟨nd, rfl⟩⟩; refine ⟨_, rfl, ?_⟩))
      go_ret2
      exact ⟨by first | rfl | (simp [errW_none, errW_some] <;> rfl) | (simp only [← hji3, ← hji4]; first | rfl | (simp [errW_none, errW_some] <;> rfl)) | (simp [*, errW_none, errW_some] <;> rfl), by repeat (first | (with_reducible first | exact HB.out | apply below_alloc | apply pw_below_drewN | apply below_drew1) | exact HB.out)⟩
    · rw [if_neg c6] at H
      exact absurd H (by simp)
  · rw [if_neg c5] at H
    exact absurd H (by simp)

end Go.Proofs.Ytlbokaekhjjabaa.U
