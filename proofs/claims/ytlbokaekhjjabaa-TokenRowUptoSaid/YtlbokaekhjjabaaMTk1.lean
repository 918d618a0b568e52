import Derived.Lib.Strings
import Derived.Laws.AppendOwn
import Derived.Deep.AppendLies
import Derived.Lib.AppendStr
import Derived.Deep.RegionLaw
import Derived.Deep.QuietTactic
import Derived.BigQuiet
import Derived.Laws.BytesArg
import Derived.Test.YtlbokaekhjjabaaMTk0
-- Written by a program of this session (joint.sh) out of the translation. Not trusted: Lean checks it.
namespace Go.Proofs.Ytlbokaekhjjabaa.U
open Go.RowKit Go.Proofs.YtlbokaekhjjabaaW.PrintWords Go.Proofs.YtlbokaekhjjabaaW.PrintLast Go.Proofs.YtlbokaekhjjabaaW.PrintMore
attribute [local go_sem] max2_int min2_int max_two min_two max_three min_three max_four min_four   -- for this text's walks alone
set_option linter.unusedVariables false
set_option linter.unusedSimpArgs false

/-! ### glossatorref02_Encode: function 29 -/
def glossatorref02_Encode.j0 : Nat → Int → Bool → Option (ByteArray)
  | 0, _, _ => none
  | k + 1, x0, x3 => if x3 = true then (some (⟨#[]⟩ : ByteArray)) else (if x0 < 128 then (some (strOfNums (([(x0) % 256] : List Int)))) else (if x0 < 2048 then (some (strOfNums (([(Go.bits .or .i64 192 (x0 / 64)) % 256, (Go.bits .or .i64 128 (Go.bits .and .i64 x0 63)) % 256] : List Int)))) else (if x0 < 65536 then (some (strOfNums (([(Go.bits .or .i64 224 (x0 / 4096)) % 256, (Go.bits .or .i64 128 (Go.bits .and .i64 (x0 / 64) 63)) % 256, (Go.bits .or .i64 128 (Go.bits .and .i64 x0 63)) % 256] : List Int)))) else (some (strOfNums (([(Go.bits .or .i64 240 (x0 / 262144)) % 256, (Go.bits .or .i64 128 (Go.bits .and .i64 (x0 / 4096) 63)) % 256, (Go.bits .or .i64 128 (Go.bits .and .i64 (x0 / 64) 63)) % 256, (Go.bits .or .i64 128 (Go.bits .and .i64 x0 63)) % 256] : List Int)))))))
def glossatorref02_Encode.f (k : Nat) (a0 : Int) : Option (ByteArray) := if a0 < 0 then (glossatorref02_Encode.j0 k a0 true) else (if a0 > 1114111 then (glossatorref02_Encode.j0 k a0 true) else (if a0 ≥ 55296 then (glossatorref02_Encode.j0 k a0 (decide (a0 ≤ 57343))) else (glossatorref02_Encode.j0 k a0 false)))
theorem glossatorref02_Encode.mono_l : ∀ k, (∀ y0 y1, LeO (glossatorref02_Encode.j0 k y0 y1) (glossatorref02_Encode.j0 (k + 1) y0 y1))
  | 0 => fun _ _ r h => by simp [glossatorref02_Encode.j0] at h
  | k + 1 => by
    have ih0 := glossatorref02_Encode.mono_l k
    · intro y0 y1
      unfold glossatorref02_Encode.j0
      repeat' first
      | (with_reducible exact ih0 _ _)
      | (with_reducible exact LeO.refl _)
      | (with_reducible exact LeO.none _)
      | (with_reducible refine LeO.ite ?_ ?_)
      | (with_reducible refine LeO.bind ?_ (fun _ => ?_))
      | exact ih0 _ _
      | exact LeO.none _
      | refine LeO.ite ?_ ?_
      | refine LeO.bind ?_ (fun _ => ?_)
theorem glossatorref02_Encode.mono : ∀ a0 k, LeO (glossatorref02_Encode.f k a0) (glossatorref02_Encode.f (k + 1) a0) := by
  intro a0 k
  have ih0 := glossatorref02_Encode.mono_l k
  unfold glossatorref02_Encode.f
  repeat' first
      | (with_reducible exact ih0 _ _)
      | (with_reducible exact LeO.refl _)
      | (with_reducible exact LeO.none _)
      | (with_reducible refine LeO.ite ?_ ?_)
      | (with_reducible refine LeO.bind ?_ (fun _ => ?_))
      | exact ih0 _ _
      | exact LeO.none _
      | refine LeO.ite ?_ ?_
      | refine LeO.bind ?_ (fun _ => ?_)
set_option maxHeartbeats 8000000 in
set_option maxRecDepth 100000 in
theorem glossatorref02_Encode.calls (k : Nat) (a0 : Int) (r : ByteArray) (w : World) (h : glossatorref02_Encode.f k a0 = some r) :
    Calls Try.prog 29 #[.int .i64 a0] w fun e w' => e = .returned (.string r) ∧ Below w.heap.size w w' := by
  have HB := Aside0.mk (Below.refl w.heap.size w)
  have H : (if a0 < 0 then (glossatorref02_Encode.j0 k a0 true) else (if a0 > 1114111 then (glossatorref02_Encode.j0 k a0 true) else (if a0 ≥ 55296 then (glossatorref02_Encode.j0 k a0 (decide (a0 ≤ 57343))) else (glossatorref02_Encode.j0 k a0 false)))) = some r := h
  clear h
  have HC2 := Aside0.mk H
  clear H
  go_enter Try.func29, Try.ntmps29
  go_upto_region 1 with (fail)
  go_cut [3] (fun v3 wc => ∃ (kq : Nat) (x3_1 : Bool), v3 = .bool x3_1 ∧ Aside0 (glossatorref02_Encode.j0 kq a0 x3_1 = some r) ∧ Aside0 (kq ≤ k) ∧ Aside0 (Below w.heap.size w wc))
  case first =>
    have H := HC2.out
    clear HC2
    by_cases c3 : a0 < 0
    · rw [if_pos c3] at H
      have c3b0 : decide (a0 < 0) = true := decide_eq_true c3
      clear c3
      (first | rw [c3b0] | (simp only [i64_w, i32_w]; rw [c3b0]) | skip)
      have H' := Aside0.mk H
      clear H
      go_wp2
      go_meet
      case rel => exact ⟨_, (true), (by first | rfl | (simp; done) | (simp [*]; done)), H', ⟨by first | omega | exact Nat.le_refl _⟩, ⟨by repeat (first | (with_reducible first | exact HB.out | apply below_alloc | apply pw_below_drewN | apply below_drew1) | exact HB.out)⟩⟩
    · rw [if_neg c3] at H
      have c3b0 : decide (a0 < 0) = false := decide_eq_false c3
      clear c3
      (first | rw [c3b0] | (simp only [i64_w, i32_w]; rw [c3b0]) | skip)
      by_cases c4 : a0 > 1114111
      · rw [if_pos c4] at H
        have c4b0 : decide (1114111 < a0) = true := decide_eq_true c4
        clear c4
        have H' := Aside0.mk H
        clear H
        go_wp2
        go_meet
        case rel => exact ⟨_, (true), (by first | rfl | (simp; done) | (simp [*]; done)), H', ⟨by first | omega | exact Nat.le_refl _⟩, ⟨by repeat (first | (with_reducible first | exact HB.out | apply below_alloc | apply pw_below_drewN | apply below_drew1) | exact HB.out)⟩⟩
      · rw [if_neg c4] at H
        have c4b0 : decide (1114111 < a0) = false := decide_eq_false c4
        clear c4
        by_cases c5 : a0 ≥ 55296
        · rw [if_pos c5] at H
          have c5b0 : decide (55296 ≤ a0) = true := decide_eq_true c5
          clear c5
          have H' := Aside0.mk H
          clear H
          go_wp2
          go_meet
          case rel => exact ⟨_, (decide (a0 ≤ 57343)), (by first | rfl | (simp; done) | (simp [*]; done)), H', ⟨by first | omega | exact Nat.le_refl _⟩, ⟨by repeat (first | (with_reducible first | exact HB.out | apply below_alloc | apply pw_below_drewN | apply below_drew1) | exact HB.out)⟩⟩
        · rw [if_neg c5] at H
          have c5b0 : decide (55296 ≤ a0) = false := decide_eq_false c5
          clear c5
          have H' := Aside0.mk H
          clear H
          go_wp2
          go_meet
          case rel => exact ⟨_, (false), (by first | rfl | (simp; done) | (simp [*]; done)), H', ⟨by first | omega | exact Nat.le_refl _⟩, ⟨by repeat (first | (with_reducible first | exact HB.out | apply below_alloc | apply pw_below_drewN | apply below_drew1) | exact HB.out)⟩⟩
  case rest =>
    clear HC2
    try clear c2
    try clear p2
    try clear c3
    try clear c3b0
    try clear c4
    try clear c4b0
    try clear c5
    try clear c5b0
    obtain ⟨kq, x3_1, rfl, HA, HJ1, HB⟩ := hcut
    cases kq with
    | zero => exact absurd HA.out (by simp [glossatorref02_Encode.j0])
    | succ kj1 =>
      have H := HA.out
      clear HA
      simp only [glossatorref02_Encode.j0] at H
      by_cases c6 : x3_1 = true
      · subst c6
        have H1 : (some (⟨#[]⟩ : ByteArray)) = some r := by rw [if_pos rfl] at H; exact H
        clear H
        have H := H1
        clear H1
        obtain rfl := Option.some.inj H
        go_wp2
        go_ret
        exact ⟨by first | rfl | (simp [errW_none, errW_some] <;> rfl) | (simp [*, errW_none, errW_some] <;> rfl), by repeat (first | (with_reducible first | exact HB.out | apply below_alloc | apply pw_below_drewN | apply below_drew1) | exact HB.out)⟩
      · replace c6 := Bool.eq_false_iff.mpr c6
        subst c6
        have H1 : (if a0 < 128 then (some (strOfNums (([(a0) % 256] : List Int)))) else (if a0 < 2048 then (some (strOfNums (([(Go.bits .or .i64 192 (a0 / 64)) % 256, (Go.bits .or .i64 128 (Go.bits .and .i64 a0 63)) % 256] : List Int)))) else (if a0 < 65536 then (some (strOfNums (([(Go.bits .or .i64 224 (a0 / 4096)) % 256, (Go.bits .or .i64 128 (Go.bits .and .i64 (a0 / 64) 63)) % 256, (Go.bits .or .i64 128 (Go.bits .and .i64 a0 63)) % 256] : List Int)))) else (some (strOfNums (([(Go.bits .or .i64 240 (a0 / 262144)) % 256, (Go.bits .or .i64 128 (Go.bits .and .i64 (a0 / 4096) 63)) % 256, (Go.bits .or .i64 128 (Go.bits .and .i64 (a0 / 64) 63)) % 256, (Go.bits .or .i64 128 (Go.bits .and .i64 a0 63)) % 256] : List Int))))))) = some r := by rw [if_neg (show ¬ (false = true) by decide)] at H; exact H
        clear H
        have H := H1
        clear H1
        by_cases c7 : a0 < 128
        · rw [if_pos c7] at H
          have c7b0 : decide (a0 < 128) = true := decide_eq_true c7
          clear c7
          obtain ⟨y136, hy136⟩ : ∃ y_ : List Int, y_ = (([(a0) % 256] : List Int)) := ⟨_, rfl⟩
          replace H : (some (strOfNums y136)) = some r := by first | (rw [hy136]; with_reducible exact H) | (have H2_ := (Option.bind_some _ _).symm.trans H; rw [hy136]; with_reducible exact H2_) | (have H2_ := (Option.bind_some _ _).symm.trans H; with_reducible exact H2_) | with_reducible exact H | (rw [hy136]; exact H) | exact H
          have Ny136 := Aside0.mk hy136
          clear hy136
          obtain rfl := Option.some.inj H
          go_wp2_with (first | ((with_reducible refine gate_dst (N := 23) rfl ?_); refine Kd.R_lit (Kd.int .u8) _ 5 ?hg (N := 23) ?hd (xs := ([(a0) % 256] : List Int)) (inner := [.int .u8 ((a0) % 256)]) (ok := fun _ => True) (okp := fun _ => True) ?hr ?hp (fun _ hk => hk) trivial (Below.refl _ _) (Nat.le_refl _) (by simp) ?_; (case hd => rfl); (case hg => rfl); (case hr => first | (go_simp; done) | (go_simp; rfl)); (case hp => exact (Reps.one (show Kd.M (Kd.int .u8) _ _ _ ((a0) % 256) [.int .u8 ((a0) % 256)] from rfl) (Reps.none _ _))); intro v137 w8 ho9 hb hg_ hnew_; clear hg_ hnew_; (first | rw [← Ny136.out] at ho9 | (simp only [Int.reduceToNat] at ho9; rw [← Ny136.out] at ho9)); have n0_ := Aside0.mk (Kd.R_lower ho9 (below_size (by repeat (first | (with_reducible first | exact HB.out | apply below_alloc | apply pw_below_drewN | apply below_drew1) | exact HB.out)))); have n1_ := Aside0.mk (below_step (by repeat (first | (with_reducible first | exact HB.out | apply below_alloc | apply pw_below_drewN | apply below_drew1) | exact HB.out)) hb); clear HB; have HO138 := n0_; have HB := n1_; clear n0_ n1_; clear hb ho9; have hcv10 := own_string (P := Try.prog) Try.underlying28 Try.underlying5 Try.underlying9 (Kd.own_of_R HO138.out)))
          go_ret
          exact ⟨by first | rfl | (simp [errW_none, errW_some] <;> rfl) | (simp [*, errW_none, errW_some] <;> rfl), by repeat (first | (with_reducible first | exact HB.out | apply below_alloc | apply pw_below_drewN | apply below_drew1) | exact HB.out)⟩
        · rw [if_neg c7] at H
          have c7b0 : decide (a0 < 128) = false := decide_eq_false c7
          clear c7
          by_cases c11 : a0 < 2048
          · rw [if_pos c11] at H
            have c11b0 : decide (a0 < 2048) = true := decide_eq_true c11
            clear c11
            obtain ⟨y139, hy139⟩ : ∃ y_ : List Int, y_ = (([(Go.bits .or .i64 192 (a0 / 64)) % 256, (Go.bits .or .i64 128 (Go.bits .and .i64 a0 63)) % 256] : List Int)) := ⟨_, rfl⟩
            replace H : (some (strOfNums y139)) = some r := by first | (rw [hy139]; with_reducible exact H) | (have H2_ := (Option.bind_some _ _).symm.trans H; rw [hy139]; with_reducible exact H2_) | (have H2_ := (Option.bind_some _ _).symm.trans H; with_reducible exact H2_) | with_reducible exact H | (rw [hy139]; exact H) | exact H
            have Ny139 := Aside0.mk hy139
            clear hy139
            obtain rfl := Option.some.inj H
            go_wp2_with (first | ((with_reducible refine gate_dst (N := 36) rfl ?_); refine Kd.R_lit (Kd.int .u8) _ 5 ?hg (N := 36) ?hd (xs := ([(Go.bits .or .i64 192 (a0 / 64)) % 256, (Go.bits .or .i64 128 (Go.bits .and .i64 a0 63)) % 256] : List Int)) (inner := [.int .u8 ((Go.bits .or .i64 192 (a0 / 64)) % 256), .int .u8 ((Go.bits .or .i64 128 (Go.bits .and .i64 a0 63)) % 256)]) (ok := fun _ => True) (okp := fun _ => True) ?hr ?hp (fun _ hk => hk) trivial (Below.refl _ _) (Nat.le_refl _) (by simp) ?_; (case hd => rfl); (case hg => rfl); (case hr => first | (go_simp; done) | (go_simp; rfl)); (case hp => exact (Reps.one (show Kd.M (Kd.int .u8) _ _ _ ((Go.bits .or .i64 192 (a0 / 64)) % 256) [.int .u8 ((Go.bits .or .i64 192 (a0 / 64)) % 256)] from rfl) (Reps.one (show Kd.M (Kd.int .u8) _ _ _ ((Go.bits .or .i64 128 (Go.bits .and .i64 a0 63)) % 256) [.int .u8 ((Go.bits .or .i64 128 (Go.bits .and .i64 a0 63)) % 256)] from rfl) (Reps.none _ _)))); intro v140 w12 ho13 hb hg_ hnew_; clear hg_ hnew_; (first | rw [← Ny139.out] at ho13 | (simp only [Int.reduceToNat] at ho13; rw [← Ny139.out] at ho13)); have n0_ := Aside0.mk (Kd.R_lower ho13 (below_size (by repeat (first | (with_reducible first | exact HB.out | apply below_alloc | apply pw_below_drewN | apply below_drew1) | exact HB.out)))); have n1_ := Aside0.mk (below_step (by repeat (first | (with_reducible first | exact HB.out | apply below_alloc | apply pw_below_drewN | apply below_drew1) | exact HB.out)) hb); clear HB; have HO141 := n0_; have HB := n1_; clear n0_ n1_; clear hb ho13; have hcv14 := own_string (P := Try.prog) Try.underlying28 Try.underlying5 Try.underlying9 (Kd.own_of_R HO141.out)))
            go_ret
            exact ⟨by first | rfl | (simp [errW_none, errW_some] <;> rfl) | (simp [*, errW_none, errW_some] <;> rfl), by repeat (first | (with_reducible first | exact HB.out | apply below_alloc | apply pw_below_drewN | apply below_drew1) | exact HB.out)⟩
          · rw [if_neg c11] at H
            have c11b0 : decide (a0 < 2048) = false := decide_eq_false c11
            clear c11
            by_cases c15 : a0 < 65536
            · rw [if_pos c15] at H
              have c15b0 : decide (a0 < 65536) = true := decide_eq_true c15
              clear c15
              obtain ⟨y142, hy142⟩ : ∃ y_ : List Int, y_ = (([(Go.bits .or .i64 224 (a0 / 4096)) % 256, (Go.bits .or .i64 128 (Go.bits .and .i64 (a0 / 64) 63)) % 256, (Go.bits .or .i64 128 (Go.bits .and .i64 a0 63)) % 256] : List Int)) := ⟨_, rfl⟩
              replace H : (some (strOfNums y142)) = some r := by first | (rw [hy142]; with_reducible exact H) | (have H2_ := (Option.bind_some _ _).symm.trans H; rw [hy142]; with_reducible exact H2_) | (have H2_ := (Option.bind_some _ _).symm.trans H; with_reducible exact H2_) | with_reducible exact H | (rw [hy142]; exact H) | exact H
              have Ny142 := Aside0.mk hy142
              clear hy142
              obtain rfl := Option.some.inj H
              go_wp2_with (first | ((with_reducible refine gate_dst (N := 54) rfl ?_); refine Kd.R_lit (Kd.int .u8) _ 5 ?hg (N := 54) ?hd (xs := ([(Go.bits .or .i64 224 (a0 / 4096)) % 256, (Go.bits .or .i64 128 (Go.bits .and .i64 (a0 / 64) 63)) % 256, (Go.bits .or .i64 128 (Go.bits .and .i64 a0 63)) % 256] : List Int)) (inner := [.int .u8 ((Go.bits .or .i64 224 (a0 / 4096)) % 256), .int .u8 ((Go.bits .or .i64 128 (Go.bits .and .i64 (a0 / 64) 63)) % 256), .int .u8 ((Go.bits .or .i64 128 (Go.bits .and .i64 a0 63)) % 256)]) (ok := fun _ => True) (okp := fun _ => True) ?hr ?hp (fun _ hk => hk) trivial (Below.refl _ _) (Nat.le_refl _) (by simp) ?_; (case hd => rfl); (case hg => rfl); (case hr => first | (go_simp; done) | (go_simp; rfl)); (case hp => exact (Reps.one (show Kd.M (Kd.int .u8) _ _ _ ((Go.bits .or .i64 224 (a0 / 4096)) % 256) [.int .u8 ((Go.bits .or .i64 224 (a0 / 4096)) % 256)] from rfl) (Reps.one (show Kd.M (Kd.int .u8) _ _ _ ((Go.bits .or .i64 128 (Go.bits .and .i64 (a0 / 64) 63)) % 256) [.int .u8 ((Go.bits .or .i64 128 (Go.bits .and .i64 (a0 / 64) 63)) % 256)] from rfl) (Reps.one (show Kd.M (Kd.int .u8) _ _ _ ((Go.bits .or .i64 128 (Go.bits .and .i64 a0 63)) % 256) [.int .u8 ((Go.bits .or .i64 128 (Go.bits .and .i64 a0 63)) % 256)] from rfl) (Reps.none _ _))))); intro v143 w16 ho17 hb hg_ hnew_; clear hg_ hnew_; (first | rw [← Ny142.out] at ho17 | (simp only [Int.reduceToNat] at ho17; rw [← Ny142.out] at ho17)); have n0_ := Aside0.mk (Kd.R_lower ho17 (below_size (by repeat (first | (with_reducible first | exact HB.out | apply below_alloc | apply pw_below_drewN | apply below_drew1) | exact HB.out)))); have n1_ := Aside0.mk (below_step (by repeat (first | (with_reducible first | exact HB.out | apply below_alloc | apply pw_below_drewN | apply below_drew1) | exact HB.out)) hb); clear HB; have HO144 := n0_; have HB := n1_; clear n0_ n1_; clear hb ho17; have hcv18 := own_string (P := Try.prog) Try.underlying28 Try.underlying5 Try.underlying9 (Kd.own_of_R HO144.out)))
              go_ret
              exact ⟨by first | rfl | (simp [errW_none, errW_some] <;> rfl) | (simp [*, errW_none, errW_some] <;> rfl), by repeat (first | (with_reducible first | exact HB.out | apply below_alloc | apply pw_below_drewN | apply below_drew1) | exact HB.out)⟩
            · rw [if_neg c15] at H
              have c15b0 : decide (a0 < 65536) = false := decide_eq_false c15
              clear c15
              obtain ⟨y145, hy145⟩ : ∃ y_ : List Int, y_ = (([(Go.bits .or .i64 240 (a0 / 262144)) % 256, (Go.bits .or .i64 128 (Go.bits .and .i64 (a0 / 4096) 63)) % 256, (Go.bits .or .i64 128 (Go.bits .and .i64 (a0 / 64) 63)) % 256, (Go.bits .or .i64 128 (Go.bits .and .i64 a0 63)) % 256] : List Int)) := ⟨_, rfl⟩
              replace H : (some (strOfNums y145)) = some r := by first | (rw [hy145]; with_reducible exact H) | (have H2_ := (Option.bind_some _ _).symm.trans H; rw [hy145]; with_reducible exact H2_) | (have H2_ := (Option.bind_some _ _).symm.trans H; with_reducible exact H2_) | with_reducible exact H | (rw [hy145]; exact H) | exact H
              have Ny145 := Aside0.mk hy145
              clear hy145
              obtain rfl := Option.some.inj H
              go_wp2_with (first | ((with_reducible refine gate_dst (N := 74) rfl ?_); refine Kd.R_lit (Kd.int .u8) _ 5 ?hg (N := 74) ?hd (xs := ([(Go.bits .or .i64 240 (a0 / 262144)) % 256, (Go.bits .or .i64 128 (Go.bits .and .i64 (a0 / 4096) 63)) % 256, (Go.bits .or .i64 128 (Go.bits .and .i64 (a0 / 64) 63)) % 256, (Go.bits .or .i64 128 (Go.bits .and .i64 a0 63)) % 256] : List Int)) (inner := [.int .u8 ((Go.bits .or .i64 240 (a0 / 262144)) % 256), .int .u8 ((Go.bits .or .i64 128 (Go.bits .and .i64 (a0 / 4096) 63)) % 256), .int .u8 ((Go.bits .or .i64 128 (Go.bits .and .i64 (a0 / 64) 63)) % 256), .int .u8 ((Go.bits .or .i64 128 (Go.bits .and .i64 a0 63)) % 256)]) (ok := fun _ => True) (okp := fun _ => True) ?hr ?hp (fun _ hk => hk) trivial (Below.refl _ _) (Nat.le_refl _) (by simp) ?_; (case hd => rfl); (case hg => rfl); (case hr => first | (go_simp; done) | (go_simp; rfl)); (case hp => exact (Reps.one (show Kd.M (Kd.int .u8) _ _ _ ((Go.bits .or .i64 240 (a0 / 262144)) % 256) [.int .u8 ((Go.bits .or .i64 240 (a0 / 262144)) % 256)] from rfl) (Reps.one (show Kd.M (Kd.int .u8) _ _ _ ((Go.bits .or .i64 128 (Go.bits .and .i64 (a0 / 4096) 63)) % 256) [.int .u8 ((Go.bits .or .i64 128 (Go.bits .and .i64 (a0 / 4096) 63)) % 256)] from rfl) (Reps.one (show Kd.M (Kd.int .u8) _ _ _ ((Go.bits .or .i64 128 (Go.bits .and .i64 (a0 / 64) 63)) % 256) [.int .u8 ((Go.bits .or .i64 128 (Go.bits .and .i64 (a0 / 64) 63)) % 256)] from rfl) (Reps.one (show Kd.M (Kd.int .u8) _ _ _ ((Go.bits .or .i64 128 (Go.bits .and .i64 a0 63)) % 256) [.int .u8 ((Go.bits .or .i64 128 (Go.bits .and .i64 a0 63)) % 256)] from rfl) (Reps.none _ _)))))); intro v146 w19 ho20 hb hg_ hnew_; clear hg_ hnew_; (first | rw [← Ny145.out] at ho20 | (simp only [Int.reduceToNat] at ho20; rw [← Ny145.out] at ho20)); have n0_ := Aside0.mk (Kd.R_lower ho20 (below_size (by repeat (first | (with_reducible first | exact HB.out | apply below_alloc | apply pw_below_drewN | apply below_drew1) | exact HB.out)))); have n1_ := Aside0.mk (below_step (by repeat (first | (with_reducible first | exact HB.out | apply below_alloc | apply pw_below_drewN | apply below_drew1) | exact HB.out)) hb); clear HB; have HO147 := n0_; have HB := n1_; clear n0_ n1_; clear hb ho20; have hcv21 := own_string (P := Try.prog) Try.underlying28 Try.underlying5 Try.underlying9 (Kd.own_of_R HO147.out)))
              go_ret
              exact ⟨by first | rfl | (simp [errW_none, errW_some] <;> rfl) | (simp [*, errW_none, errW_some] <;> rfl), by repeat (first | (with_reducible first | exact HB.out | apply below_alloc | apply pw_below_drewN | apply below_drew1) | exact HB.out)⟩

end Go.Proofs.Ytlbokaekhjjabaa.U

-- Written by a program of this session (joint.sh) out of the translation. Not trusted: Lean checks it.
namespace Go.Proofs.Ytlbokaekhjjabaa.U
open Go.RowKit Go.Proofs.YtlbokaekhjjabaaW.PrintWords Go.Proofs.YtlbokaekhjjabaaW.PrintLast Go.Proofs.YtlbokaekhjjabaaW.PrintMore
attribute [local go_sem] max2_int min2_int max_two min_two max_three min_three max_four min_four   -- for this text's walks alone
set_option linter.unusedVariables false
set_option linter.unusedSimpArgs false

/-! ### glossatorref02_within: function 53 -/
mutual
def glossatorref02_within.l0 : Nat → ByteArray → Int → Int → Option (Int × Int)
  | 0, _, _, _ => none
  | k + 1, x0, x1, x6 => if x6 < (x0.size : Int) then (if 0 ≤ x6 then ((glossatorref02_need.f k (bt x0 x6)).bind fun t163 => (if t163 = 0 then (glossatorref02_within.j1 k x0 x1 x6 t163 true) else (if x1 ≥ 0 then (glossatorref02_within.j1 k x0 x1 x6 t163 (decide (t163 > (wrap64 (x1 - x6))))) else (glossatorref02_within.j1 k x0 x1 x6 t163 false)))) else (none)) else (if x1 ≥ 0 then (if x6 < x1 then (some (x6, 3)) else (some (x6, 0))) else (some (x6, 0)))
def glossatorref02_within.j1 : Nat → ByteArray → Int → Int → Int → Bool → Option (Int × Int)
  | 0, _, _, _, _, _ => none
  | k + 1, x0, x1, x6, x7, x29 => if x29 = true then (some (x6, 4)) else (glossatorref02_within.l1 k x0 x1 x6 x7 1)
def glossatorref02_within.l1 : Nat → ByteArray → Int → Int → Int → Int → Option (Int × Int)
  | 0, _, _, _, _, _ => none
  | k + 1, x0, x1, x6, x7, x8 => if x8 < x7 then (if (wrap64 (x6 + x8)) ≥ (x0.size : Int) then (some ((x0.size : Int), 3)) else (if 0 ≤ x6 then (if x6 < (x0.size : Int) then (if 0 ≤ (wrap64 (x6 + x8)) then (if (wrap64 (x6 + x8)) < (x0.size : Int) then ((glossatorref02_may.f (bt x0 x6) x8 (bt x0 (wrap64 (x6 + x8)))).bind fun t164 => (if t164 = true then (glossatorref02_within.l1 k x0 x1 x6 x7 (wrap64 (x8 + 1))) else (some (wrap64 (x6 + x8), 4)))) else (none)) else (none)) else (none)) else (none))) else (glossatorref02_within.l0 k x0 x1 (wrap64 (x6 + x7)))
end
def glossatorref02_within.f (k : Nat) (a0 : ByteArray) (a1 : Int) : Option (Int × Int) := glossatorref02_within.l0 k a0 a1 0
theorem glossatorref02_within.mono_l : ∀ k, (∀ y0 y1 y2, LeO (glossatorref02_within.l0 k y0 y1 y2) (glossatorref02_within.l0 (k + 1) y0 y1 y2)) ∧ (∀ y0 y1 y2 y3 y4, LeO (glossatorref02_within.j1 k y0 y1 y2 y3 y4) (glossatorref02_within.j1 (k + 1) y0 y1 y2 y3 y4)) ∧ (∀ y0 y1 y2 y3 y4, LeO (glossatorref02_within.l1 k y0 y1 y2 y3 y4) (glossatorref02_within.l1 (k + 1) y0 y1 y2 y3 y4))
  | 0 => ⟨fun _ _ _ r h => by simp [glossatorref02_within.l0] at h, fun _ _ _ _ _ r h => by simp [glossatorref02_within.j1] at h, fun _ _ _ _ _ r h => by simp [glossatorref02_within.l1] at h⟩
  | k + 1 => by
    obtain ⟨ih0, ih1, ih2⟩ := glossatorref02_within.mono_l k
    refine ⟨?_, ?_, ?_⟩
    · intro y0 y1 y2
      unfold glossatorref02_within.l0
      repeat' first
      | (with_reducible exact ih0 _ _ _)
      | (with_reducible exact ih1 _ _ _ _ _)
      | (with_reducible exact ih2 _ _ _ _ _)
      | (with_reducible exact glossatorref02_need.mono _ _)
      | (with_reducible exact LeO.refl _)
      | (with_reducible exact LeO.none _)
      | (with_reducible refine LeO.ite ?_ ?_)
      | (with_reducible refine LeO.bind ?_ (fun _ => ?_))
      | exact ih0 _ _ _
      | exact ih1 _ _ _ _ _
      | exact ih2 _ _ _ _ _
      | exact glossatorref02_need.mono _ _
      | exact LeO.none _
      | refine LeO.ite ?_ ?_
      | refine LeO.bind ?_ (fun _ => ?_)
    · intro y0 y1 y2 y3 y4
      unfold glossatorref02_within.j1
      repeat' first
      | (with_reducible exact ih0 _ _ _)
      | (with_reducible exact ih1 _ _ _ _ _)
      | (with_reducible exact ih2 _ _ _ _ _)
      | (with_reducible exact glossatorref02_need.mono _ _)
      | (with_reducible exact LeO.refl _)
      | (with_reducible exact LeO.none _)
      | (with_reducible refine LeO.ite ?_ ?_)
      | (with_reducible refine LeO.bind ?_ (fun _ => ?_))
      | exact ih0 _ _ _
      | exact ih1 _ _ _ _ _
      | exact ih2 _ _ _ _ _
      | exact glossatorref02_need.mono _ _
      | exact LeO.none _
      | refine LeO.ite ?_ ?_
      | refine LeO.bind ?_ (fun _ => ?_)
    · intro y0 y1 y2 y3 y4
      unfold glossatorref02_within.l1
      repeat' first
      | (with_reducible exact ih0 _ _ _)
      | (with_reducible exact ih1 _ _ _ _ _)
      | (with_reducible exact ih2 _ _ _ _ _)
      | (with_reducible exact glossatorref02_need.mono _ _)
      | (with_reducible exact LeO.refl _)
      | (with_reducible exact LeO.none _)
      | (with_reducible refine LeO.ite ?_ ?_)
      | (with_reducible refine LeO.bind ?_ (fun _ => ?_))
      | exact ih0 _ _ _
      | exact ih1 _ _ _ _ _
      | exact ih2 _ _ _ _ _
      | exact glossatorref02_need.mono _ _
      | exact LeO.none _
      | refine LeO.ite ?_ ?_
      | refine LeO.bind ?_ (fun _ => ?_)
theorem glossatorref02_within.mono : ∀ a0 a1 k, LeO (glossatorref02_within.f k a0 a1) (glossatorref02_within.f (k + 1) a0 a1) := by
  intro a0 a1 k
  obtain ⟨ih0, ih1, ih2⟩ := glossatorref02_within.mono_l k
  unfold glossatorref02_within.f
  repeat' first
      | (with_reducible exact ih0 _ _ _)
      | (with_reducible exact ih1 _ _ _ _ _)
      | (with_reducible exact ih2 _ _ _ _ _)
      | (with_reducible exact glossatorref02_need.mono _ _)
      | (with_reducible exact LeO.refl _)
      | (with_reducible exact LeO.none _)
      | (with_reducible refine LeO.ite ?_ ?_)
      | (with_reducible refine LeO.bind ?_ (fun _ => ?_))
      | exact ih0 _ _ _
      | exact ih1 _ _ _ _ _
      | exact ih2 _ _ _ _ _
      | exact glossatorref02_need.mono _ _
      | exact LeO.none _
      | refine LeO.ite ?_ ?_
      | refine LeO.bind ?_ (fun _ => ?_)
set_option maxHeartbeats 8000000 in
set_option maxRecDepth 100000 in
theorem glossatorref02_within.calls (k : Nat) (a0 : ByteArray) (a1 : Int) (r1 : Int) (r2 : Int) (w : World) (h : glossatorref02_within.f k a0 a1 = some (r1, r2)) :
    Calls Try.prog 53 #[.string a0, .int .i64 a1] w fun e w' => e = .returned (.tuple #[.int .i64 r1, .int .i64 r2]) ∧ Drawn0 w w' := by
  have H : (glossatorref02_within.l0 k a0 a1 0) = some (r1, r2) := h
  clear h
  have H' := Aside0.mk H
  clear H
  go_enter Try.func53, Try.ntmps53
  go_wp2
  repeat (go_quiet (fail); try go_wp2)
  go_loopg [6] k (fun kq v6 w' => ∃ (x6_1 : Int), v6 = .int .i64 x6_1 ∧ Aside0 (glossatorref02_within.l0 kq a0 a1 x6_1 = some (r1, r2)) ∧ Aside0 (kq ≤ k) ∧ Drawn0 w w')
  case atStart => exact ⟨(0), (by first | rfl | (simp; done) | (simp [*]; done)), H', ⟨Nat.le_refl _⟩, by repeat (first | exact Drawn0.refl _ | apply Drawn0.step)⟩
  case round =>
    clear H'
    try clear p2
    obtain ⟨x6_1, rfl, HA, HK1, ⟨m1, rfl⟩⟩ := hrel
    cases gk with
    | zero => exact absurd HA.out (by simp [glossatorref02_within.l0])
    | succ k1 =>
      have H := HA.out
      clear HA
      simp only [glossatorref02_within.l0] at H
      by_cases c3 : x6_1 < (a0.size : Int)
      · rw [if_pos c3] at H
        have c3b0 : decide (x6_1 < (a0.size : Int)) = true := decide_eq_true c3
        clear c3
        by_cases c4 : 0 ≤ x6_1
        · rw [if_pos c4] at H
          have c4b0 : decide (0 ≤ x6_1) = true := decide_eq_true c4
          clear c4
          replace H := Option.bind_eq_some_iff.mp H
          obtain ⟨t163, A60, H⟩ := H
          replace H : (if t163 = 0 then (glossatorref02_within.j1 k1 a0 a1 x6_1 t163 true) else (if a1 ≥ 0 then (glossatorref02_within.j1 k1 a0 a1 x6_1 t163 (decide (t163 > (wrap64 (a1 - x6_1))))) else (glossatorref02_within.j1 k1 a0 a1 x6_1 t163 false))) = some (r1, r2) := H
          have A6 := Aside0.mk A60
          clear A60
          have HC7 := Aside0.mk H
          clear H
          have p5 : 0 ≤ (x6_1 : Int) := of_decide_eq_true (by first | (with_reducible assumption) | assumption)
          have q5 : x6_1 < (a0.size : Int) := of_decide_eq_true (by first | (with_reducible assumption) | assumption)
          have hx5 := bt_at a0 x6_1
          replace p5 := eq_true p5
          replace q5 := eq_true q5
          go_upto_region 4 with (first | (go_at_call 48; (with_reducible refine (glossatorref02_need.calls k1 (bt a0 x6_1) t163 _ A6.out).mono ?_); rintro e w' ⟨rfl, ⟨nd, rfl⟩⟩; (try first | exact ⟨rfl, _, World.drewN_drewN _ _ _⟩ | exact ⟨rfl, _, Eq.trans (World.drewN_drewN _ _ _) (congrArg (World.drewN _) (Nat.add_assoc _ _ _))⟩)))
          repeat (go_quiet (first | (go_at_call 48; (with_reducible refine (glossatorref02_need.calls k1 (bt a0 x6_1) t163 _ A6.out).mono ?_); rintro e w' ⟨rfl, ⟨nd, rfl⟩⟩; (try first | exact ⟨rfl, _, World.drewN_drewN _ _ _⟩ | exact ⟨rfl, _, Eq.trans (World.drewN_drewN _ _ _) (congrArg (World.drewN _) (Nat.add_assoc _ _ _))⟩))); go_upto_region 4 with (first | (go_at_call 48; (with_reducible refine (glossatorref02_need.calls k1 (bt a0 x6_1) t163 _ A6.out).mono ?_); rintro e w' ⟨rfl, ⟨nd, rfl⟩⟩; (try first | exact ⟨rfl, _, World.drewN_drewN _ _ _⟩ | exact ⟨rfl, _, Eq.trans (World.drewN_drewN _ _ _) (congrArg (World.drewN _) (Nat.add_assoc _ _ _))⟩))))
          (try simp only [Act.put, List.setIfInBounds_toArray, List.set_cons_zero, List.set_cons_succ])
          go_cut [29] (fun v29 wc => ∃ (kq : Nat) (x29_6 : Bool), v29 = .bool x29_6 ∧ Aside0 (glossatorref02_within.j1 kq a0 a1 x6_1 t163 x29_6 = some (r1, r2)) ∧ Aside0 (kq ≤ k1) ∧ Drawn0 w wc)
          case first =>
            have H := HC7.out
            clear HC7
            by_cases c8 : t163 = 0
            · rw [if_pos c8] at H
              have c8b0 : (t163 == 0) = true := beq_iff_eq.mpr c8
              have c8b1 : (t163 != 0) = false := bne_eq_false_iff_eq.mpr c8
              clear c8
              (first | rw [c8b0] | (simp only [i64_w, i32_w]; rw [c8b0]) | skip)
              have H' := Aside0.mk H
              clear H
              go_wp2
              repeat (go_quiet (fail); try go_wp2)
              go_meet
              case rel => exact ⟨_, (true), (by first | rfl | (simp; done) | (simp [*]; done)), H', ⟨by have := HK1.out; first | omega | exact Nat.le_refl _⟩, by repeat (first | exact Drawn0.refl _ | apply Drawn0.step)⟩
            · rw [if_neg c8] at H
              have c8b0 : (t163 == 0) = false := beq_eq_false_iff_ne.mpr c8
              have c8b1 : (t163 != 0) = true := bne_iff_ne.mpr c8
              (first | rw [c8b0] | (simp only [i64_w, i32_w]; rw [c8b0]) | skip)
              by_cases c9 : a1 ≥ 0
              · rw [if_pos c9] at H
                have c9b0 : decide (0 ≤ a1) = true := decide_eq_true c9
                clear c9
                have H' := Aside0.mk H
                clear H
                go_wp2
                repeat (go_quiet (fail); try go_wp2)
                go_meet
                case rel => exact ⟨_, (decide (t163 > (wrap64 (a1 - x6_1)))), (by first | rfl | (simp; done) | (simp [*]; done)), H', ⟨by have := HK1.out; first | omega | exact Nat.le_refl _⟩, by repeat (first | exact Drawn0.refl _ | apply Drawn0.step)⟩
              · rw [if_neg c9] at H
                have c9b0 : decide (0 ≤ a1) = false := decide_eq_false c9
                clear c9
                have H' := Aside0.mk H
                clear H
                go_wp2
                repeat (go_quiet (fail); try go_wp2)
                go_meet
                case rel => exact ⟨_, (false), (by first | rfl | (simp; done) | (simp [*]; done)), H', ⟨by have := HK1.out; first | omega | exact Nat.le_refl _⟩, by repeat (first | exact Drawn0.refl _ | apply Drawn0.step)⟩
          case rest =>
            clear HC7
            try clear p2
            try clear c3
            try clear c3b0
            try clear c4
            try clear c4b0
            try clear c5
            try clear p5
            try clear q5
            try clear hx5
            try clear p6
            try clear c8
            try clear c8b0
            try clear c8b1
            try clear c9
            try clear c9b0
            try clear p2
            try clear p5
            try clear q5
            obtain ⟨kq, x29_6, rfl, HA, HJ6, ⟨mc6, rfl⟩⟩ := hcut
            cases kq with
            | zero => exact absurd HA.out (by simp [glossatorref02_within.j1])
            | succ kj6 =>
              have H := HA.out
              clear HA
              simp only [glossatorref02_within.j1] at H
              by_cases c10 : x29_6 = true
              · subst c10
                have H1 : (some (x6_1, 4)) = some (r1, r2) := by rw [if_pos rfl] at H; exact H
                clear H
                have H := H1
                clear H1
                simp only [Option.some.injEq, Prod.mk.injEq] at H
                obtain ⟨rfl, rfl⟩ := H
                go_wp2
                repeat (go_quiet (fail); try go_wp2)
                go_ret2
                exact ⟨by first | rfl | (simp; done) | (simp [*]; done), by repeat (first | exact Drawn0.refl _ | apply Drawn0.step)⟩
              · replace c10 := Bool.eq_false_iff.mpr c10
                subst c10
                have H1 : (glossatorref02_within.l1 kj6 a0 a1 x6_1 t163 1) = some (r1, r2) := by rw [if_neg (show ¬ (false = true) by decide)] at H; exact H
                clear H
                have H := H1
                clear H1
                have H' := Aside0.mk H
                clear H
                go_wp2
                repeat (go_quiet (fail); try go_wp2)
                go_loopg [8] kj6 (fun kq v8 w' => ∃ (x8_3 : Int), v8 = .int .i64 x8_3 ∧ Aside0 (glossatorref02_within.l1 kq a0 a1 x6_1 t163 x8_3 = some (r1, r2)) ∧ Aside0 (kq ≤ kj6) ∧ Drawn0 w w')
                case atStart => exact ⟨(1), (by first | rfl | (simp; done) | (simp [*]; done)), H', ⟨Nat.le_refl _⟩, by repeat (first | exact Drawn0.refl _ | apply Drawn0.step)⟩
                case round =>
                  clear H'
                  try clear c1
                  try clear p2
                  try clear c3
                  try clear c3b0
                  try clear c4
                  try clear c4b0
                  try clear c5
                  try clear p5
                  try clear q5
                  try clear hx5
                  try clear c6
                  try clear p6
                  try clear c8
                  try clear c8b0
                  try clear c8b1
                  try clear c9
                  try clear c9b0
                  try clear c10
                  try clear p2
                  try clear p5
                  try clear p6
                  try clear q5
                  obtain ⟨x8_3, rfl, HA, HK3, ⟨m3, rfl⟩⟩ := hrel
                  cases gk with
                  | zero => exact absurd HA.out (by simp [glossatorref02_within.l1])
                  | succ k3 =>
                    have H := HA.out
                    clear HA
                    simp only [glossatorref02_within.l1] at H
                    by_cases c11 : x8_3 < t163
                    · rw [if_pos c11] at H
                      have c11b0 : decide (x8_3 < t163) = true := decide_eq_true c11
                      clear c11
                      by_cases c12 : (wrap64 (x6_1 + x8_3)) ≥ (a0.size : Int)
                      · rw [if_pos c12] at H
                        have c12b0 : decide ((a0.size : Int) ≤ (wrap64 (x6_1 + x8_3))) = true := decide_eq_true c12
                        clear c12
                        simp only [Option.some.injEq, Prod.mk.injEq] at H
                        obtain ⟨rfl, rfl⟩ := H
                        go_wp2
                        repeat (go_quiet (fail); try go_wp2)
                        go_ret2
                        exact ⟨by first | rfl | (simp; done) | (simp [*]; done), by repeat (first | exact Drawn0.refl _ | apply Drawn0.step)⟩
                      · rw [if_neg c12] at H
                        have c12b0 : decide ((a0.size : Int) ≤ (wrap64 (x6_1 + x8_3))) = false := decide_eq_false c12
                        clear c12
                        by_cases c13 : 0 ≤ x6_1
                        · rw [if_pos c13] at H
                          have c13b0 : decide (0 ≤ x6_1) = true := decide_eq_true c13
                          clear c13
                          by_cases c14 : x6_1 < (a0.size : Int)
                          · rw [if_pos c14] at H
                            have c14b0 : decide (x6_1 < (a0.size : Int)) = true := decide_eq_true c14
                            clear c14
                            obtain ⟨ji16, hji16⟩ : ∃ j_ : Int, (wrap64 (x6_1 + x8_3)) = j_ := ⟨_, rfl⟩
                            replace H : (if 0 ≤ (ji16) then (if (ji16) < (a0.size : Int) then ((glossatorref02_may.f (bt a0 x6_1) x8_3 (bt a0 (ji16))).bind fun t164 => (if t164 = true then (glossatorref02_within.l1 k3 a0 a1 x6_1 t163 (wrap64 (x8_3 + 1))) else (some (ji16, 4)))) else (none)) else (none)) = some (r1, r2) := by first | (rw [hji16] at H; exact H) | (simp only [hji16] at H ⊢; exact H)
                            (try rw [hji16] at c12b0)
                            have hji16w : (IntKind.i64.wrap (x6_1 + x8_3)) = ji16 := (i64_w _).trans hji16
                            by_cases c17 : 0 ≤ (ji16)
                            · rw [if_pos c17] at H
                              have c17b0 : decide (0 ≤ (ji16)) = true := decide_eq_true c17
                              clear c17
                              by_cases c18 : (ji16) < (a0.size : Int)
                              · rw [if_pos c18] at H
                                have c18b0 : decide ((ji16) < (a0.size : Int)) = true := decide_eq_true c18
                                clear c18
                                replace H := Option.bind_eq_some_iff.mp H
                                obtain ⟨t164, A200, H⟩ := H
                                replace H : (if t164 = true then (glossatorref02_within.l1 k3 a0 a1 x6_1 t163 (wrap64 (x8_3 + 1))) else (some (ji16, 4))) = some (r1, r2) := H
                                have A20 := Aside0.mk A200
                                clear A200
                                by_cases c21 : t164 = true
                                · subst c21
                                  have H1 : (glossatorref02_within.l1 k3 a0 a1 x6_1 t163 (wrap64 (x8_3 + 1))) = some (r1, r2) := by rw [if_pos rfl] at H; exact H
                                  clear H
                                  have H := H1
                                  clear H1
                                  have H' := Aside0.mk H
                                  clear H
                                  have p15 : 0 ≤ (x6_1 : Int) := of_decide_eq_true (by first | (with_reducible assumption) | assumption)
                                  have q15 : x6_1 < (a0.size : Int) := of_decide_eq_true (by first | (with_reducible assumption) | assumption)
                                  have hx15 := bt_at a0 x6_1
                                  replace p15 := eq_true p15
                                  replace q15 := eq_true q15
                                  have p19 : 0 ≤ ((ji16) : Int) := of_decide_eq_true (by first | (with_reducible assumption) | assumption)
                                  have q19 : (ji16) < (a0.size : Int) := of_decide_eq_true (by first | (with_reducible assumption) | assumption)
                                  have hx19 := bt_at a0 (ji16)
                                  replace p19 := eq_true p19
                                  replace q19 := eq_true q19
                                  go_wp2_with (first | (go_at_call 49; (with_reducible refine (glossatorref02_may.calls (bt a0 x6_1) x8_3 (bt a0 (ji16)) true _ A20.out).mono ?_); rintro e w' ⟨rfl, ⟨nd, rfl⟩⟩; (try first | exact ⟨rfl, _, World.drewN_drewN _ _ _⟩ | exact ⟨rfl, _, Eq.trans (World.drewN_drewN _ _ _) (congrArg (World.drewN _) (Nat.add_assoc _ _ _))⟩)))
                                  repeat (go_quiet (first | (go_at_call 49; (with_reducible refine (glossatorref02_may.calls (bt a0 x6_1) x8_3 (bt a0 (ji16)) true _ A20.out).mono ?_); rintro e w' ⟨rfl, ⟨nd, rfl⟩⟩; (try first | exact ⟨rfl, _, World.drewN_drewN _ _ _⟩ | exact ⟨rfl, _, Eq.trans (World.drewN_drewN _ _ _) (congrArg (World.drewN _) (Nat.add_assoc _ _ _))⟩))); try go_wp2_with (first | (go_at_call 49; (with_reducible refine (glossatorref02_may.calls (bt a0 x6_1) x8_3 (bt a0 (ji16)) true _ A20.out).mono ?_); rintro e w' ⟨rfl, ⟨nd, rfl⟩⟩; (try first | exact ⟨rfl, _, World.drewN_drewN _ _ _⟩ | exact ⟨rfl, _, Eq.trans (World.drewN_drewN _ _ _) (congrArg (World.drewN _) (Nat.add_assoc _ _ _))⟩))))
                                  go_roundg k3
                                  case measure => have := HK1.out; have := HJ6.out; have := HK3.out; omega
                                  case rel => exact ⟨(wrap64 (x8_3 + 1)), (by first | rfl | (simp; done) | (simp [*]; done)), H', ⟨by have := HK1.out; have := HJ6.out; have := HK3.out; omega⟩, by repeat (first | exact Drawn0.refl _ | apply Drawn0.step)⟩
                                · replace c21 := Bool.eq_false_iff.mpr c21
                                  subst c21
                                  have H1 : (some (ji16, 4)) = some (r1, r2) := by rw [if_neg (show ¬ (false = true) by decide)] at H; exact H
                                  clear H
                                  have H := H1
                                  clear H1
                                  simp only [Option.some.injEq, Prod.mk.injEq] at H
                                  obtain ⟨rfl, rfl⟩ := H
                                  have p15 : 0 ≤ (x6_1 : Int) := of_decide_eq_true (by first | (with_reducible assumption) | assumption)
                                  have q15 : x6_1 < (a0.size : Int) := of_decide_eq_true (by first | (with_reducible assumption) | assumption)
                                  have hx15 := bt_at a0 x6_1
                                  replace p15 := eq_true p15
                                  replace q15 := eq_true q15
                                  have p19 : 0 ≤ ((ji16) : Int) := of_decide_eq_true (by first | (with_reducible assumption) | assumption)
                                  have q19 : (ji16) < (a0.size : Int) := of_decide_eq_true (by first | (with_reducible assumption) | assumption)
                                  have hx19 := bt_at a0 (ji16)
                                  replace p19 := eq_true p19
                                  replace q19 := eq_true q19
                                  go_wp2_with (first | (go_at_call 49; (with_reducible refine (glossatorref02_may.calls (bt a0 x6_1) x8_3 (bt a0 (ji16)) false _ A20.out).mono ?_); rintro e w' ⟨rfl, ⟨nd, rfl⟩⟩; (try first | exact ⟨rfl, _, World.drewN_drewN _ _ _⟩ | exact ⟨rfl, _, Eq.trans (World.drewN_drewN _ _ _) (congrArg (World.drewN _) (Nat.add_assoc _ _ _))⟩)))
                                  repeat (go_quiet (first | (go_at_call 49; (with_reducible refine (glossatorref02_may.calls (bt a0 x6_1) x8_3 (bt a0 (ji16)) false _ A20.out).mono ?_); rintro e w' ⟨rfl, ⟨nd, rfl⟩⟩; (try first | exact ⟨rfl, _, World.drewN_drewN _ _ _⟩ | exact ⟨rfl, _, Eq.trans (World.drewN_drewN _ _ _) (congrArg (World.drewN _) (Nat.add_assoc _ _ _))⟩))); try go_wp2_with (first | (go_at_call 49; (with_reducible refine (glossatorref02_may.calls (bt a0 x6_1) x8_3 (bt a0 (ji16)) false _ A20.out).mono ?_); rintro e w' ⟨rfl, ⟨nd, rfl⟩⟩; (try first | exact ⟨rfl, _, World.drewN_drewN _ _ _⟩ | exact ⟨rfl, _, Eq.trans (World.drewN_drewN _ _ _) (congrArg (World.drewN _) (Nat.add_assoc _ _ _))⟩))))
                                  go_ret2
                                  exact ⟨by first | rfl | (simp; done) | (simp only [← hji16] <;> (first | rfl | simp)) | (simp [*]; done), by repeat (first | exact Drawn0.refl _ | apply Drawn0.step)⟩
                              · rw [if_neg c18] at H
                                exact absurd H (by simp)
                            · rw [if_neg c17] at H
                              exact absurd H (by simp)
                          · rw [if_neg c14] at H
                            exact absurd H (by simp)
                        · rw [if_neg c13] at H
                          exact absurd H (by simp)
                    · rw [if_neg c11] at H
                      have c11b0 : decide (x8_3 < t163) = false := decide_eq_false c11
                      clear c11
                      have H' := Aside0.mk H
                      clear H
                      go_wp2
                      repeat (go_quiet (fail); try go_wp2)
                      go_roundg k3
                      case measure => have := HK1.out; have := HJ6.out; have := HK3.out; omega
                      case rel => exact ⟨(wrap64 (x6_1 + t163)), (by first | rfl | (simp; done) | (simp [*]; done)), H', ⟨by have := HK1.out; have := HJ6.out; have := HK3.out; omega⟩, by repeat (first | exact Drawn0.refl _ | apply Drawn0.step)⟩
        · rw [if_neg c4] at H
          exact absurd H (by simp)
      · rw [if_neg c3] at H
        have c3b0 : decide (x6_1 < (a0.size : Int)) = false := decide_eq_false c3
        clear c3
        by_cases c22 : a1 ≥ 0
        · rw [if_pos c22] at H
          have c22b0 : decide (0 ≤ a1) = true := decide_eq_true c22
          clear c22
          by_cases c23 : x6_1 < a1
          · rw [if_pos c23] at H
            have c23b0 : decide (x6_1 < a1) = true := decide_eq_true c23
            clear c23
            simp only [Option.some.injEq, Prod.mk.injEq] at H
            obtain ⟨rfl, rfl⟩ := H
            go_wp2
            repeat (go_quiet (fail); try go_wp2)
            go_ret2
            exact ⟨by first | rfl | (simp; done) | (simp [*]; done), by repeat (first | exact Drawn0.refl _ | apply Drawn0.step)⟩
          · rw [if_neg c23] at H
            have c23b0 : decide (x6_1 < a1) = false := decide_eq_false c23
            clear c23
            simp only [Option.some.injEq, Prod.mk.injEq] at H
            obtain ⟨rfl, rfl⟩ := H
            go_wp2
            repeat (go_quiet (fail); try go_wp2)
            go_ret2
            exact ⟨by first | rfl | (simp; done) | (simp [*]; done), by repeat (first | exact Drawn0.refl _ | apply Drawn0.step)⟩
        · rw [if_neg c22] at H
          have c22b0 : decide (0 ≤ a1) = false := decide_eq_false c22
          clear c22
          simp only [Option.some.injEq, Prod.mk.injEq] at H
          obtain ⟨rfl, rfl⟩ := H
          go_wp2
          repeat (go_quiet (fail); try go_wp2)
          go_ret2
          exact ⟨by first | rfl | (simp; done) | (simp [*]; done), by repeat (first | exact Drawn0.refl _ | apply Drawn0.step)⟩

end Go.Proofs.Ytlbokaekhjjabaa.U

-- Written by a program of this session (joint.sh) out of the translation. Not trusted: Lean checks it.
namespace Go.Proofs.Ytlbokaekhjjabaa.U
open Go.RowKit Go.Proofs.YtlbokaekhjjabaaW.PrintWords Go.Proofs.YtlbokaekhjjabaaW.PrintLast Go.Proofs.YtlbokaekhjjabaaW.PrintMore
attribute [local go_sem] max2_int min2_int max_two min_two max_three min_three max_four min_four   -- for this text's walks alone
set_option linter.unusedVariables false
set_option linter.unusedSimpArgs false

/-! ### glossatorref02_Check: function 33 -/
def glossatorref02_Check.f (k : Nat) (a0 : ByteArray) : Option (Int × Int) := (glossatorref02_within.f k a0 (-1)).bind fun bt165 => (some (bt165.1, bt165.2))
theorem glossatorref02_Check.mono : ∀ a0 k, LeO (glossatorref02_Check.f k a0) (glossatorref02_Check.f (k + 1) a0) := by
  intro a0 k
  unfold glossatorref02_Check.f
  repeat' first
      | (with_reducible exact glossatorref02_within.mono _ _ _)
      | (with_reducible exact LeO.refl _)
      | (with_reducible exact LeO.none _)
      | (with_reducible refine LeO.ite ?_ ?_)
      | (with_reducible refine LeO.bind ?_ (fun _ => ?_))
      | exact glossatorref02_within.mono _ _ _
      | exact LeO.none _
      | refine LeO.ite ?_ ?_
      | refine LeO.bind ?_ (fun _ => ?_)
set_option maxHeartbeats 8000000 in
set_option maxRecDepth 100000 in
theorem glossatorref02_Check.calls (k : Nat) (a0 : ByteArray) (r1 : Int) (r2 : Int) (w : World) (h : glossatorref02_Check.f k a0 = some (r1, r2)) :
    Calls Try.prog 33 #[.string a0] w fun e w' => e = .returned (.tuple #[.int .i64 r1, .int .i64 r2]) ∧ Drawn0 w w' := by
  have H : ((glossatorref02_within.f k a0 (-1)).bind fun bt165 => (some (bt165.1, bt165.2))) = some (r1, r2) := h
  clear h
  replace H := Option.bind_eq_some_iff.mp H
  obtain ⟨⟨t165, t166⟩, A20, H⟩ := H
  replace H : (some (t165, t166)) = some (r1, r2) := H
  have A2 := Aside0.mk A20
  clear A20
  simp only [Option.some.injEq, Prod.mk.injEq] at H
  obtain ⟨rfl, rfl⟩ := H
  go_enter Try.func33, Try.ntmps33
  go_wp2_with (first | ((with_reducible refine gate_callee (f := 53) rfl ?_); refine goesL_ (some 5) rfl rfl Try.func53 (by kernel_rfl) rfl #[.string a0, .int .i64 (-1)] rfl (by (try simp only [List.map_toArray, List.map_cons, List.map_nil]); first | done | rfl | (simp only [List.length_drop, List.length_take]; rfl)) ?_; (with_reducible refine (glossatorref02_within.calls k a0 (-1) t165 t166 _ A2.out).mono ?_); rintro e w' ⟨rfl, ⟨nd, rfl⟩⟩; refine ⟨_, rfl, ?_⟩))
  go_ret2
  exact ⟨by first | rfl | (simp; done) | (simp [*]; done), by repeat (first | exact Drawn0.refl _ | apply Drawn0.step)⟩

end Go.Proofs.Ytlbokaekhjjabaa.U

-- Written by a program of this session (joint.sh) out of the translation. Not trusted: Lean checks it.
namespace Go.Proofs.Ytlbokaekhjjabaa.U
open Go.RowKit Go.Proofs.YtlbokaekhjjabaaW.PrintWords Go.Proofs.YtlbokaekhjjabaaW.PrintLast Go.Proofs.YtlbokaekhjjabaaW.PrintMore
attribute [local go_sem] max2_int min2_int max_two min_two max_three min_three max_four min_four   -- for this text's walks alone
set_option linter.unusedVariables false
set_option linter.unusedSimpArgs false

/-! ### glossatorref02_Within: function 35 -/
def glossatorref02_Within.f (k : Nat) (a0 : ByteArray) (a1 : Int) : Option (Int × Int) := if 0 ≤ (mn (a0.size : Int) (mx a1 0)) then (if (mn (a0.size : Int) (mx a1 0)) ≤ (a0.size : Int) then ((glossatorref02_within.f k (a0.extract 0 ((mn (a0.size : Int) (mx a1 0)) : Int).toNat) (mx a1 0)).bind fun bt167 => (some (bt167.1, bt167.2))) else (none)) else (none)
theorem glossatorref02_Within.mono : ∀ a0 a1 k, LeO (glossatorref02_Within.f k a0 a1) (glossatorref02_Within.f (k + 1) a0 a1) := by
  intro a0 a1 k
  unfold glossatorref02_Within.f
  repeat' first
      | (with_reducible exact glossatorref02_within.mono _ _ _)
      | (with_reducible exact LeO.refl _)
      | (with_reducible exact LeO.none _)
      | (with_reducible refine LeO.ite ?_ ?_)
      | (with_reducible refine LeO.bind ?_ (fun _ => ?_))
      | exact glossatorref02_within.mono _ _ _
      | exact LeO.none _
      | refine LeO.ite ?_ ?_
      | refine LeO.bind ?_ (fun _ => ?_)
set_option maxHeartbeats 8000000 in
set_option maxRecDepth 100000 in
theorem glossatorref02_Within.calls (k : Nat) (a0 : ByteArray) (a1 : Int) (r1 : Int) (r2 : Int) (w : World) (h : glossatorref02_Within.f k a0 a1 = some (r1, r2)) :
    Calls Try.prog 35 #[.string a0, .int .i64 a1] w fun e w' => e = .returned (.tuple #[.int .i64 r1, .int .i64 r2]) ∧ Below w.heap.size w w' := by
  have HB := Aside0.mk (Below.refl w.heap.size w)
  have H : (if 0 ≤ (mn (a0.size : Int) (mx a1 0)) then (if (mn (a0.size : Int) (mx a1 0)) ≤ (a0.size : Int) then ((glossatorref02_within.f k (a0.extract 0 ((mn (a0.size : Int) (mx a1 0)) : Int).toNat) (mx a1 0)).bind fun bt167 => (some (bt167.1, bt167.2))) else (none)) else (none)) = some (r1, r2) := h
  clear h
  obtain ⟨ji3, hji3⟩ : ∃ j_ : Int, (mx a1 0) = j_ := ⟨_, rfl⟩
  replace H : (if 0 ≤ (mn (a0.size : Int) (ji3)) then (if (mn (a0.size : Int) (ji3)) ≤ (a0.size : Int) then ((glossatorref02_within.f k (a0.extract 0 ((mn (a0.size : Int) (ji3)) : Int).toNat) (ji3)).bind fun bt167 => (some (bt167.1, bt167.2))) else (none)) else (none)) = some (r1, r2) := by first | (rw [hji3] at H; exact H) | (simp only [hji3] at H ⊢; exact H)
  (try (have hji3l : 0 ≤ ji3 := by (rw [← hji3]; unfold mx; (repeat' split) <;> omega)))
  (try (have hji3m : 0 ≤ ji3 := by omega))
  have hji3_ : (if a1 < 0 then 0 else a1) = ji3 := hji3
  obtain ⟨ji4, hji4⟩ : ∃ j_ : Int, (mn (a0.size : Int) (ji3)) = j_ := ⟨_, rfl⟩
  replace H : (if 0 ≤ (ji4) then (if (ji4) ≤ (a0.size : Int) then ((glossatorref02_within.f k (a0.extract 0 ((ji4) : Int).toNat) (ji3)).bind fun bt167 => (some (bt167.1, bt167.2))) else (none)) else (none)) = some (r1, r2) := by first | (rw [hji4] at H; exact H) | (simp only [hji4] at H ⊢; exact H)
  have hji4_ : (if (ji3) < (a0.size : Int) then (ji3) else (a0.size : Int)) = ji4 := hji4
  by_cases c5 : 0 ≤ (ji4)
  · rw [if_pos c5] at H
    have c5b0 := eq_true c5
    have c5b1 : decide (0 ≤ (ji4)) = true := decide_eq_true c5
    clear c5
    by_cases c6 : (ji4) ≤ (a0.size : Int)
    · rw [if_pos c6] at H
      have c6b0 := eq_true c6
      have c6b1 : decide ((ji4) ≤ (a0.size : Int)) = true := decide_eq_true c6
      clear c6
      replace H := Option.bind_eq_some_iff.mp H
      obtain ⟨⟨t167, t168⟩, A70, H⟩ := H
      replace H : (some (t167, t168)) = some (r1, r2) := H
      have A7 := Aside0.mk A70
      clear A70
      simp only [Option.some.injEq, Prod.mk.injEq] at H
      obtain ⟨rfl, rfl⟩ := H
      go_enter Try.func35, Try.ntmps35
      go_wp2_with (first | ((with_reducible refine gate_callee (f := 53) rfl ?_); refine goesL_ (some 15) rfl rfl Try.func53 (by kernel_rfl) rfl #[.string (a0.extract 0 ((ji4) : Int).toNat), .int .i64 ji3] rfl (by (try simp only [List.map_toArray, List.map_cons, List.map_nil]); first | done | (simp only [hji3, hji4]; rfl) | rfl | (simp only [List.length_drop, List.length_take]; rfl)) ?_; (with_reducible refine (glossatorref02_within.calls k (a0.extract 0 ((ji4) : Int).toNat) ji3 t167 t168 _ A7.out).mono ?_); rintro e w' ⟨rfl, ⟨nd, rfl⟩⟩; refine ⟨_, rfl, ?_⟩))
      go_ret2
      exact ⟨by first | rfl | (simp [errW_none, errW_some] <;> rfl) | (simp only [← hji3, ← hji4]; first | rfl | (simp [errW_none, errW_some] <;> rfl)) | (simp [*, errW_none, errW_some] <;> rfl), by repeat (first | (with_reducible first | exact HB.out | apply below_alloc | apply pw_below_drewN | apply below_drew1) | exact HB.out)⟩
    · rw [if_neg c6] at H
      exact absurd H (by simp)
  · rw [if_neg c5] at H
    exact absurd H (by simp)

end Go.Proofs.Ytlbokaekhjjabaa.U

/-
  Plain laws of the UTF-8 machine: what a text goes on to, where it errs, rows of bytes.
-/
namespace Go.Proofs.Ytlbokaekhjjabaa

/-- The state behind bytes; none, if one of them errs. -/
def runL : List UInt8 → St → Option St
  | [], st => some st
  | c :: t, st => (stp st c.toNat (-1)).bind (runL t)

theorem runL_append (a b : List UInt8) (st : St) : runL (a ++ b) st = (runL a st).bind (runL b) := by
  induction a generalizing st with
  | nil => rfl
  | cons c t ih =>
    simp only [List.cons_append, runL]
    cases stp st c.toNat (-1) with
    | none => rfl
    | some st' => simp only [Option.bind_some]; exact ih st'

theorem chkL_append (a b : List UInt8) (st st' : St) (i : Int) (h : runL a st = some st') : chkL (a ++ b) st i = chkL b st' (i + a.length) := by
  induction a generalizing st i with
  | nil => simp only [runL, Option.some.injEq] at h; subst h; simp
  | cons c t ih =>
    simp only [runL] at h
    cases hs : stp st c.toNat (-1) with
    | none => rw [hs] at h; cases h
    | some s1 =>
      rw [hs] at h
      simp only [List.cons_append, chkL, hs]
      rw [ih s1 (i + 1) h]
      congr 1
      simp only [List.length_cons]; omega

/-- Either all goes, or a byte errs behind what goes. -/
theorem run_or (l : List UInt8) (st : St) : (∃ st', runL l st = some st') ∨ ∃ a c b st', l = a ++ c :: b ∧ runL a st = some st' ∧ stp st' c.toNat (-1) = none := by
  induction l generalizing st with
  | nil => exact .inl ⟨st, rfl⟩
  | cons c t ih =>
    cases hs : stp st c.toNat (-1) with
    | none => exact .inr ⟨[], c, t, st, rfl, rfl, hs⟩
    | some s1 =>
      rcases ih s1 with ⟨st', h⟩ | ⟨a, d, b, st', rfl, h, hn⟩
      · exact .inl ⟨st', by simp only [runL, hs, Option.bind_some]; exact h⟩
      · exact .inr ⟨c :: a, d, b, st', rfl, by simp only [runL, hs, Option.bind_some]; exact h, hn⟩

theorem chkL_run {l : List UInt8} {st st' : St} (i : Int) (h : runL l st = some st') : chkL l st i = (i + l.length, if st'.1 > 0 then 3 else 0) := by
  have := chkL_append l [] st st' i h
  rw [List.append_nil] at this
  rw [this]
  simp only [chkL]
  split <;> rfl

theorem chkL_err {a b : List UInt8} {c : UInt8} {st st' : St} (i : Int) (h : runL a st = some st') (hn : stp st' c.toNat (-1) = none) : chkL (a ++ c :: b) st i = (i + a.length, 4) := by
  rw [chkL_append a (c :: b) st st' i h]
  simp only [chkL, hn]

theorem runL_left {l : List UInt8} {st st' : St} (h : runL l st = some st') (h0 : 0 ≤ st.1 ∧ st.1 ≤ 3) : 0 ≤ st'.1 ∧ st'.1 ≤ 3 := by
  induction l generalizing st with
  | nil => simp only [runL, Option.some.injEq] at h; subst h; exact h0
  | cons c t ih =>
    simp only [runL] at h
    cases hs : stp st c.toNat (-1) with
    | none => rw [hs] at h; cases h
    | some s1 => rw [hs] at h; exact ih h (stp_left hs h0)

/-! ### rows -/
theorem rowOf_mem (l : List (Int × Int × Int × Int × Int)) (c : Int) : rowOf l c = (0, 0, 0, 0, 0) ∨ (rowOf l c ∈ l ∧ (rowOf l c).1 ≤ c ∧ c ≤ (rowOf l c).2.1) := by
  induction l with
  | nil => exact .inl rfl
  | cons r t ih =>
    unfold rowOf
    split
    · rename_i h; exact .inr ⟨List.mem_cons_self, h⟩
    · rcases ih with h | ⟨h, h2⟩
      · exact .inl h
      · exact .inr ⟨List.mem_cons_of_mem _ h, h2⟩

theorem row_1 {c : Int} (h0 : 0 ≤ c) (h : c ≤ 127) : rowOf leadRows c = (0, 127, 1, 0, 0) := by simp only [leadRows, rowOf]; rw [if_pos ⟨h0, h⟩]
theorem row_cont {c : Int} (h0 : 128 ≤ c) (h : c ≤ 193) : rowOf leadRows c = (0, 0, 0, 0, 0) := by
  simp only [leadRows, rowOf]; repeat (rw [if_neg (by omega)])
theorem row_2 {c : Int} (h0 : 194 ≤ c) (h : c ≤ 223) : rowOf leadRows c = (194, 223, 2, 128, 191) := by
  simp only [leadRows, rowOf]; rw [if_neg (by omega), if_pos (by omega)]
theorem row_e0 : rowOf leadRows 224 = (224, 224, 3, 160, 191) := by decide
theorem row_3a {c : Int} (h0 : 225 ≤ c) (h : c ≤ 236) : rowOf leadRows c = (225, 236, 3, 128, 191) := by
  simp only [leadRows, rowOf]; rw [if_neg (by omega), if_neg (by omega), if_neg (by omega), if_pos (by omega)]
theorem row_ed : rowOf leadRows 237 = (237, 237, 3, 128, 159) := by decide
theorem row_3b {c : Int} (h0 : 238 ≤ c) (h : c ≤ 239) : rowOf leadRows c = (238, 239, 3, 128, 191) := by
  simp only [leadRows, rowOf]; rw [if_neg (by omega), if_neg (by omega), if_neg (by omega), if_neg (by omega), if_neg (by omega), if_pos (by omega)]
theorem row_f0 : rowOf leadRows 240 = (240, 240, 4, 144, 191) := by decide
theorem row_4 {c : Int} (h0 : 241 ≤ c) (h : c ≤ 243) : rowOf leadRows c = (241, 243, 4, 128, 191) := by
  simp only [leadRows, rowOf]; rw [if_neg (by omega), if_neg (by omega), if_neg (by omega), if_neg (by omega), if_neg (by omega), if_neg (by omega), if_neg (by omega), if_pos (by omega)]
theorem row_f4 : rowOf leadRows 244 = (244, 244, 4, 128, 143) := by decide
theorem row_high {c : Int} (h0 : 245 ≤ c) : rowOf leadRows c = (0, 0, 0, 0, 0) := by
  simp only [leadRows, rowOf]; repeat (rw [if_neg (by omega)])

/-! ### the states that come -/
def goods : List St := [(1, 128, 191), (2, 128, 191), (2, 160, 191), (2, 128, 159), (3, 144, 191), (3, 128, 191), (3, 128, 143)]
def Good (st : St) : Prop := st.1 = 0 ∨ st ∈ goods
theorem good_stp {st st' : St} {c : Int} (h : stp st c (-1) = some st') (hg : Good st) : Good st' := by
  unfold stp at h
  split at h
  · rename_i hp
    split at h
    · cases h
    · cases h
      rcases hg with hg | hg
      · omega
      · simp only [goods, List.mem_cons, List.not_mem_nil, or_false] at hg
        rcases hg with rfl | rfl | rfl | rfl | rfl | rfl | rfl <;> first | (left; rfl) | (right; decide)
  · split at h
    · cases h
    · rename_i hn
      cases h
      rcases rowOf_mem leadRows c with h0 | ⟨hm, _⟩
      · rw [h0] at hn; exact absurd (.inl rfl) hn
      · generalize rowOf leadRows c = r at hm ⊢
        simp only [leadRows, List.mem_cons, List.not_mem_nil, or_false] at hm
        rcases hm with rfl | rfl | rfl | rfl | rfl | rfl | rfl | rfl | rfl <;> first | (left; rfl) | (right; decide)
theorem good_run {l : List UInt8} {st st' : St} (h : runL l st = some st') (hg : Good st) : Good st' := by
  induction l generalizing st with
  | nil => simp only [runL, Option.some.injEq] at h; subst h; exact hg
  | cons c t ih =>
    simp only [runL] at h
    cases hs : stp st c.toNat (-1) with
    | none => rw [hs] at h; cases h
    | some s1 => rw [hs] at h; exact ih h (good_stp hs hg)

/-- Each state has an ending. -/
def ends : List (List UInt8) := [[], [128], [144], [160], [128, 128], [144, 128], [160, 128], [128, 128, 128], [144, 128, 128]]
theorem good_ends {st : St} (hg : Good st) : ∃ j, j < 9 ∧ ∃ st', runL (ends.getD j []) st = some st' ∧ st'.1 = 0 := by
  rcases hg with hg | hg
  · exact ⟨0, by decide, st, rfl, hg⟩
  · simp only [goods, List.mem_cons, List.not_mem_nil, or_false] at hg
    rcases hg with rfl | rfl | rfl | rfl | rfl | rfl | rfl
    · exact ⟨1, by decide, (0, 128, 191), by decide, rfl⟩
    · exact ⟨4, by decide, (0, 128, 191), by decide, rfl⟩
    · exact ⟨6, by decide, (0, 128, 191), by decide, rfl⟩
    · exact ⟨4, by decide, (0, 128, 191), by decide, rfl⟩
    · exact ⟨8, by decide, (0, 128, 191), by decide, rfl⟩
    · exact ⟨7, by decide, (0, 128, 191), by decide, rfl⟩
    · exact ⟨7, by decide, (0, 128, 191), by decide, rfl⟩

/-- At a boundary only that nothing is left counts. -/
theorem stp_0 {st : St} (h : st.1 ≤ 0) (c r : Int) : stp st c r = stp st0 c r := by
  unfold stp
  rw [if_neg (show ¬ st.1 > 0 by omega), if_neg (show ¬ st0.1 > 0 by decide)]
theorem chkL_0 {st : St} (h : st.1 ≤ 0) (l : List UInt8) (i : Int) : chkL l st i = chkL l st0 i := by
  cases l with
  | nil => simp only [chkL]; rw [if_neg (by omega), if_neg (by decide)]
  | cons c t => simp only [chkL]; rw [stp_0 h]

end Go.Proofs.Ytlbokaekhjjabaa

/-
  The reference's Check and Within, without Go: they tell what the machine tells.
-/
namespace Go.Proofs.Ytlbokaekhjjabaa.Pure
open Go.RowKit Go.Proofs.Ytlbokaekhjjabaa Go.Proofs.Ytlbokaekhjjabaa.U Go.Proofs.YtlbokaekhjjabaaW.PrintWords Go.Proofs.YtlbokaekhjjabaaW.PrintLast Go.Proofs.YtlbokaekhjjabaaW.PrintMore

/-- How many bytes a code point has that begins so. -/
abbrev nd (c : Int) : Int := (rowOf leadRows c).2.2.1

theorem need_f (c : Int) (h0 : 0 ≤ c) (h1 : c ≤ 255) (k : Nat) : glossatorref02_need.f (k + 2) c = some (nd c) := by
  unfold glossatorref02_need.f nd
  by_cases a1 : c < 128
  · rw [if_pos a1, row_1 h0 (by omega)]
  · rw [if_neg a1]
    by_cases a2 : c ≥ 194
    · rw [if_pos a2]
      by_cases a3 : c ≤ 223
      · simp only [glossatorref02_need.j0, a3, decide_true, if_true, row_2 a2 a3]
      · by_cases a4 : c ≥ 224
        · by_cases a5 : c ≤ 239
          · have : (rowOf leadRows c).2.2.1 = 3 := by
              obtain rfl | h | rfl | h : c = 224 ∨ (225 ≤ c ∧ c ≤ 236) ∨ c = 237 ∨ (238 ≤ c ∧ c ≤ 239) := by omega
              · rw [row_e0]
              · rw [row_3a h.1 h.2]
              · rw [row_ed]
              · rw [row_3b h.1 h.2]
            rw [this]
            simp [glossatorref02_need.j0, glossatorref02_need.j1, a3, a4, a5]
          · by_cases a6 : c ≤ 244
            · have : (rowOf leadRows c).2.2.1 = 4 := by
                obtain rfl | h | rfl : c = 240 ∨ (241 ≤ c ∧ c ≤ 243) ∨ c = 244 := by omega
                · rw [row_f0]
                · rw [row_4 h.1 h.2]
                · rw [row_f4]
              rw [this]
              simp [glossatorref02_need.j0, glossatorref02_need.j1, a3, a4, a5, a6]; omega
            · rw [row_high (by omega)]
              simp [glossatorref02_need.j0, glossatorref02_need.j1, a3, a4, a5, a6]
        · omega
    · rw [if_neg a2, row_cont (by omega) (by omega)]
      have a3 : ¬ 224 ≤ c := by omega
      have a4 : ¬ 240 ≤ c := by omega
      simp [glossatorref02_need.j0, glossatorref02_need.j1, a3, a4]

/-- Between what the byte at a place stands. -/
def lo (first i : Int) : Int := if i = 1 then (rowOf leadRows first).2.2.2.1 else 128
def hi (first i : Int) : Int := if i = 1 then (rowOf leadRows first).2.2.2.2 else 191

theorem may_f (first i c : Int) (h2 : 2 ≤ nd first) : glossatorref02_may.f first i c = some (decide (lo first i ≤ c ∧ c ≤ hi first i)) := by
  have key : ∀ a b : Int, (if c ≥ a then (some (decide (c ≤ b)) : Option Bool) else some false) = some (decide (a ≤ c ∧ c ≤ b)) := by
    intro a b
    by_cases h : c ≥ a
    · rw [if_pos h]; simp [h]
    · rw [if_neg h]; simp; omega
  unfold glossatorref02_may.f lo hi
  simp only [key]
  by_cases hi1 : i = 1
  · rw [if_pos hi1, if_pos hi1, if_pos hi1]
    unfold nd at h2
    obtain h | h | h | rfl | h | rfl | h | rfl | h | rfl | h : first < 0 ∨ (0 ≤ first ∧ first ≤ 127) ∨ (128 ≤ first ∧ first ≤ 223) ∨ first = 224 ∨ (225 ≤ first ∧ first ≤ 236) ∨ first = 237 ∨ (238 ≤ first ∧ first ≤ 239) ∨ first = 240 ∨ (241 ≤ first ∧ first ≤ 243) ∨ first = 244 ∨ 245 ≤ first := by omega
    · exfalso
      simp only [leadRows, rowOf] at h2
      repeat (rw [if_neg (by omega)] at h2)
      simp at h2
    · rw [row_1 h.1 h.2] at h2; simp at h2
    · by_cases h3 : first ≤ 193
      · rw [row_cont h.1 h3] at h2; simp at h2
      · rw [row_2 (by omega) h.2, if_neg (by omega), if_neg (by omega), if_neg (by omega), if_neg (by omega)]
    · rw [row_e0]; simp
    · rw [row_3a h.1 h.2, if_neg (by omega), if_neg (by omega), if_neg (by omega), if_neg (by omega)]
    · rw [row_ed]; simp
    · rw [row_3b h.1 h.2, if_neg (by omega), if_neg (by omega), if_neg (by omega), if_neg (by omega)]
    · rw [row_f0]; simp
    · rw [row_4 h.1 h.2, if_neg (by omega), if_neg (by omega), if_neg (by omega), if_neg (by omega)]
    · rw [row_f4]; simp
    · rw [row_high h] at h2; simp at h2
  · rw [if_neg hi1, if_neg hi1, if_neg hi1]

/-- The machine over a text of which n bytes are told (below 0: any number). -/
def gL (n : Int) : List UInt8 → St → Int → Int × Int
  | [], st, i => if n ≥ 0 then (if i < n then (i, 3) else (i, 0)) else if st.1 > 0 then (i, 3) else (i, 0)
  | c :: t, st, i => match stp st c.toNat (if n ≥ 0 then n - 1 - i else -1) with
    | none => (i, 4)
    | some st' => gL n t st' (i + 1)

theorem gL_chk (l : List UInt8) (st : St) (i n : Int) (hn : n < 0) : gL n l st i = chkL l st i := by
  induction l generalizing st i with
  | nil => simp only [gL, chkL]; rw [if_neg (by omega)]
  | cons c t ih =>
    simp only [gL, chkL]
    rw [if_neg (by omega)]
    cases stp st c.toNat (-1) with
    | none => rfl
    | some s1 => exact ih s1 (i + 1)

theorem gL_wth (l : List UInt8) (st : St) (i : Int) (n : Int) (hi : 0 ≤ i) (hn : i ≤ n) : gL n (l.take (n - i).toNat) st i = wthL n l st i := by
  induction l generalizing st i with
  | nil =>
    simp only [List.take_nil, gL, wthL]
    rw [if_pos (by omega)]
    split
    · rfl
    · rw [show i = n by omega]
  | cons c t ih =>
    by_cases h : i < n
    · rw [show (n - i).toNat = (n - (i + 1)).toNat + 1 by omega, List.take_succ_cons]
      simp only [gL, wthL]
      rw [if_pos (show n ≥ 0 by omega), if_pos h]
      cases stp st c.toNat (n - 1 - i) with
      | none => rfl
      | some s1 => exact ih s1 (i + 1) (by omega) (by omega)
    · rw [show (n - i).toNat = 0 by omega]
      simp only [List.take_zero, gL, wthL]
      rw [if_pos (by omega), if_neg h, if_neg h, show i = n by omega]


theorem bt_nat (s : ByteArray) (i : Nat) (h : i < s.size) : bt s (i : Int) = (s[i].toNat : Int) := by
  unfold bt; rw [dif_pos (by simpa using h)]; simp
theorem byte_le (c : UInt8) : (0 : Int) ≤ c.toNat ∧ (c.toNat : Int) ≤ 255 := by have := c.toNat_lt; omega

theorem need_ev (c : Int) (h0 : 0 ≤ c) (h1 : c ≤ 255) : Ev (fun k => glossatorref02_need.f k c) (nd c) :=
  ⟨2, fun k hk => by obtain ⟨m, rfl⟩ : ∃ m, k = m + 2 := ⟨k - 2, by omega⟩; exact need_f c h0 h1 m⟩

theorem lo_next (f j : Int) (h : j ≠ 1) : lo f j = 128 := if_neg h
theorem hi_next (f j : Int) (h : j ≠ 1) : hi f j = 191 := if_neg h

theorem gL_0 {st : St} (h : st.1 ≤ 0) (n : Int) (l : List UInt8) (i : Int) : gL n l st i = gL n l st0 i := by
  cases l with
  | nil => simp only [gL]; rw [if_neg (show ¬ st.1 > 0 by omega), if_neg (show ¬ st0.1 > 0 by decide)]
  | cons c t => simp only [gL]; rw [stp_0 h]

/-- The inner loop, if the outer one is known behind this code point. -/
theorem within_inner (s : ByteArray) (n : Int) (hs : s.size ≤ 140737488351232) (i : Nat) (hi : i < s.size)
    (h2 : 1 ≤ nd s[i].toNat) (hroom : n < 0 ∨ i + nd s[i].toNat ≤ n)
    (ih : ∀ q : Nat, i < q → q ≤ s.size → Ev (fun k => glossatorref02_within.l0 k s n (q : Int)) (gL n (s.data.toList.drop q) st0 q)) (d : Nat) :
    ∀ j : Nat, 1 ≤ j → (j : Int) + d = nd s[i].toNat → i + j ≤ s.size → Ev (fun k => glossatorref02_within.l1 k s n i (nd s[i].toNat) j) (gL n (s.data.toList.drop (i + j)) (nd s[i].toNat - j, lo s[i].toNat j, Pure.hi s[i].toNat j) ((i + j : Nat) : Int)) := by
  have h4 : nd s[i].toNat ≤ 4 := (rowOf_n s[i].toNat).2
  induction d with
  | zero =>
    intro j hj hjd hq
    have e0 : (nd s[i].toNat - j, lo s[i].toNat j, Pure.hi s[i].toNat j).1 ≤ 0 := by show nd s[i].toNat - (j : Int) ≤ 0; omega
    rw [gL_0 e0]
    refine Ev.step (f := fun k => glossatorref02_within.l0 k s n ((i + j : Nat) : Int)) (fun k => ?_) (ih (i + j) (by omega) hq)
    simp only [glossatorref02_within.l1]
    rw [if_neg (by omega), IntWalk.wrap64_in _ (by omega), show (i : Int) + nd s[i].toNat = ((i + j : Nat) : Int) by omega]
  | succ d ihd =>
    intro j hj hjd hq
    have hp : (nd s[i].toNat - j, lo s[i].toNat j, Pure.hi s[i].toNat j).1 > 0 := by show nd s[i].toNat - (j : Int) > 0; omega
    have hw : wrap64 ((i : Int) + (j : Int)) = ((i + j : Nat) : Int) := by rw [IntWalk.wrap64_in _ (by omega)]; omega
    by_cases hz : i + j = s.size
    · refine Ev.step (f := fun _ => some ((s.size : Int), 3)) (fun k => ?_) ?_
      · simp only [glossatorref02_within.l1]
        rw [if_pos (by omega), hw, if_pos (by omega)]
      · rw [show s.data.toList.drop (i + j) = [] from by rw [hz]; exact data_drop_all s]
        simp only [gL]
        rw [hz]
        by_cases hn0 : n ≥ 0
        · rw [if_pos hn0, if_pos (by omega)]; exact Ev.now _
        · rw [if_neg hn0, if_pos hp]; exact Ev.now _
    · have hlt : i + j < s.size := by omega
      have hbi := bt_nat s i hi
      have hbj := bt_nat s (i + j) hlt
      have hm := may_f s[i].toNat j (s[i + j].toNat) (by omega)
      rw [data_drop s (i + j) hlt]
      simp only [gL]
      by_cases hin : lo s[i].toNat j ≤ (s[i + j].toNat : Int) ∧ (s[i + j].toNat : Int) ≤ Pure.hi s[i].toNat j
      · have hst : ∀ r, stp (nd s[i].toNat - j, lo s[i].toNat j, Pure.hi s[i].toNat j) s[i + j].toNat r = some (nd s[i].toNat - ((j + 1 : Nat) : Int), lo s[i].toNat ((j + 1 : Nat) : Int), Pure.hi s[i].toNat ((j + 1 : Nat) : Int)) := by
          intro r
          unfold stp
          rw [if_pos hp, if_neg (by dsimp only; omega), lo_next s[i].toNat ((j + 1 : Nat) : Int) (by omega), hi_next s[i].toNat ((j + 1 : Nat) : Int) (by omega)]
          dsimp only
          congr 2
          omega
        rw [hst]
        dsimp only
        rw [decide_eq_true hin] at hm
        have hnext := ihd (j + 1) (by omega) (by omega) (by omega)
        rw [show ((i + (j + 1) : Nat) : Int) = ((i + j : Nat) : Int) + 1 by omega, show i + (j + 1) = i + j + 1 by omega] at hnext
        refine Ev.step (f := fun k => glossatorref02_within.l1 k s n i (nd s[i].toNat) ((j + 1 : Nat) : Int)) (fun k => ?_) hnext
        simp only [glossatorref02_within.l1]
        rw [if_pos (by omega), hw, if_neg (by omega), if_pos (by omega), if_pos (by omega), if_pos (by omega), if_pos (by omega), hbi, hbj, hm, Option.bind_some, if_pos rfl, IntWalk.wrap64_in _ (by omega)]
        rfl
      · have hst : ∀ r, stp (nd s[i].toNat - j, lo s[i].toNat j, Pure.hi s[i].toNat j) s[i + j].toNat r = none := by
          intro r
          unfold stp
          rw [if_pos hp, if_pos (by dsimp only; omega)]
        rw [hst]
        dsimp only
        rw [decide_eq_false hin] at hm
        refine Ev.step (f := fun _ => some (((i + j : Nat) : Int), 4)) (fun k => ?_) (Ev.now _)
        simp only [glossatorref02_within.l1]
        rw [if_pos (by omega), hw, if_neg (by omega), if_pos (by omega), if_pos (by omega), if_pos (by omega), if_pos (by omega), hbi, hbj, hm, Option.bind_some, if_neg (by decide)]

/-- The outer loop, from a boundary on. -/
theorem within_outer (s : ByteArray) (n : Int) (hs : s.size ≤ 140737488351232) (hn : n < 0 ∨ (s.size : Int) ≤ n) (hn1 : -9223372036854775808 ≤ n) (hn2 : n ≤ 9223372036854775807) (d : Nat) :
    ∀ i : Nat, s.size - i ≤ d → i ≤ s.size → Ev (fun k => glossatorref02_within.l0 k s n (i : Int)) (gL n (s.data.toList.drop i) st0 i) := by
  induction d with
  | zero =>
    intro i hd hi
    obtain rfl : i = s.size := by omega
    rw [data_drop_all]
    simp only [gL]
    refine Ev.step (f := fun _ => some (if n ≥ 0 then (if (s.size : Int) < n then ((s.size : Int), (3 : Int)) else ((s.size : Int), 0)) else ((s.size : Int), 0))) (fun k => ?_) ?_
    · simp only [glossatorref02_within.l0]
      rw [if_neg (by omega)]
      split
      · split <;> rfl
      · rfl
    · rw [if_neg (show ¬ st0.1 > 0 by decide)]; exact Ev.now _
  | succ d ih =>
    intro i hd hi
    by_cases hlt : i < s.size
    · have hb := byte_le s[i]
      have hbi := bt_nat s i hlt
      have h4 := rowOf_n s[i].toNat
      have hne := need_ev s[i].toNat hb.1 hb.2
      have ih' : ∀ q : Nat, i < q → q ≤ s.size → Ev (fun k => glossatorref02_within.l0 k s n (q : Int)) (gL n (s.data.toList.drop q) st0 q) := fun q h1 h2 => ih q (by omega) h2
      rw [data_drop s i hlt]
      simp only [gL]
      -- the guard, decided
      by_cases hbad : nd s[i].toNat = 0 ∨ (n ≥ 0 ∧ nd s[i].toNat > n - i)
      · have hst : stp st0 s[i].toNat (if n ≥ 0 then n - 1 - i else -1) = none := by
          unfold stp
          rw [if_neg (by decide)]
          rcases hbad with h | ⟨h1, h2⟩
          · rw [if_pos (.inl h)]
          · rw [if_pos h1, if_pos (.inr ⟨by omega, by unfold nd at h2; omega⟩)]
        rw [hst]
        dsimp only
        refine Ev.step (f := fun k => (glossatorref02_need.f k s[i].toNat).bind fun t => (if t = 0 then (glossatorref02_within.j1 k s n i t true) else (if n ≥ 0 then (glossatorref02_within.j1 k s n i t (decide (t > (wrap64 (n - i))))) else (glossatorref02_within.j1 k s n i t false)))) (fun k => ?_) ?_
        · simp only [glossatorref02_within.l0]
          rw [if_pos (by omega), if_pos (by omega), hbi]
        · refine Ev.bind (f := fun k t => (if t = 0 then (glossatorref02_within.j1 k s n i t true) else (if n ≥ 0 then (glossatorref02_within.j1 k s n i t (decide (t > (wrap64 (n - i))))) else (glossatorref02_within.j1 k s n i t false)))) hne ?_
          refine Ev.step (f := fun _ => some ((i : Int), 4)) (fun k => ?_) (Ev.now _)
          rcases hbad with h | ⟨h1, h2⟩
          · rw [if_pos h]; simp [glossatorref02_within.j1]
          · by_cases h0 : nd s[i].toNat = 0
            · rw [if_pos h0]; simp [glossatorref02_within.j1]
            · rw [if_neg h0, if_pos h1, IntWalk.wrap64_in _ (by omega), decide_eq_true h2]; simp [glossatorref02_within.j1]
      · have hst : stp st0 s[i].toNat (if n ≥ 0 then n - 1 - i else -1) = some (nd s[i].toNat - ((1 : Nat) : Int), lo s[i].toNat ((1 : Nat) : Int), Pure.hi s[i].toNat ((1 : Nat) : Int)) := by
          unfold stp
          rw [if_neg (by decide)]
          unfold nd at hbad ⊢
          rw [if_neg (by split <;> omega)]
          rfl
        rw [hst]
        dsimp only
        refine Ev.step (f := fun k => (glossatorref02_need.f k s[i].toNat).bind fun t => (if t = 0 then (glossatorref02_within.j1 k s n i t true) else (if n ≥ 0 then (glossatorref02_within.j1 k s n i t (decide (t > (wrap64 (n - i))))) else (glossatorref02_within.j1 k s n i t false)))) (fun k => ?_) ?_
        · simp only [glossatorref02_within.l0]
          rw [if_pos (by omega), if_pos (by omega), hbi]
        · refine Ev.bind (f := fun k t => (if t = 0 then (glossatorref02_within.j1 k s n i t true) else (if n ≥ 0 then (glossatorref02_within.j1 k s n i t (decide (t > (wrap64 (n - i))))) else (glossatorref02_within.j1 k s n i t false)))) hne ?_
          have hinner := within_inner s n hs i hlt (by unfold nd at hbad ⊢; omega) (by omega) ih' (nd s[i].toNat - 1).toNat 1 (by omega) (by unfold nd at hbad ⊢; omega) (by omega)
          rw [show ((i + 1 : Nat) : Int) = (i : Int) + 1 by omega] at hinner
          refine Ev.step (f := fun k => glossatorref02_within.l1 k s n i (nd s[i].toNat) ((1 : Nat) : Int)) (fun k => ?_) hinner
          rw [if_neg (fun e => hbad (.inl e))]
          by_cases h1 : n ≥ 0
          · rw [if_pos h1, IntWalk.wrap64_in _ (by omega), decide_eq_false (fun h2 => hbad (.inr ⟨h1, h2⟩))]; simp [glossatorref02_within.j1]
          · rw [if_neg h1]; simp [glossatorref02_within.j1]
    · exact ih i (by omega) hi

/-- The reference's Check. -/
theorem refCheck_ev (s : ByteArray) (hs : s.size ≤ 140737488351232) : Ev (fun k => glossatorref02_Check.f k s) (chk s) := by
  have h := within_outer s (-1) hs (.inl (by omega)) (by omega) (by omega) s.size 0 (by omega) (by omega)
  rw [List.drop_zero, gL_chk _ _ _ _ (by omega)] at h
  unfold glossatorref02_Check.f
  refine Ev.bind (f := fun _ r => some (r.1, r.2)) (a := chk s) ?_ (Ev.now _)
  exact h

/-- The reference's Within. -/
theorem refWithin_ev (s : ByteArray) (n : Int) (hs : s.size ≤ 140737488351232) (hn2 : n ≤ 9223372036854775807) : Ev (fun k => glossatorref02_Within.f k s n) (wth s n) := by
  have hmx : mx n 0 = max n 0 := by unfold mx; split <;> omega
  have hm0 : 0 ≤ max n 0 ∧ max n 0 ≤ 9223372036854775807 := by omega
  unfold wth
  obtain ⟨m, hm⟩ : ∃ m, max n 0 = m := ⟨_, rfl⟩
  rw [hm] at hmx hm0 ⊢
  have hmn : mn (s.size : Int) m = if m < s.size then m else s.size := rfl
  obtain ⟨b, hb⟩ : ∃ b : Int, (if m < s.size then m else (s.size : Int)) = b := ⟨_, rfl⟩
  have hb2 : b = m ∧ m < s.size ∨ b = s.size ∧ (s.size : Int) ≤ m := by split at hb <;> omega
  have hz : (s.extract 0 b.toNat).size = b.toNat := by
    rw [← data_length, Go.Lib.extract_data, List.drop_zero, List.length_take, data_length]; omega
  have hd : (s.extract 0 b.toNat).data.toList = s.data.toList.take m.toNat := by
    rw [Go.Lib.extract_data, List.drop_zero, Nat.sub_zero]
    rcases hb2 with ⟨h1, h2⟩ | ⟨h1, h2⟩
    · rw [h1]
    · rw [List.take_of_length_le (by rw [data_length]; omega), List.take_of_length_le (by rw [data_length]; omega)]
  have h := within_outer (s.extract 0 b.toNat) m (by omega) (.inr (by omega)) (by omega) (by omega) b.toNat 0 (by omega) (by omega)
  have hg := gL_wth s.data.toList st0 0 m (by omega) (by omega)
  rw [Int.sub_zero] at hg
  rw [List.drop_zero, hd] at h
  have h' : Ev (fun k => glossatorref02_within.f k (s.extract 0 b.toNat) m) (wthL m s.data.toList st0 0) := by
    rw [← hg]; exact h
  unfold glossatorref02_Within.f
  rw [hmx, hmn, hb]
  refine Ev.congr (f := fun k => (glossatorref02_within.f k (s.extract 0 b.toNat) m).bind fun r => some (r.1, r.2)) (fun k => by rw [if_pos (by omega), if_pos (by omega)]) ?_
  exact Ev.bind (f := fun _ r => some (r.1, r.2)) (a := wthL m s.data.toList st0 0) h' (Ev.now _)

end Go.Proofs.Ytlbokaekhjjabaa.Pure

/-
  Code points and their bytes, in plain numbers: what 'pt' tells by the number of bytes; a code point's bytes; there and back.
-/
namespace Go.Proofs.Ytlbokaekhjjabaa

/-- A code point's bytes. -/
def encL (c : Int) : List Int :=
  if c < 0 ∨ c > 1114111 ∨ (55296 ≤ c ∧ c ≤ 57343) then []
  else if c < 128 then [c]
  else if c < 2048 then [192 + c / 64, 128 + c % 64]
  else if c < 65536 then [224 + c / 4096, 128 + c / 64 % 64, 128 + c % 64]
  else [240 + c / 262144, 128 + c / 4096 % 64, 128 + c / 64 % 64, 128 + c % 64]
def byteOf (n : Int) : UInt8 := UInt8.ofNat n.toNat
def enc (c : Int) : ByteArray := ⟨((encL c).map byteOf).toArray⟩

theorem byteOf_toNat {n : Int} (h0 : 0 ≤ n) (h1 : n ≤ 255) : ((byteOf n).toNat : Int) = n := by
  unfold byteOf
  rw [UInt8.toNat_ofNat']
  omega
theorem byteOf_of (c : UInt8) : byteOf (c.toNat : Int) = c := by
  unfold byteOf
  rw [Int.toNat_natCast]
  exact UInt8.ofNat_toNat

/-! ### what 'pt' tells -/
theorem ptL_cons (c : UInt8) (t : List UInt8) (n : Int) (h : (rowOf leadRows c.toNat).2.2.1 = n) : ptL (c :: t) = if n = 0 ∨ n > ((c :: t).length : Int) then (0, 0) else ptGo n (c :: t) 0 st0 0 := by
  subst h; rfl
theorem stp_in {k l m c r : Int} (hk : 0 < k) : stp (k, l, m) c r = if c < l ∨ c > m then none else some (k - 1, 128, 191) := by
  unfold stp
  dsimp only
  rw [if_pos hk]
theorem ptGo_in {n i k l m acc : Int} {c : UInt8} {t : List UInt8} (hi : i < n) (hk : 0 < k) :
    ptGo n (c :: t) i (k, l, m) acc = if (c.toNat : Int) < l ∨ (c.toNat : Int) > m then (0, 0) else ptGo n t (i + 1) (k - 1, 128, 191) (vst n i c.toNat acc) := by
  simp only [ptGo]
  rw [if_pos hi, stp_in hk]
  by_cases h : (c.toNat : Int) < l ∨ (c.toNat : Int) > m
  · rw [if_pos h, if_pos h]
  · rw [if_neg h, if_neg h]
theorem ptGo_end {n i acc : Int} {st : St} {t : List UInt8} (hi : ¬ i < n) : ptGo n t i st acc = (acc, n) := by
  cases t <;> (simp only [ptGo]; rw [if_neg hi])
theorem ptGo_first {n q1 q2 l m : Int} {c : UInt8} {t : List UInt8} (h : rowOf leadRows c.toNat = (q1, q2, n, l, m)) (hn : 0 < n) :
    ptGo n (c :: t) 0 st0 0 = ptGo n t 1 (n - 1, l, m) (vst n 0 c.toNat 0) := by
  have hs : stp st0 c.toNat (-1) = some (n - 1, l, m) := by
    unfold stp
    rw [if_neg (by decide), h, if_neg (by dsimp only; omega)]
  simp only [ptGo]
  rw [if_pos hn, hs]
  rfl

section
variable (c a b d : UInt8) (t : List UInt8) (q1 q2 l m : Int)
theorem ptL_none (h : rowOf leadRows c.toNat = (0, 0, 0, 0, 0)) : ptL (c :: t) = (0, 0) := by
  rw [ptL_cons c t 0 (by rw [h]), if_pos (.inl rfl)]
theorem ptL_short (h : (rowOf leadRows c.toNat).2.2.1 > ((c :: t).length : Int)) : ptL (c :: t) = (0, 0) := by
  rw [ptL_cons c t _ rfl, if_pos (.inr h)]
theorem ptL_1 (h : rowOf leadRows c.toNat = (q1, q2, 1, l, m)) : ptL (c :: t) = ((c.toNat : Int), 1) := by
  rw [ptL_cons c t 1 (by rw [h]), if_neg (by simp only [List.length_cons]; omega), ptGo_first h (by decide), ptGo_end (by decide)]
  rfl
theorem ptL_2 (h : rowOf leadRows c.toNat = (q1, q2, 2, l, m)) :
    ptL (c :: a :: t) = if (a.toNat : Int) < l ∨ (a.toNat : Int) > m then (0, 0) else ((c.toNat : Int) % 32 * 64 + (a.toNat : Int) % 64, 2) := by
  rw [ptL_cons c (a :: t) 2 (by rw [h]), if_neg (by simp only [List.length_cons]; omega), ptGo_first h (by decide), ptGo_in (by decide) (by decide), ptGo_end (by decide)]
  rfl
theorem ptL_3 (h : rowOf leadRows c.toNat = (q1, q2, 3, l, m)) :
    ptL (c :: a :: b :: t) = if (a.toNat : Int) < l ∨ (a.toNat : Int) > m then (0, 0) else if (b.toNat : Int) < 128 ∨ (b.toNat : Int) > 191 then (0, 0) else (((c.toNat : Int) % 16 * 64 + (a.toNat : Int) % 64) * 64 + (b.toNat : Int) % 64, 3) := by
  rw [ptL_cons c (a :: b :: t) 3 (by rw [h]), if_neg (by simp only [List.length_cons]; omega), ptGo_first h (by decide), ptGo_in (by decide) (by decide), ptGo_in (by decide) (by decide), ptGo_end (by decide)]
  rfl
theorem ptL_4 (h : rowOf leadRows c.toNat = (q1, q2, 4, l, m)) :
    ptL (c :: a :: b :: d :: t) = if (a.toNat : Int) < l ∨ (a.toNat : Int) > m then (0, 0) else if (b.toNat : Int) < 128 ∨ (b.toNat : Int) > 191 then (0, 0) else if (d.toNat : Int) < 128 ∨ (d.toNat : Int) > 191 then (0, 0) else
      ((((c.toNat : Int) % 8 * 64 + (a.toNat : Int) % 64) * 64 + (b.toNat : Int) % 64) * 64 + (d.toNat : Int) % 64, 4) := by
  rw [ptL_cons c (a :: b :: d :: t) 4 (by rw [h]), if_neg (by simp only [List.length_cons]; omega), ptGo_first h (by decide), ptGo_in (by decide) (by decide), ptGo_in (by decide) (by decide), ptGo_in (by decide) (by decide), ptGo_end (by decide)]
  rfl
end

/-- What a first byte may be. -/
theorem row_cases (c : UInt8) : rowOf leadRows c.toNat = (0, 0, 0, 0, 0) ∨ ((c.toNat : Int) ≤ 127 ∧ rowOf leadRows c.toNat = (0, 127, 1, 0, 0)) ∨
    ((194 ≤ (c.toNat : Int) ∧ (c.toNat : Int) ≤ 223) ∧ rowOf leadRows c.toNat = (194, 223, 2, 128, 191)) ∨
    (∃ q1 q2 l m, ((224 ≤ (c.toNat : Int) ∧ (c.toNat : Int) ≤ 239) ∧ 128 ≤ l ∧ m ≤ 191 ∧ ((c.toNat : Int) = 224 → 160 ≤ l) ∧ ((c.toNat : Int) = 237 → m ≤ 159)) ∧ rowOf leadRows c.toNat = (q1, q2, 3, l, m)) ∨
    (∃ q1 q2 l m, ((240 ≤ (c.toNat : Int) ∧ (c.toNat : Int) ≤ 244) ∧ 128 ≤ l ∧ m ≤ 191 ∧ ((c.toNat : Int) = 240 → 144 ≤ l) ∧ ((c.toNat : Int) = 244 → m ≤ 143)) ∧ rowOf leadRows c.toNat = (q1, q2, 4, l, m)) := by
  have h0 := c.toNat_lt
  generalize hc : (c.toNat : Int) = n
  obtain h | h | h | rfl | h | rfl | h | rfl | h | rfl | h : (0 ≤ n ∧ n ≤ 127) ∨ (128 ≤ n ∧ n ≤ 193) ∨ (194 ≤ n ∧ n ≤ 223) ∨ n = 224 ∨ (225 ≤ n ∧ n ≤ 236) ∨ n = 237 ∨ (238 ≤ n ∧ n ≤ 239) ∨ n = 240 ∨ (241 ≤ n ∧ n ≤ 243) ∨ n = 244 ∨ 245 ≤ n := by omega
  · exact .inr (.inl ⟨h.2, row_1 h.1 h.2⟩)
  · exact .inl (row_cont h.1 h.2)
  · exact .inr (.inr (.inl ⟨h, row_2 h.1 h.2⟩))
  · exact .inr (.inr (.inr (.inl ⟨_, _, _, _, by omega, row_e0⟩)))
  · exact .inr (.inr (.inr (.inl ⟨_, _, _, _, by omega, row_3a h.1 h.2⟩)))
  · exact .inr (.inr (.inr (.inl ⟨_, _, _, _, by omega, row_ed⟩)))
  · exact .inr (.inr (.inr (.inl ⟨_, _, _, _, by omega, row_3b h.1 h.2⟩)))
  · exact .inr (.inr (.inr (.inr ⟨_, _, _, _, by omega, row_f0⟩)))
  · exact .inr (.inr (.inr (.inr ⟨_, _, _, _, by omega, row_4 h.1 h.2⟩)))
  · exact .inr (.inr (.inr (.inr ⟨_, _, _, _, by omega, row_f4⟩)))
  · exact .inl (row_high h)


theorem row_of_byte {n : Int} (h0 : 0 ≤ n) (h1 : n ≤ 255) : rowOf leadRows ((byteOf n).toNat : Int) = rowOf leadRows n := by rw [byteOf_toNat h0 h1]

/-- A code point's bytes are one code point, itself, whatever stands behind. -/
theorem pt_enc (c : Int) (t : List UInt8) (h : encL c ≠ []) : ptL ((encL c).map byteOf ++ t) = (c, ((encL c).length : Int)) := by
  unfold encL at h ⊢
  split at h
  · exact absurd rfl h
  · rename_i hc
    rw [if_neg hc]
    split at h
    · rename_i h1
      rw [if_pos h1]
      have hr := row_of_byte (n := c) (by omega) (by omega)
      replace hr := hr.trans (row_1 (by omega) (by omega))
      simp only [List.map_cons, List.map_nil, List.cons_append, List.nil_append]
      rw [ptL_1 _ _ _ _ _ _ hr, byteOf_toNat (by omega) (by omega)]
      rfl
    · rename_i h1
      rw [if_neg h1]
      split at h
      · rename_i h2
        rw [if_pos h2]
        have hr := row_of_byte (n := 192 + c / 64) (by omega) (by omega)
        replace hr := hr.trans (row_2 (by omega) (by omega))
        simp only [List.map_cons, List.map_nil, List.cons_append, List.nil_append]
        rw [ptL_2 _ _ _ _ _ _ _ hr, byteOf_toNat (by omega) (by omega), byteOf_toNat (by omega) (by omega), if_neg (by omega)]
        congr 1
        omega
      · rename_i h2
        rw [if_neg h2]
        split at h
        · rename_i h3
          rw [if_pos h3]
          have hr := row_of_byte (n := 224 + c / 4096) (by omega) (by omega)
          simp only [List.map_cons, List.map_nil, List.cons_append, List.nil_append]
          obtain e | e | e | e : c / 4096 = 0 ∨ (1 ≤ c / 4096 ∧ c / 4096 ≤ 12) ∨ c / 4096 = 13 ∨ (14 ≤ c / 4096 ∧ c / 4096 ≤ 15) := by omega
          · rw [show (224 : Int) + c / 4096 = 224 by omega] at hr ⊢
            replace hr := hr.trans row_e0
            rw [ptL_3 _ _ _ _ _ _ _ _ hr, byteOf_toNat (by omega) (by omega), byteOf_toNat (by omega) (by omega), byteOf_toNat (by omega) (by omega), if_neg (by omega), if_neg (by omega)]
            congr 1
            omega
          · replace hr := hr.trans (row_3a (by omega) (by omega))
            rw [ptL_3 _ _ _ _ _ _ _ _ hr, byteOf_toNat (by omega) (by omega), byteOf_toNat (by omega) (by omega), byteOf_toNat (by omega) (by omega), if_neg (by omega), if_neg (by omega)]
            congr 1
            omega
          · rw [show (224 : Int) + c / 4096 = 237 by omega] at hr ⊢
            replace hr := hr.trans row_ed
            rw [ptL_3 _ _ _ _ _ _ _ _ hr, byteOf_toNat (by omega) (by omega), byteOf_toNat (by omega) (by omega), byteOf_toNat (by omega) (by omega), if_neg (by omega), if_neg (by omega)]
            congr 1
            omega
          · replace hr := hr.trans (row_3b (by omega) (by omega))
            rw [ptL_3 _ _ _ _ _ _ _ _ hr, byteOf_toNat (by omega) (by omega), byteOf_toNat (by omega) (by omega), byteOf_toNat (by omega) (by omega), if_neg (by omega), if_neg (by omega)]
            congr 1
            omega
        · rename_i h3
          rw [if_neg h3]
          have hr := row_of_byte (n := 240 + c / 262144) (by omega) (by omega)
          simp only [List.map_cons, List.map_nil, List.cons_append, List.nil_append]
          obtain e | e | e : c / 262144 = 0 ∨ (1 ≤ c / 262144 ∧ c / 262144 ≤ 3) ∨ c / 262144 = 4 := by omega
          · rw [show (240 : Int) + c / 262144 = 240 by omega] at hr ⊢
            replace hr := hr.trans row_f0
            rw [ptL_4 _ _ _ _ _ _ _ _ _ hr, byteOf_toNat (by omega) (by omega), byteOf_toNat (by omega) (by omega), byteOf_toNat (by omega) (by omega), byteOf_toNat (by omega) (by omega), if_neg (by omega), if_neg (by omega), if_neg (by omega)]
            congr 1
            omega
          · replace hr := hr.trans (row_4 (by omega) (by omega))
            rw [ptL_4 _ _ _ _ _ _ _ _ _ hr, byteOf_toNat (by omega) (by omega), byteOf_toNat (by omega) (by omega), byteOf_toNat (by omega) (by omega), byteOf_toNat (by omega) (by omega), if_neg (by omega), if_neg (by omega), if_neg (by omega)]
            congr 1
            omega
          · rw [show (240 : Int) + c / 262144 = 244 by omega] at hr ⊢
            replace hr := hr.trans row_f4
            rw [ptL_4 _ _ _ _ _ _ _ _ _ hr, byteOf_toNat (by omega) (by omega), byteOf_toNat (by omega) (by omega), byteOf_toNat (by omega) (by omega), byteOf_toNat (by omega) (by omega), if_neg (by omega), if_neg (by omega), if_neg (by omega)]
            congr 1
            omega

/-- A code point at the beginning of a text has just these bytes. -/
theorem enc_pt (s : List UInt8) : ptL s = (0, 0) ∨ ∃ x t, s = x ++ t ∧ (ptL s).2 = x.length ∧ 0 < x.length ∧ (encL (ptL s).1).map byteOf = x := by
  cases s with
  | nil => exact .inl rfl
  | cons c t =>
    have hc := c.toNat_lt
    rcases row_cases c with h | ⟨h1, h⟩ | ⟨h1, h⟩ | ⟨q1, q2, l, m, h1, h⟩ | ⟨q1, q2, l, m, h1, h⟩
    · exact .inl (ptL_none c t h)
    · right
      refine ⟨[c], t, rfl, ?_, by simp, ?_⟩ <;> rw [ptL_1 c t _ _ _ _ h]
      · rfl
      · dsimp only
        unfold encL
        rw [if_neg (by omega), if_pos (by omega)]
        simp only [List.map_cons, List.map_nil, byteOf_of]
    · match t with
      | [] => exact .inl (ptL_short c [] (by rw [h]; simp))
      | a :: t =>
        have ha := a.toNat_lt
        have hp := ptL_2 c a t _ _ _ _ h
        by_cases hin : (a.toNat : Int) < 128 ∨ (a.toNat : Int) > 191
        · rw [if_pos hin] at hp; exact .inl hp
        · rw [if_neg hin] at hp
          right
          refine ⟨[c, a], t, rfl, ?_, by simp, ?_⟩ <;> rw [hp]
          · rfl
          · dsimp only
            unfold encL
            rw [if_neg (by omega), if_neg (by omega), if_pos (by omega)]
            simp only [List.map_cons, List.map_nil]
            rw [show 192 + ((c.toNat : Int) % 32 * 64 + (a.toNat : Int) % 64) / 64 = c.toNat by omega, show 128 + ((c.toNat : Int) % 32 * 64 + (a.toNat : Int) % 64) % 64 = a.toNat by omega, byteOf_of, byteOf_of]
    · match t with
      | [] => exact .inl (ptL_short c [] (by rw [h]; simp))
      | [a] => exact .inl (ptL_short c [a] (by rw [h]; simp))
      | a :: b :: t =>
        have ha := a.toNat_lt
        have hb := b.toNat_lt
        have hp := ptL_3 c a b t _ _ _ _ h
        by_cases hin : (a.toNat : Int) < l ∨ (a.toNat : Int) > m
        · rw [if_pos hin] at hp; exact .inl hp
        · rw [if_neg hin] at hp
          by_cases hin2 : (b.toNat : Int) < 128 ∨ (b.toNat : Int) > 191
          · rw [if_pos hin2] at hp; exact .inl hp
          · rw [if_neg hin2] at hp
            right
            refine ⟨[c, a, b], t, rfl, ?_, by simp, ?_⟩ <;> rw [hp]
            · rfl
            · dsimp only
              unfold encL
              rw [if_neg (by omega), if_neg (by omega), if_neg (by omega), if_pos (by omega)]
              simp only [List.map_cons, List.map_nil]
              generalize hv : ((c.toNat : Int) % 16 * 64 + (a.toNat : Int) % 64) * 64 + (b.toNat : Int) % 64 = v
              rw [show 224 + v / 4096 = c.toNat by omega, show 128 + v / 64 % 64 = a.toNat by omega, show 128 + v % 64 = b.toNat by omega, byteOf_of, byteOf_of, byteOf_of]
    · match t with
      | [] => exact .inl (ptL_short c [] (by rw [h]; simp))
      | [a] => exact .inl (ptL_short c [a] (by rw [h]; simp))
      | [a, b] => exact .inl (ptL_short c [a, b] (by rw [h]; simp))
      | a :: b :: d :: t =>
        have ha := a.toNat_lt
        have hb := b.toNat_lt
        have hd := d.toNat_lt
        have hp := ptL_4 c a b d t _ _ _ _ h
        by_cases hin : (a.toNat : Int) < l ∨ (a.toNat : Int) > m
        · rw [if_pos hin] at hp; exact .inl hp
        · rw [if_neg hin] at hp
          by_cases hin2 : (b.toNat : Int) < 128 ∨ (b.toNat : Int) > 191
          · rw [if_pos hin2] at hp; exact .inl hp
          · rw [if_neg hin2] at hp
            by_cases hin3 : (d.toNat : Int) < 128 ∨ (d.toNat : Int) > 191
            · rw [if_pos hin3] at hp; exact .inl hp
            · rw [if_neg hin3] at hp
              right
              refine ⟨[c, a, b, d], t, rfl, ?_, by simp, ?_⟩ <;> rw [hp]
              · rfl
              · dsimp only
                unfold encL
                generalize hv : (((c.toNat : Int) % 8 * 64 + (a.toNat : Int) % 64) * 64 + (b.toNat : Int) % 64) * 64 + (d.toNat : Int) % 64 = v
                rw [if_neg (by omega), if_neg (by omega), if_neg (by omega), if_neg (by omega)]
                simp only [List.map_cons, List.map_nil]
                rw [show 240 + v / 262144 = c.toNat by omega, show 128 + v / 4096 % 64 = a.toNat by omega, show 128 + v / 64 % 64 = b.toNat by omega, show 128 + v % 64 = d.toNat by omega, byteOf_of, byteOf_of, byteOf_of, byteOf_of]

end Go.Proofs.Ytlbokaekhjjabaa

/-
  The two texts' Encode, and the reference's Point, without Go: they tell 'enc' and 'pt'.
-/
namespace Go.Proofs.Ytlbokaekhjjabaa.Pure
open Go.RowKit Go.Proofs.Ytlbokaekhjjabaa Go.Proofs.Ytlbokaekhjjabaa.U Go.Proofs.YtlbokaekhjjabaaW.PrintWords Go.Proofs.YtlbokaekhjjabaaW.PrintLast Go.Proofs.YtlbokaekhjjabaaW.PrintMore

theorem enc_nums (c : Int) : enc c = strOfNums (encL c) := rfl

theorem andM (i : Nat) (hi : i ≤ 62) (x : Int) (h₀ : 0 ≤ x) (h₁ : x < 4294967296) : bits .and .i64 x (2 ^ i - 1) = x % 2 ^ i := bits_mask .i64 62 (by decide) wraps_i64 i hi x h₀ (by omega)
theorem and63c (x : Int) (h₀ : 0 ≤ x) (h₁ : x < 4294967296) : bits .and .i64 x 63 = x % 64 := andM 6 (by decide) x h₀ h₁
theorem orJ (i : Nat) (x y : Int) (hx₀ : 0 ≤ x) (hx : x % 2 ^ i = 0) (hx₁ : x < 4294967296) (h₀ : 0 ≤ y) (h₁ : y < 2 ^ i) (h₂ : y < 4294967296) : bits .or .i64 x y = x + y :=
  bits_join .i64 62 (by decide) wraps_i64 i x y hx₀ hx (by omega) h₀ h₁ (by omega)

theorem encL_in (c : Int) (h0 : 0 ≤ c) (h1 : c ≤ 1114111) (hs : ¬ (55296 ≤ c ∧ c ≤ 57343)) : encL c =
    if c < 128 then [c] else if c < 2048 then [192 + c / 64, 128 + c % 64] else if c < 65536 then [224 + c / 4096, 128 + c / 64 % 64, 128 + c % 64]
    else [240 + c / 262144, 128 + c / 4096 % 64, 128 + c / 64 % 64, 128 + c % 64] := by
  unfold encL
  rw [if_neg (by omega)]

/-! ### the reference's Encode -/
theorem refEncode_j0 (c : Int) (h0 : 0 ≤ c) (h1 : c ≤ 1114111) (hs : ¬ (55296 ≤ c ∧ c ≤ 57343)) (k : Nat) : glossatorref02_Encode.j0 (k + 1) c false = some (enc c) := by
  rw [glossatorref02_Encode.j0, if_neg (by decide), enc_nums, encL_in c h0 h1 hs]
  by_cases a1 : c < 128
  · rw [if_pos a1, if_pos a1, show c % 256 = c by omega]
  · rw [if_neg a1, if_neg a1]
    have e63 := and63c c (by omega) (by omega)
    have o0 : bits .or .i64 128 (c % 64) = 128 + c % 64 := orJ 6 128 (c % 64) (by decide) (by decide) (by decide) (by omega) (by omega) (by omega)
    by_cases a2 : c < 2048
    · rw [if_pos a2, if_pos a2, e63, o0, orJ 5 192 (c / 64) (by decide) (by decide) (by decide) (by omega) (by omega) (by omega), show (192 + c / 64) % 256 = 192 + c / 64 by omega, show (128 + c % 64) % 256 = 128 + c % 64 by omega]
    · rw [if_neg a2, if_neg a2]
      have e63b := and63c (c / 64) (by omega) (by omega)
      have o1 : bits .or .i64 128 (c / 64 % 64) = 128 + c / 64 % 64 := orJ 6 128 (c / 64 % 64) (by decide) (by decide) (by decide) (by omega) (by omega) (by omega)
      by_cases a3 : c < 65536
      · rw [if_pos a3, if_pos a3, e63, o0, e63b, o1, orJ 4 224 (c / 4096) (by decide) (by decide) (by decide) (by omega) (by omega) (by omega), show (224 + c / 4096) % 256 = 224 + c / 4096 by omega, show (128 + c / 64 % 64) % 256 = 128 + c / 64 % 64 by omega, show (128 + c % 64) % 256 = 128 + c % 64 by omega]
      · rw [if_neg a3, if_neg a3]
        have e63c := and63c (c / 4096) (by omega) (by omega)
        have o2 : bits .or .i64 128 (c / 4096 % 64) = 128 + c / 4096 % 64 := orJ 6 128 (c / 4096 % 64) (by decide) (by decide) (by decide) (by omega) (by omega) (by omega)
        rw [e63, o0, e63b, o1, e63c, o2, orJ 3 240 (c / 262144) (by decide) (by decide) (by decide) (by omega) (by omega) (by omega), show (240 + c / 262144) % 256 = 240 + c / 262144 by omega, show (128 + c / 4096 % 64) % 256 = 128 + c / 4096 % 64 by omega, show (128 + c / 64 % 64) % 256 = 128 + c / 64 % 64 by omega, show (128 + c % 64) % 256 = 128 + c % 64 by omega]

theorem enc_none (c : Int) (h : c < 0 ∨ c > 1114111 ∨ (55296 ≤ c ∧ c ≤ 57343)) : enc c = ⟨#[]⟩ := by
  rw [enc_nums]; unfold encL; rw [if_pos h]; rfl

theorem refEncode_f (c : Int) (k : Nat) : glossatorref02_Encode.f (k + 1) c = some (enc c) := by
  have ht : glossatorref02_Encode.j0 (k + 1) c true = some ⟨#[]⟩ := by rw [glossatorref02_Encode.j0, if_pos rfl]
  unfold glossatorref02_Encode.f
  by_cases a1 : c < 0
  · rw [if_pos a1, ht, enc_none c (.inl a1)]
  · rw [if_neg a1]
    by_cases a2 : c > 1114111
    · rw [if_pos a2, ht, enc_none c (.inr (.inl a2))]
    · rw [if_neg a2]
      by_cases a3 : c ≥ 55296
      · rw [if_pos a3]
        by_cases a4 : c ≤ 57343
        · rw [decide_eq_true a4, ht, enc_none c (.inr (.inr ⟨a3, a4⟩))]
        · rw [decide_eq_false a4, refEncode_j0 c (by omega) (by omega) (by omega) k]
      · rw [if_neg a3, refEncode_j0 c (by omega) (by omega) (by omega) k]

/-! ### the program's Encode -/
theorem l1_step (k : Nat) (c : Int) (x3 : List Int) (x4 x5 : Int) (hc : 0 ≤ c) (hc2 : c < 4294967296) (h5 : 0 < x5) (h6 : x5 ≤ 4) (hl : x3.length < 10) :
    utf_Encode.l1 (k + 1) c x3 x4 x5 = utf_Encode.l1 k (c / 64) ((128 + c % 64) :: x3) x4 (x5 - 1) := by
  have e : bits .or .u8 128 (bits .and .i64 c 63 % 256) = 128 + c % 64 := by
    rw [and63c c hc hc2, show c % 64 % 256 = c % 64 by omega]
    exact u8_or128 _ (by omega) (by omega)
  rw [utf_Encode.l1, if_pos (by omega), e, Option.bind_some, if_pos (by simp only [List.length_cons, List.length_nil]; omega), IntWalk.wrap64_in _ (by omega)]
  rfl
theorem l1_end (k : Nat) (c : Int) (x3 : List Int) (x4 : Int) (hn : 2 ≤ x4) (hl : x3.length < 10) (b : Int) (hb : bits .or .u8 (shr .i64 3840 x4 % 256) (c % 256) = b) :
    utf_Encode.l1 (k + 1) c x3 x4 0 = some (strOfNums (b :: x3)) := by
  rw [utf_Encode.l1, if_neg (by omega), if_pos (by omega), hb, Option.bind_some, if_pos (by simp only [List.length_cons, List.length_nil]; omega)]
  rfl
theorem shr_at (x : Int) (j : Nat) (hj : j ≤ 64) : shr .i64 x (j : Int) = x / 2 ^ j := by
  unfold shr
  rw [Int.toNat_natCast, Nat.min_eq_left (show j ≤ IntKind.i64.bits from hj)]
theorem l0_more (k : Nat) (c n : Int) (j : Nat) (hn : 2 ≤ n) (h4 : n < 4) (hj : 5 * n + 1 = j) (hc : c / 2 ^ j > 0) : utf_Encode.l0 (k + 1) c n = utf_Encode.l0 k c (n + 1) := by
  rw [utf_Encode.l0, if_pos h4, IntWalk.wrap64_in (5 * n) (by omega), IntWalk.wrap64_in _ (by omega), if_pos (by omega), hj, shr_at c j (by omega), if_pos hc, IntWalk.wrap64_in _ (by omega)]
theorem l0_stop (k : Nat) (c n : Int) (j : Nat) (hn : 2 ≤ n) (h4 : n < 4) (hj : 5 * n + 1 = j) (hc : ¬ c / 2 ^ j > 0) : utf_Encode.l0 (k + 2) c n = utf_Encode.l1 k c [] n (n - 1) := by
  rw [utf_Encode.l0, if_pos h4, IntWalk.wrap64_in (5 * n) (by omega), IntWalk.wrap64_in _ (by omega), if_pos (by omega), hj, shr_at c j (by omega), if_neg hc, utf_Encode.j2, IntWalk.wrap64_in _ (by omega)]
theorem l0_four (k : Nat) (c : Int) : utf_Encode.l0 (k + 2) c 4 = utf_Encode.l1 k c [] 4 3 := by
  rw [utf_Encode.l0, if_neg (by decide), utf_Encode.j2, IntWalk.wrap64_in _ (by omega)]
  rfl

theorem encode_j0 (c : Int) (h0 : 0 ≤ c) (h1 : c ≤ 1114111) (hs : ¬ (55296 ≤ c ∧ c ≤ 57343)) (k : Nat) : utf_Encode.j0 (k + 12) c false = some (enc c) := by
  rw [utf_Encode.j0, if_neg (by decide), enc_nums, encL_in c h0 h1 hs]
  by_cases a1 : c < 128
  · rw [if_pos a1, if_pos a1, show c % 256 = c by omega]
  · rw [if_neg a1, if_neg a1]
    have e0 : (c / 64) / 64 = c / 4096 := by omega
    have e1 : (c / 4096) / 64 = c / 262144 := by omega
    by_cases a2 : c < 2048
    · rw [if_pos a2, l0_stop _ c 2 11 (by decide) (by decide) (by decide) (by omega)]
      rw [show (2 : Int) - 1 = 1 from rfl, l1_step _ c [] 2 1 (by omega) (by omega) (by decide) (by decide) (by decide)]
      rw [show (1 : Int) - 1 = 0 from rfl]
      refine l1_end _ _ _ 2 (by decide) (by simp) (192 + c / 64) ?_
      rw [show shr .i64 3840 2 % 256 = 192 from by decide, show c / 64 % 256 = c / 64 by omega]
      exact u8_or192 _ (by omega) (by omega)
    · rw [if_neg a2, l0_more _ c 2 11 (by decide) (by decide) (by decide) (by omega)]
      rw [show (2 : Int) + 1 = 3 from rfl]
      by_cases a3 : c < 65536
      · rw [if_pos a3, l0_stop _ c 3 16 (by decide) (by decide) (by decide) (by omega)]
        rw [show (3 : Int) - 1 = 2 from rfl, l1_step _ c [] 3 2 (by omega) (by omega) (by decide) (by decide) (by decide)]
        rw [show (2 : Int) - 1 = 1 from rfl, l1_step _ (c / 64) _ 3 1 (by omega) (by omega) (by decide) (by decide) (by simp)]
        rw [show (1 : Int) - 1 = 0 from rfl, e0]
        refine l1_end _ _ _ 3 (by decide) (by simp) (224 + c / 4096) ?_
        rw [show shr .i64 3840 3 % 256 = 224 from by decide, show c / 4096 % 256 = c / 4096 by omega]
        exact u8_or224 _ (by omega) (by omega)
      · rw [if_neg a3, l0_more _ c 3 16 (by decide) (by decide) (by decide) (by omega)]
        rw [show (3 : Int) + 1 = 4 from rfl, l0_four]
        rw [l1_step _ c [] 4 3 (by omega) (by omega) (by decide) (by decide) (by decide)]
        rw [show (3 : Int) - 1 = 2 from rfl, l1_step _ (c / 64) _ 4 2 (by omega) (by omega) (by decide) (by decide) (by simp), e0]
        rw [show (2 : Int) - 1 = 1 from rfl, l1_step _ (c / 4096) _ 4 1 (by omega) (by omega) (by decide) (by decide) (by simp), e1]
        rw [show (1 : Int) - 1 = 0 from rfl]
        refine l1_end _ _ _ 4 (by decide) (by simp) (240 + c / 262144) ?_
        rw [show shr .i64 3840 4 % 256 = 240 from by decide, show c / 262144 % 256 = c / 262144 by omega]
        exact u8_or240 _ (by omega) (by omega)

theorem encode_f (c : Int) (k : Nat) : utf_Encode.f (k + 12) c = some (enc c) := by
  have ht : utf_Encode.j0 (k + 12) c true = some ⟨#[]⟩ := by rw [utf_Encode.j0, if_pos rfl]
  unfold utf_Encode.f
  by_cases a1 : c < 0
  · rw [if_pos a1, ht, enc_none c (.inl a1)]
  · rw [if_neg a1]
    by_cases a2 : c > 1114111
    · rw [if_pos a2, ht, enc_none c (.inr (.inl a2))]
    · rw [if_neg a2]
      by_cases a3 : c / 2048 = 27
      · rw [show (c / 2048 == 27) = true by simpa using a3, ht, enc_none c (.inr (.inr (by omega)))]
      · rw [show (c / 2048 == 27) = false by simpa using a3, encode_j0 c (by omega) (by omega) (by omega) k]

/-! ### the reference's Point -/
theorem vst_next (n i c acc : Int) (hn : n ≠ 1) (hi : i ≠ 0) : vst n i c acc = acc * 64 + c % 64 := by unfold vst; rw [if_neg hn, if_neg hi]

theorem acc_next (acc : Int) (d : Nat) (ha : 0 ≤ acc) (hb : (acc + 1) * 64 ^ (d + 1) ≤ 1073741824) : acc < 1073741824 ∧ ∀ r : Int, 0 ≤ r → r < 64 → (acc * 64 + r + 1) * 64 ^ d ≤ 1073741824 := by
  have hp : (1 : Int) ≤ 64 ^ d := by exact_mod_cast Nat.one_le_pow d 64 (by decide)
  rw [Int.pow_succ] at hb
  generalize (64 : Int) ^ d = x at hp hb
  have e : (acc + 1) * (x * 64) = ((acc + 1) * 64) * x := by rw [Int.mul_comm x, Int.mul_assoc]
  rw [e] at hb
  constructor
  · have : ((acc + 1) * 64) * 1 ≤ ((acc + 1) * 64) * x := Int.mul_le_mul_of_nonneg_left hp (by omega)
    omega
  · intro r h0 h1
    exact Int.le_trans (Int.mul_le_mul_of_nonneg_right (by omega) (by omega)) hb

theorem join6 (acc b : Int) (ha : 0 ≤ acc) (ha2 : acc < 1073741824) (hb : 0 ≤ b) (hb2 : b ≤ 255) :
    bits .or .i64 (wrap64 (acc * 64)) (bits .and .i64 (wrap64 b) 63) = acc * 64 + b % 64 ∧ 0 ≤ acc * 64 + b % 64 ∧ 0 ≤ b % 64 ∧ b % 64 < 64 := by
  refine ⟨?_, by omega, by omega, by omega⟩
  rw [IntWalk.wrap64_in _ (by omega), IntWalk.wrap64_in _ (by omega), and63c b (by omega) (by omega)]
  exact bits_join .i64 62 (by decide) wraps_i64 6 _ _ (by omega) (by omega) (by omega) (by omega) (by omega) (by omega)

theorem refPoint_l0 (s : ByteArray) (hs : s.size ≤ 140737488351232) (h0 : 0 < s.size) (n : Int) (hn : n = nd s[0].toNat) (h2 : 2 ≤ n) (hl : n ≤ s.size) (d : Nat) :
    ∀ (j : Nat) (acc : Int), 1 ≤ j → (j : Int) + d = n → 0 ≤ acc → (acc + 1) * 64 ^ d ≤ 1073741824 →
      Ev (fun k => glossatorref02_Point.l0 k s n acc j) (ptGo n (s.data.toList.drop j) j (n - j, lo s[0].toNat j, Pure.hi s[0].toNat j) acc) := by
  have h4 : n ≤ 4 := by rw [hn]; exact (rowOf_n s[0].toNat).2
  induction d with
  | zero =>
    intro j acc hj hjd ha hb
    rw [ptGo_end (by omega)]
    refine Ev.step (f := fun _ => some (acc, n)) (fun k => ?_) (Ev.now _)
    rw [glossatorref02_Point.l0, if_neg (by omega)]
  | succ d ih =>
    intro j acc hj hjd ha hb
    have hlt : j < s.size := by omega
    have hb0 := bt_nat s 0 h0
    have hbj := bt_nat s j hlt
    have hby := byte_le s[j]
    have hm := may_f s[0].toNat j s[j].toNat (by omega)
    obtain ⟨hacc, hbn⟩ := acc_next acc d ha hb
    clear hb
    rw [data_drop s j hlt, ptGo_in (by omega) (by omega)]
    by_cases hin : lo s[0].toNat j ≤ (s[j].toNat : Int) ∧ (s[j].toNat : Int) ≤ Pure.hi s[0].toNat j
    · rw [if_neg (by omega)]
      rw [decide_eq_true hin] at hm
      obtain ⟨e2, g1, g2, g3⟩ := join6 acc s[j].toNat ha hacc hby.1 hby.2
      have hnext := ih (j + 1) (acc * 64 + (s[j].toNat : Int) % 64) (by omega) (by omega) g1 (hbn _ g2 g3)
      rw [lo_next _ _ (by omega), hi_next _ _ (by omega)] at hnext
      rw [vst_next _ _ _ _ (by omega) (by omega)]
      rw [show ((j + 1 : Nat) : Int) = (j : Int) + 1 by omega, show n - ((j : Int) + 1) = n - j - 1 by omega] at hnext
      refine Ev.step (f := fun k => glossatorref02_Point.l0 k s n (acc * 64 + (s[j].toNat : Int) % 64) ((j : Int) + 1)) (fun k => ?_) hnext
      rw [glossatorref02_Point.l0, if_pos (by omega), if_pos (by omega), if_pos (by omega), if_pos (by omega), show bt s 0 = (s[0].toNat : Int) from hb0, hbj, hm, Option.bind_some, if_pos rfl, e2, IntWalk.wrap64_in _ (by omega)]
    · rw [if_pos (by omega)]
      rw [decide_eq_false hin] at hm
      refine Ev.step (f := fun _ => some (0, 0)) (fun k => ?_) (Ev.now _)
      rw [glossatorref02_Point.l0, if_pos (by omega), if_pos (by omega), if_pos (by omega), if_pos (by omega), show bt s 0 = (s[0].toNat : Int) from hb0, hbj, hm, Option.bind_some, if_neg (by decide)]

theorem refPoint_ev (s : ByteArray) (hs : s.size ≤ 140737488351232) : Ev (fun k => glossatorref02_Point.f k s) (pt s) := by
  by_cases h : s.size = 0
  · have hd : s.data.toList = [] := List.eq_nil_of_length_eq_zero (by rw [data_length]; exact h)
    have hp : pt s = (0, 0) := by unfold pt; rw [hd]; rfl
    rw [hp]
    refine Ev.congr (f := fun _ => some (0, 0)) (fun k => ?_) (Ev.now _)
    unfold glossatorref02_Point.f
    rw [if_pos (by rw [ByteArray.toList_eq]; exact hd)]
  · have hz : 0 < s.size := by omega
    have hne := (ne_nil s hz).2
    have hb0 := bt_nat s 0 hz
    have hby := byte_le s[0]
    have hnd := need_ev s[0].toNat hby.1 hby.2
    have h4 := rowOf_n s[0].toNat
    refine Ev.congr (f := fun k => (glossatorref02_need.f k s[0].toNat).bind fun t => (if t = 0 then (glossatorref02_Point.j0 k s t true) else (glossatorref02_Point.j0 k s t (decide (t > (s.size : Int)))))) (fun k => ?_) ?_
    · unfold glossatorref02_Point.f
      rw [if_neg hne, if_pos (by omega), show bt s 0 = (s[0].toNat : Int) from hb0]
    · refine Ev.bind (f := fun k t => (if t = 0 then (glossatorref02_Point.j0 k s t true) else (glossatorref02_Point.j0 k s t (decide (t > (s.size : Int)))))) hnd ?_
      rw [pt_some s hz]
      by_cases a1 : nd s[0].toNat = 0
      · rw [if_pos (.inl a1)]
        refine Ev.step (f := fun _ => some (0, 0)) (fun k => ?_) (Ev.now _)
        rw [if_pos a1, glossatorref02_Point.j0, if_pos rfl]
      · by_cases a2 : nd s[0].toNat > (s.size : Int)
        · rw [if_pos (.inr a2)]
          refine Ev.step (f := fun _ => some (0, 0)) (fun k => ?_) (Ev.now _)
          rw [if_neg a1, decide_eq_true a2, glossatorref02_Point.j0, if_pos rfl]
        · rw [if_neg (fun e => e.elim a1 a2)]
          have hd := data_drop s 0 hz
          rw [List.drop_zero] at hd
          rw [hd]
          obtain ⟨q1, q2, n, l, m, hr⟩ : ∃ q1 q2 n l m, rowOf leadRows s[0].toNat = (q1, q2, n, l, m) := ⟨_, _, _, _, _, rfl⟩
          have hn : nd s[0].toNat = n := by unfold nd; rw [hr]
          have hn' : (rowOf leadRows s[0].toNat).2.2.1 = n := hn
          rw [hn] at a1 a2 ⊢
          rw [hn'] at h4 ⊢
          rw [ptGo_first hr (by omega)]
          by_cases a3 : n = 1
          · subst a3
            rw [ptGo_end (by decide)]
            refine Ev.step (f := fun _ => some ((s[0].toNat : Int), 1)) (fun k => ?_) (Ev.now _)
            rw [if_neg a1, decide_eq_false a2, glossatorref02_Point.j0, if_neg (by decide), if_pos rfl, if_pos (by omega), show bt s 0 = (s[0].toNat : Int) from hb0, IntWalk.wrap64_in _ (by omega)]
          · have hv : bits .and .i64 (wrap64 (s[0].toNat : Int)) (shr .i64 255 (wrap64 (n + 1))) = vst n 0 s[0].toNat 0 := by
              rw [IntWalk.wrap64_in _ (by omega), IntWalk.wrap64_in _ (by omega)]
              unfold vst
              rw [if_neg a3, if_pos rfl]
              obtain rfl | rfl | rfl : n = 2 ∨ n = 3 ∨ n = 4 := by omega
              · rw [show shr .i64 255 (2 + 1) = 2 ^ 5 - 1 from by decide, if_pos rfl]; exact andM 5 (by decide) _ (by omega) (by omega)
              · rw [show shr .i64 255 (3 + 1) = 2 ^ 4 - 1 from by decide, if_neg (by decide), if_pos rfl]; exact andM 4 (by decide) _ (by omega) (by omega)
              · rw [show shr .i64 255 (4 + 1) = 2 ^ 3 - 1 from by decide, if_neg (by decide), if_neg (by decide)]; exact andM 3 (by decide) _ (by omega) (by omega)
            have hvb : 0 ≤ vst n 0 s[0].toNat 0 ∧ vst n 0 s[0].toNat 0 ≤ 31 := by
              unfold vst; rw [if_neg a3, if_pos rfl]; split <;> (try split) <;> omega
            have hloop := refPoint_l0 s hs hz n hn.symm (by omega) (by omega) (n - 1).toNat 1 (vst n 0 s[0].toNat 0) (by omega) (by omega) hvb.1 (by
              obtain rfl | rfl | rfl : n = 2 ∨ n = 3 ∨ n = 4 := by omega
              · show (_ + 1) * (64 : Int) ^ 1 ≤ _; omega
              · show (_ + 1) * (64 : Int) ^ 2 ≤ _; omega
              · show (_ + 1) * (64 : Int) ^ 3 ≤ _; omega)
            have hlo : lo s[0].toNat ((1 : Nat) : Int) = l := by unfold lo; rw [if_pos (by decide), hr]
            have hhi : Pure.hi s[0].toNat ((1 : Nat) : Int) = m := by unfold Pure.hi; rw [if_pos (by decide), hr]
            rw [hlo, hhi] at hloop
            refine Ev.step (f := fun k => glossatorref02_Point.l0 k s n (vst n 0 s[0].toNat 0) ((1 : Nat) : Int)) (fun k => ?_) hloop
            rw [if_neg a1, decide_eq_false a2, glossatorref02_Point.j0, if_neg (by decide), if_neg a3, if_pos (by omega), IntWalk.wrap64_in (n + 1) (by omega), if_pos (by omega), show bt s 0 = (s[0].toNat : Int) from hb0, ← hv, IntWalk.wrap64_in (n + 1) (by omega)]
            rfl

end Go.Proofs.Ytlbokaekhjjabaa.Pure

/-
  esc's scan: escape.
-/
namespace Go.Proofs.Ytlbokaekhjjabaa
open Go.RowKit Go.Proofs.YtlbokaekhjjabaaW.PrintWords Go.Proofs.YtlbokaekhjjabaaW.PrintLast Go.Proofs.YtlbokaekhjjabaaW.PrintMore
set_option linter.unusedVariables false

theorem encode_any (c : Int) (w : World) : Calls Try.prog 28 #[.int .i64 c] w fun e w' => e = .returned (.string (enc c)) ∧ Below w.heap.size w w' :=
  U.utf_Encode.calls 12 c (enc c) w (Pure.encode_f c 0)

theorem Sx.not_row {W : World} {g : Nat} {s : ByteArray} {p e : Int} {u v : Value} {base k : Nat} {xs : List Value} (h : Sx W g s p u e) (hr : W.ownsRow base 5 1 v k xs) : v.ownBlock ≠ some g := by
  rcases hr.2 with ⟨rfl, _⟩ | ⟨b, cap, cur, rfl, _, hgb, _⟩
  · simp [Value.ownBlock]
  · intro e'
    obtain rfl : b = g := by simpa [Value.ownBlock] using e'
    have := (show W.heap[b]? = _ from h).symm.trans hgb
    simp at this

/-- The scan with the bytes that it has told. -/
structure Sy (W : World) (base g : Nat) (s : ByteArray) (p : Nat) (e : Int) (v : Value) (xs : List Int) : Prop where
  at' : Sx W g s p v e
  row : W.ownsRow base 5 1 v xs.length (xs.map (Value.int .u8))
theorem Sy.only {W W' : World} {base g : Nat} {s : ByteArray} {p p' : Nat} {e e' : Int} {v : Value} {xs : List Int} (h : Sy W base g s p e v xs) (ho : Only g W W') (hx : Sx W' g s p' v e') : Sy W' base g s p' e' v xs :=
  ⟨hx, World.ownsRow.kept h.row ho (.inr (h.at'.not_row h.row))⟩
theorem Sy.alloc {W : World} {base g : Nat} {s : ByteArray} {p : Nat} {e : Int} {v : Value} {xs : List Int} (h : Sy W base g s p e v xs) (o : Obj) : Sy (W.alloc o) base g s p e v xs := ⟨h.at'.alloc o, h.row.alloc o⟩
theorem Only.below {g B : Nat} {w w' a : World} (h : Below B a w) (ho : Only g w w') (hg : B ≤ g) (hB : B ≤ w.heap.size) : Below B a w' := h.grown ho hB (fun k hk => by cases hk; exact hg)

def unl : List (Int × Int) → Int → Int
  | [], c => c
  | p :: t, c => unl t (if p.2 = c then p.1 else c)
theorem unl_step {l t : List (Int × Int)} {p : Int × Int} {c : Int} (h : l = p :: t) : unl l c = unl t (if p.2 = c then p.1 else c) := by subst h; rfl

/-- What escape does: the bytes that it tells, the place, the error. -/
def escF (s : ByteArray) (p : Nat) (e : Int) : List Int × Nat × Int :=
  let r := nx s escIs p e
  if r.1 ≠ 117 then ([unl letterPairs r.1], r.2.1, r.2.2)
  else
    let a := unitF s false r.2.1 r.2.2
    if a.1 / 1024 = 54 then
      let b := nx s (fun c => c == 92) a.2.1 a.2.2
      let c := nx s (fun c => c == 117) b.2.1 b.2.2
      let d := unitF s true c.2.1 c.2.2
      (encL (65536 + a.1 % 1024 * 1024 + d.1 % 1024), d.2.1, d.2.2)
    else (encL a.1, a.2.1, a.2.2)

def EscPost (base g : Nat) (s : ByteArray) (xs : List Int) (r : List Int × Nat × Int) (w : World) (en : Ending) (w' : World) : Prop :=
  en = .returned (.tuple #[]) ∧ (∃ v, Sy w' base g s r.2.1 r.2.2 v (xs ++ r.1)) ∧ Below base w w'

/-- Behind an append to the told bytes and the store back. -/
theorem Sy.appended {W w1 : World} {base g n' : Nat} {s : ByteArray} {p : Nat} {e : Int} {v v' : Value} {xs ys : List Int} (h : Sy W base g s p e v xs) (hb : base ≤ W.heap.size) (hg : base ≤ g)
    (hown' : w1.ownsRow base 5 1 v' n' ((xs ++ ys).map (Value.int .u8))) (hgrow : (W.alloc (.cells (ys.map (Value.int .u8)).toArray 5)).grownBy w1 v.ownBlock) :
    Sx w1 g s p v e ∧ Sy (w1.setCell ⟨g, 2, none⟩ v') base g s p e v' (xs ++ ys) ∧ Below base W (w1.setCell ⟨g, 2, none⟩ v') := by
  have hA := h.at'.alloc (.cells (ys.map (Value.int .u8)).toArray 5)
  have h1 : Sx w1 g s p v e := hA.kept hgrow (fun e => h.at'.not_row h.row e.symm)
  have hn := ownsRow_len hown'
  subst hn
  refine ⟨h1, ⟨h1.out' v', ownsRow_setCell_other hown' (h1.not_row hown') v'⟩, ?_⟩
  refine Below.setCell ?_ (p := ⟨g, 2, none⟩) hg _
  refine (((Below.refl base W).alloc hb _).grown hgrow (by simp; omega)) (fun k hk => ?_)
  rcases h.row.2 with ⟨e', _⟩ | ⟨b, cap, cur, e', hbb, _⟩
  · rw [e'] at hk; simp [Value.ownBlock] at hk
  · rw [e'] at hk
    have : b = k := by simpa [Value.ownBlock] using hk
    omega

theorem pair_le {k : Nat} (hk : k < 5) {p q : Int} (h : letterPairs.getD k (0, 0) = (p, q)) : 0 ≤ p ∧ p ≤ 255 := by
  match k, hk with
  | 0, _ => cases h; decide
  | 1, _ => cases h; decide
  | 2, _ => cases h; decide
  | 3, _ => cases h; decide
  | 4, _ => cases h; decide
set_option maxHeartbeats 4000000 in
set_option maxRecDepth 100000 in
theorem escape_letter (base g : Nat) (s : ByteArray) (p : Nat) (e : Int) (v : Value) (xs : List Int) (w : World) (h : Sy w base g s p e v xs) (hp : p ≤ s.size) (hz : s.size ≤ 4611686018427387904) (hb : base ≤ w.heap.size) (hg : base ≤ g)
    (hl : xs.length ≤ 140737488355320) (hc : (nx s escIs p e).1 ≠ 117) :
    Calls Try.prog 57 #[.pointer (some ⟨g, 0, none⟩)] w (EscPost base g s xs ([unl letterPairs (nx s escIs p e).1], (nx s escIs p e).2.1, (nx s escIs p e).2.2) w) := by
  obtain ⟨r, hr⟩ : ∃ r, nx s escIs p e = r := ⟨_, rfl⟩
  have hr1 := nx_byte s escIs p e
  rw [hr] at hc hr1 ⊢
  obtain ⟨c, q, f⟩ := r
  dsimp only at hc hr1 ⊢
  have hc' : (c != 117) = true := by simpa using hc
  go_enter Try.func57, Try.ntmps57
  go_wp2_with (fail)
  refine (next_any g s p v e 69 #[] escIs w h.at' hp hz cf69 (is69 g w)).mono ?_
  rw [hr]
  rintro en w1 ⟨rfl, hI, ho⟩
  dsimp only at hI
  have hy : Sy w1 base g s q f v xs := h.only ho hI
  have hb1 : Below base w w1 := Only.below (Below.refl _ _) ho hg hb
  have hbw1 := Nat.le_trans hb hb1.size
  clear hI ho h hr
  go_wp2_with (go_at_call 51; refine (letters_any _).mono ?_; rintro e w' ⟨rfl, rfl⟩)
  go_loopw [2, 13] (fun x i wr => ∃ (k : Nat) (d : Int), k ≤ 5 ∧ i = .int .i64 k ∧ x = .int .u8 d ∧ 0 ≤ d ∧ d ≤ 255 ∧ Hid (unl letterPairs c = unl (letterPairs.drop k) d) ∧ Sy wr base g s q f v xs ∧ Below base w wr) (fun x i _ => 5 - (intOf i).toNat)
  case atStart => exact ⟨0, c, by omega, rfl, rfl, hr1.1, hr1.2, rfl, hy.alloc _, hb1.alloc hbw1 _⟩
  case round =>
    obtain ⟨k, d, hk, rfl, rfl, hd0, hd1, hu, hy, hB⟩ := hrel
    have hbw := Nat.le_trans hb hB.size
    by_cases hlt : k < 5
    · have i1 := index_let k hlt
      obtain ⟨a, b, hr⟩ : ∃ a b, letterPairs.getD k (0, 0) = (a, b) := ⟨_, _, rfl⟩
      have hd := Lib.hid (drop_let hlt hr)
      rw [hr] at i1
      dsimp only at i1
      by_cases hpc : b = d
      · have ht : (b == d) = true := by simpa using hpc
        have hf := Lib.hid (hu.out.trans (unl_step hd.out))
        rw [if_pos hpc] at hf
        have ha := pair_le hlt hr
        clear hpc hr
        go_wp2
        go_roundw
        case rel => exact ⟨k + 1, a, by omega, by go_num, rfl, ha.1, ha.2, hf, hy.alloc _, hB.alloc hbw _⟩
        case measure => simp [intOf]; omega
      · have ht : (b == d) = false := by simpa using hpc
        have hf := Lib.hid (hu.out.trans (unl_step hd.out))
        rw [if_neg hpc] at hf
        clear hpc hr
        go_wp2
        go_roundw
        case rel => exact ⟨k + 1, d, by omega, by go_num, rfl, hd0, hd1, hf, hy.alloc _, hB.alloc hbw _⟩
        case measure => simp [intOf]; omega
    · obtain rfl : k = 5 := by omega
      have hf : Hid (unl letterPairs c = d) := hu.out
      have c2 := hy.at'.c2
      go_wp2_with (at_builtin; (refine wpList_append_bytes rfl (.tmp 27) (.tmp 29) rfl base v xs.length xs [d] 1 rfl wr.heap.size rfl rfl hy.row (show xs.length + 1 ≤ 140737488355328 by omega) hbw ?_); intro v2 n2 w2 hn2 hown2 hgrow2; replace hn2 : n2 = xs.length + 1 := hn2; obtain ⟨b2, cap2, rfl⟩ := ownsRow_at hown2 (by omega); obtain ⟨hx, hy2, hb2⟩ := hy.appended hbw hg hown2 hgrow2; have c2 := hx.c2; have f2 := hx.fz 2; clear hn2)
      refine bodyPost_ret (results_none rfl _ _ _) rfl ⟨rfl, ⟨.slice (some ⟨b2, 0, none⟩) n2 cap2, ?_⟩, hB.trans hb2⟩
      rw [hf.out]
      exact hy2
end Go.Proofs.Ytlbokaekhjjabaa

/-
  esc's scan: escape with a number.
-/
namespace Go.Proofs.Ytlbokaekhjjabaa
open Go.RowKit Go.Proofs.YtlbokaekhjjabaaW.PrintWords Go.Proofs.YtlbokaekhjjabaaW.PrintLast Go.Proofs.YtlbokaekhjjabaaW.PrintMore
set_option linter.unusedVariables false

theorem unitL_bound (s : ByteArray) (low : Bool) (k : Nat) : ∀ (j : Nat) (i u : Int) (p : Nat) (e : Int), j + k = 4 → 0 ≤ u → u < 16 ^ j → 0 ≤ (unitL s low k i u p e).1 ∧ (unitL s low k i u p e).1 < 65536 := by
  induction k with
  | zero => intro j i u p e hj h0 h1; obtain rfl : j = 4 := by omega
            exact ⟨h0, by simp only [unitL]; omega⟩
  | succ k ih =>
    intro j i u p e hj h0 h1
    have hm := dig_le (nx s (unitIs low i u) p e).1
    have hpw2 : (16 : Int) ^ (j + 1) = 16 ^ j * 16 := Int.pow_succ ..
    exact ih (j + 1) _ _ _ _ (by omega) (by omega) (by omega)
theorem unitF_bound (s : ByteArray) (low : Bool) (p : Nat) (e : Int) : 0 ≤ (unitF s low p e).1 ∧ (unitF s low p e).1 < 65536 := unitL_bound s low 4 0 0 0 p e (by omega) (by omega) (by decide)
theorem unitL_at (s : ByteArray) (low : Bool) (k : Nat) : ∀ (i u : Int) (p : Nat) (e : Int), p ≤ s.size → (unitL s low k i u p e).2.1 ≤ s.size := by
  induction k with
  | zero => intro i u p e h; exact h
  | succ k ih => intro i u p e h; exact ih _ _ _ _ (nx_at s _ p e h)
theorem unitF_at (s : ByteArray) (low : Bool) (p : Nat) (e : Int) (h : p ≤ s.size) : (unitF s low p e).2.1 ≤ s.size := unitL_at s low 4 0 0 p e h

theorem encL_byte (c : Int) : ∀ x ∈ encL c, 0 ≤ x ∧ x ≤ 255 := by
  unfold encL
  intro x hx
  repeat' split at hx
  all_goals simp at hx
  all_goals omega
theorem enc_cells (c : Int) : Lib.strCells (enc c) = (encL c).map (Value.int .u8) := by
  unfold Lib.strCells enc
  simp only [List.map_map]
  refine List.map_congr_left fun x hx => ?_
  have := encL_byte c x hx
  exact congrArg (Value.int .u8) (byteOf_toNat this.1 this.2)
theorem enc_size (c : Int) : (enc c).size = (encL c).length ∧ (encL c).length ≤ 4 := by
  refine ⟨by simp [enc, ByteArray.size], ?_⟩
  unfold encL
  repeat' split
  all_goals simp

/-- 'append' of a text to bytes of the call's own, at a step of a region that draws its order. -/
theorem step_append_str {ops : Array Oper} {o : Oper} {a : Act} {K : Act → World → Prop} {Q : Exit → Act → World → Prop} {E : Prop} {w : World} (hgd : o.guard = none) (sl x : Operand)
    (ho : o.op = .call { callee := .builtin .append, args := #[sl, x], argTypes := #[28, 9] }) (base : Nat) (v : Value) (n : Nat) (xs : List Value) (hs : a.eval sl = v) (hown : w.ownsRow base 5 1 v n xs) (s : ByteArray) (hx : a.eval x = .string s)
    (hbytes : n + s.size ≤ 140737488355328) (hbase : base ≤ w.heap.size)
    (h : ∀ v' n' w', n' = n + s.size → w'.ownsRow base 5 1 v' n' (xs ++ Lib.strCells s) → w.grownBy w' v.ownBlock → K (a.put o.dst v') w') :
    if Region.wanted o (yielded ops a.tmps) = true then Oper.wp Try.prog o a w K Q else E := by
  have hw : Region.wanted o (yielded ops a.tmps) = true := by simp [Region.wanted, hgd]
  rw [if_pos hw]
  obtain ⟨i0, hi, hz0, hz1, hz2⟩ := info_parts info5
  obtain ⟨v', w', hr, h2, h3, h4⟩ := Lib.run_append_own_string (P := Try.prog) w base 28 9 o.type 5 i0 Try.underlying28 Try.underlying9 hi hz0 hz1 hz2 v n xs hown s (by unfold maxLen; omega) hbytes hbase
  unfold Oper.wp execOp
  simp only [ho, resolve, invoke, builtin, Sem.run_bind, Sem.run_pure, Result.andThen_ok, List.map_toArray, List.map_cons, List.map_nil, hs, hx, hr]
  exact h v' _ w' rfl h2 h3

theorem ownsRow_slice {W : World} {base n : Nat} {v : Value} {xs : List Value} (h : W.ownsRow base 5 1 v n xs) : ∃ a cap, v = .slice a n cap := by
  rcases h.2 with ⟨rfl, h'⟩ | ⟨b, cap, cur, rfl, _⟩
  · exact ⟨none, 0, by rw [h']⟩
  · exact ⟨_, _, rfl⟩

theorem Sy.below {W W1 : World} {base g : Nat} {s : ByteArray} {p : Nat} {e : Int} {v : Value} {xs : List Int} (h : Sy W base g s p e v xs) (hb : Below W.heap.size W W1) : Sy W1 base g s p e v xs :=
  h.only (Only.of hb) (h.at'.below hb)
theorem Sy.drew {W : World} {base g : Nat} {s : ByteArray} {p : Nat} {e : Int} {v : Value} {xs : List Int} (h : Sy W base g s p e v xs) : Sy W.drew base g s p e v xs := ⟨h.at', h.row.drew⟩
/-- Behind such an append and the store back. -/
theorem Sy.appendedS {W w1 : World} {base g n' : Nat} {s : ByteArray} {p : Nat} {e : Int} {v v' : Value} {xs ys : List Int} (h : Sy W base g s p e v xs) (hb : base ≤ W.heap.size) (hg : base ≤ g)
    (hown' : w1.ownsRow base 5 1 v' n' ((xs ++ ys).map (Value.int .u8))) (hgrow : W.grownBy w1 v.ownBlock) :
    Sx w1 g s p v e ∧ Sy (w1.setCell ⟨g, 2, none⟩ v') base g s p e v' (xs ++ ys) ∧ Below base W (w1.setCell ⟨g, 2, none⟩ v') := by
  have h1 : Sx w1 g s p v e := h.at'.kept hgrow (fun e => h.at'.not_row h.row e.symm)
  have hn := ownsRow_len hown'
  subst hn
  refine ⟨h1, ⟨h1.out' v', ownsRow_setCell_other hown' (h1.not_row hown') v'⟩, ?_⟩
  refine Below.setCell ?_ (p := ⟨g, 2, none⟩) hg _
  refine (Below.refl base W).grown hgrow hb (fun k hk => ?_)
  rcases h.row.2 with ⟨e', _⟩ | ⟨b, cap, cur, e', hbb, _⟩
  · rw [e'] at hk; simp [Value.ownBlock] at hk
  · rw [e'] at hk
    have : b = k := by simpa [Value.ownBlock] using hk
    omega

set_option maxHeartbeats 4000000 in
set_option maxRecDepth 100000 in
theorem escape_plain (base g : Nat) (s : ByteArray) (p : Nat) (e : Int) (v : Value) (xs : List Int) (w : World) (h : Sy w base g s p e v xs) (hp : p ≤ s.size) (hz : s.size ≤ 4611686018427387904) (hb : base ≤ w.heap.size) (hg : base ≤ g)
    (hl : xs.length ≤ 140737488355320) (q : Nat) (f : Int) (hr : nx s escIs p e = (117, q, f)) (u : Int) (q2 : Nat) (f2 : Int) (ha : unitF s false q f = (u, q2, f2)) (hu : ¬ u / 1024 = 54) :
    Calls Try.prog 57 #[.pointer (some ⟨g, 0, none⟩)] w (EscPost base g s xs (encL u, q2, f2) w) := by
  have hq : q ≤ s.size := by have := nx_at s escIs p e hp; rw [hr] at this; exact this
  have hu2 := unitF_bound s false q f
  rw [ha] at hu2
  dsimp only at hu2
  have hu' : (u / 1024 == 54) = false := by simpa using hu
  go_enter Try.func57, Try.ntmps57
  go_wp2_with (fail)
  refine (next_any g s p v e 69 #[] escIs w h.at' hp hz cf69 (is69 g w)).mono ?_
  rw [hr]
  rintro en w1 ⟨rfl, hI, ho⟩
  dsimp only at hI
  have hy : Sy w1 base g s q f v xs := h.only ho hI
  have hb1 : Below base w w1 := Only.below (Below.refl _ _) ho hg hb
  have hbw1 := Nat.le_trans hb hb1.size
  clear hI ho h hr
  go_wp2_with (fail)
  refine (unit_any g s q v f false w1 hy.at' hq hz).mono ?_
  rw [ha]
  rintro en w2 ⟨rfl, hI, ho⟩
  dsimp only at hI
  have hy2 : Sy w2 base g s q2 f2 v xs := hy.only ho hI
  have hb2 : Below base w w2 := hb1.trans (Only.below (Below.refl _ _) ho hg hbw1)
  have hbw2 := Nat.le_trans hb hb2.size
  clear hI ho hy ha
  go_wp2_with (fail)
  have es : (enc u).size ≤ 4 := by have := enc_size u; omega
  have ec := enc_cells u
  have hy3 := hy2.drew
  have c2 := hy2.at'.c2
  go_region_law (first
    | (refine step_append_str rfl (.tmp 60) (.tmp 62) rfl base v xs.length (xs.map (Value.int .u8)) (by simp [Act.eval]) hy5.row (enc u) (by simp [Act.eval]) (by omega) hbw5 ?_; intro v6 n6 w6 hn6 hown6 hgrow6; clear hn6; rw [ec, ← List.map_append] at hown6; obtain ⟨a6, cap6, rfl⟩ := ownsRow_slice hown6; obtain ⟨hx, hy7, hb7⟩ := hy5.appendedS hbw5 hg hown6 hgrow6; have c2 := hx.c2; have fz2 := hx.fz 2)
    | (go_simp; go_at_call 28; refine (encode_any u _).mono ?_; rintro en w5 ⟨rfl, hb5⟩; have hy5 := hy3.below hb5; have c2 := hy5.at'.c2; have hbw5 := Nat.le_trans hbw2 hb5.size))
  all_goals (go_end0; exact ⟨rfl, ⟨_, hy7⟩, (hb2.trans ((Below.refl base w2).drew.trans (Below.mono hb5 hbw2))).trans hb7⟩)

/-- Bytes that must come, one behind the other. -/
def pl (s : ByteArray) : List Int → Nat → Int → Nat × Int
  | [], p, e => (p, e)
  | x :: t, p, e => pl s t (nx s (fun c => c == x) p e).2.1 (nx s (fun c => c == x) p e).2.2
theorem pl_at (s : ByteArray) (l : List Int) : ∀ p e, p ≤ s.size → (pl s l p e).1 ≤ s.size := by
  induction l with
  | nil => intro p e h; exact h
  | cons x t ih => intro p e h; exact ih _ _ (nx_at s _ p e h)
theorem and1023 (x : Int) (h₀ : 0 ≤ x) (h₁ : x < 65536) : bits .and .i64 x 1023 = x % 1024 := bits_mask .i64 62 (by decide) wraps_i64 10 (by decide) x h₀ (by omega)

set_option maxHeartbeats 4000000 in
set_option maxRecDepth 100000 in
theorem escape_pair (base g : Nat) (s : ByteArray) (p : Nat) (e : Int) (v : Value) (xs : List Int) (w : World) (h : Sy w base g s p e v xs) (hp : p ≤ s.size) (hz : s.size ≤ 4611686018427387904) (hb : base ≤ w.heap.size) (hg : base ≤ g)
    (hl : xs.length ≤ 140737488355320) (q : Nat) (f : Int) (hr : nx s escIs p e = (117, q, f)) (u : Int) (q2 : Nat) (f2 : Int) (ha : unitF s false q f = (u, q2, f2)) (hu : u / 1024 = 54)
    (q3 : Nat) (f3 : Int) (hpl : pl s [92, 117] q2 f2 = (q3, f3)) (u4 : Int) (q4 : Nat) (f4 : Int) (hd : unitF s true q3 f3 = (u4, q4, f4)) :
    Calls Try.prog 57 #[.pointer (some ⟨g, 0, none⟩)] w (EscPost base g s xs (encL (65536 + u % 1024 * 1024 + u4 % 1024), q4, f4) w) := by
  have hq : q ≤ s.size := by have := nx_at s escIs p e hp; rw [hr] at this; exact this
  have hq2 : q2 ≤ s.size := by have := unitF_at s false q f hq; rw [ha] at this; exact this
  have hu2 := unitF_bound s false q f
  rw [ha] at hu2
  dsimp only at hu2
  have hu4 := unitF_bound s true q3 f3
  rw [hd] at hu4
  dsimp only at hu4
  have hu' : (u / 1024 == 54) = true := by simpa using hu
  have HD := Lib.hid hd
  have HP := Lib.hid hpl
  clear hd hpl
  go_enter Try.func57, Try.ntmps57
  go_wp2_with (fail)
  refine (next_any g s p v e 69 #[] escIs w h.at' hp hz cf69 (is69 g w)).mono ?_
  rw [hr]
  rintro en w1 ⟨rfl, hI, ho⟩
  dsimp only at hI
  have hy : Sy w1 base g s q f v xs := h.only ho hI
  have hb1 : Below base w w1 := Only.below (Below.refl _ _) ho hg hb
  have hbw1 := Nat.le_trans hb hb1.size
  clear hI ho h hr
  go_wp2_with (fail)
  refine (unit_any g s q v f false w1 hy.at' hq hz).mono ?_
  rw [ha]
  rintro en w2 ⟨rfl, hI, ho⟩
  dsimp only at hI
  have hy2 : Sy w2 base g s q2 f2 v xs := hy.only ho hI
  have hb2 : Below base w w2 := hb1.trans (Only.below (Below.refl _ _) ho hg hbw1)
  have hbw2 := Nat.le_trans hb hb2.size
  have hgl := hy2.at'.lt
  clear hI ho hy ha
  go_wp2_with (fail)
  go_loopw [40] (fun i wr => ∃ (k qk : Nat) (fk : Int), k ≤ 2 ∧ i = .int .i64 k ∧ qk ≤ s.size ∧ Hid (pl s ([92, 117].drop k) qk fk = (q3, f3)) ∧ wr.heap[w2.heap.size]? = some (.cells #[.int .u8 92, .int .u8 117] 5 (0, 0)) ∧ Sy wr base g s qk fk v xs ∧ Below base w wr) (fun i _ => 2 - (intOf i).toNat)
  case atStart => exact ⟨0, q2, f2, by omega, rfl, hq2, HP, heap_alloc_new _ _, hy2.alloc _, hb2.alloc hbw2 _⟩
  case round =>
    obtain ⟨k, qk, fk, hk, rfl, hqk, hP, hB, hyk, hbk⟩ := hrel
    have hbwk := Nat.le_trans hb hbk.size
    have hgk := hyk.at'.lt
    have hBl := block_lt_of_cell (cell_of_row wr w2.heap.size 0 _ _ _ hB)
    by_cases hlt : k < 2
    · rcases (show k = 0 ∨ k = 1 by omega) with rfl | rfl
      · have e0 : wr.cell? ⟨w2.heap.size, 0, none⟩ = some (.int .u8 92) := cell_of_row wr w2.heap.size 0 _ _ _ hB
        obtain ⟨r, hr⟩ : ∃ r, nx s (fun c => c == 92) qk fk = r := ⟨_, rfl⟩
        have hr2 := nx_at s (fun c => c == 92) qk fk hqk
        have hP2 : Hid (pl s ([92, 117].drop 1) r.2.1 r.2.2 = (q3, f3)) := by
          show pl s ([92, 117].drop 1) r.2.1 r.2.2 = (q3, f3)
          rw [← hr, ← hP.out]; rfl
        have hiA := Boxed.new wr 5 (.int .u8 92)
        have hT := is71 g wr.heap.size 92 _ hiA.cell (by omega)
        rw [hr] at hr2
        go_wp2_with (fail)
        refine (next_any g s qk v fk 71 _ _ _ (hyk.at'.alloc _) hqk hz cf71 hT).mono ?_
        rw [hr]
        rintro en w5 ⟨rfl, hI, ho⟩
        have hyn : Sy w5 base g s r.2.1 r.2.2 v xs := (hyk.alloc _).only ho hI
        have hBn : w5.heap[w2.heap.size]? = some (.cells #[.int .u8 92, .int .u8 117] 5 (0, 0)) := (ho.block _ (by simp; omega) (by simp; omega)).trans ((Below.heap_alloc _ _ _ hBl).trans hB)
        have hbn : Below base w w5 := (hbk.alloc hbwk _).trans (Only.below (Below.refl _ _) ho hg (by simp; omega))
        clear hT hI ho hr
        go_wp2
        go_roundw
        case rel => exact ⟨1, r.2.1, r.2.2, by omega, rfl, hr2, hP2, hBn, hyn, hbn⟩
        case measure => simp [intOf]
      · have e0 : wr.cell? ⟨w2.heap.size, 1, none⟩ = some (.int .u8 117) := cell_of_row wr w2.heap.size 1 _ _ _ hB
        obtain ⟨r, hr⟩ : ∃ r, nx s (fun c => c == 117) qk fk = r := ⟨_, rfl⟩
        have hr2 := nx_at s (fun c => c == 117) qk fk hqk
        have hP2 : Hid (pl s ([92, 117].drop 2) r.2.1 r.2.2 = (q3, f3)) := by
          show pl s ([92, 117].drop 2) r.2.1 r.2.2 = (q3, f3)
          rw [← hr, ← hP.out]; rfl
        have hiA := Boxed.new wr 5 (.int .u8 117)
        have hT := is71 g wr.heap.size 117 _ hiA.cell (by omega)
        rw [hr] at hr2
        go_wp2_with (fail)
        refine (next_any g s qk v fk 71 _ _ _ (hyk.at'.alloc _) hqk hz cf71 hT).mono ?_
        rw [hr]
        rintro en w5 ⟨rfl, hI, ho⟩
        have hyn : Sy w5 base g s r.2.1 r.2.2 v xs := (hyk.alloc _).only ho hI
        have hBn : w5.heap[w2.heap.size]? = some (.cells #[.int .u8 92, .int .u8 117] 5 (0, 0)) := (ho.block _ (by simp; omega) (by simp; omega)).trans ((Below.heap_alloc _ _ _ hBl).trans hB)
        have hbn : Below base w w5 := (hbk.alloc hbwk _).trans (Only.below (Below.refl _ _) ho hg (by simp; omega))
        clear hT hI ho hr
        go_wp2
        go_roundw
        case rel => exact ⟨2, r.2.1, r.2.2, by omega, rfl, hr2, hP2, hBn, hyn, hbn⟩
        case measure => simp [intOf]
    · obtain rfl : k = 2 := by omega
      obtain ⟨rfl, rfl⟩ : qk = q3 ∧ fk = f3 := by have := hP.out; simpa [pl] using this
      have a1 := and1023 u (by omega) (by omega)
      have a2 := and1023 u4 (by omega) (by omega)
      obtain ⟨U, hU⟩ : ∃ U, 65536 + u % 1024 * 1024 + u4 % 1024 = U := ⟨_, rfl⟩
      have b1 : IntKind.i64.wrap (u % 1024 * 1024) = u % 1024 * 1024 := wraps_i64 _ (by omega) (by omega)
      have b2 : IntKind.i64.wrap (65536 + u % 1024 * 1024) = 65536 + u % 1024 * 1024 := wraps_i64 _ (by omega) (by omega)
      have b3 : IntKind.i64.wrap (65536 + u % 1024 * 1024 + u4 % 1024) = U := by rw [wraps_i64 _ (by omega) (by omega), hU]
      rw [hU]
      go_wp2_with (fail)
      refine (unit_any g s qk v fk true wr hyk.at' hqk hz).mono ?_
      rw [HD.out]
      rintro en w3 ⟨rfl, hI, ho⟩
      dsimp only at hI
      have hy4 : Sy w3 base g s q4 f4 v xs := hyk.only ho hI
      have hb3 : Below base w w3 := hbk.trans (Only.below (Below.refl _ _) ho hg hbwk)
      have hbw3 := Nat.le_trans hb hb3.size
      clear hI ho hB hBl hP
      have es : (enc U).size ≤ 4 := by have := enc_size U; omega
      have ec := enc_cells U
      have hy3 := hy4.drew
      have c2 := hy4.at'.c2
      go_wp2_with (fail)
      go_region_law (first
        | (refine step_append_str rfl (.tmp 60) (.tmp 62) rfl base v xs.length (xs.map (Value.int .u8)) (by simp [Act.eval]) hy5.row (enc U) (by simp [Act.eval]) (by omega) hbw5 ?_; intro v6 n6 w6 hn6 hown6 hgrow6; clear hn6; rw [ec, ← List.map_append] at hown6; obtain ⟨a6, cap6, rfl⟩ := ownsRow_slice hown6; obtain ⟨hx, hy7, hb7⟩ := hy5.appendedS hbw5 hg hown6 hgrow6; have c2 := hx.c2; have fz2 := hx.fz 2)
        | (go_simp; go_at_call 28; refine (encode_any U _).mono ?_; rintro en w5 ⟨rfl, hb5⟩; have hy5 := hy3.below hb5; have c2 := hy5.at'.c2; have hbw5 := Nat.le_trans hbw3 hb5.size))
      all_goals (go_end0; rw [hU]; exact ⟨rfl, ⟨_, hy7⟩, (hb3.trans ((Below.refl base w3).drew.trans (Below.mono hb5 hbw3))).trans hb7⟩)
/-- escape, whole. -/
theorem escape_any (base g : Nat) (s : ByteArray) (p : Nat) (e : Int) (v : Value) (xs : List Int) (w : World) (h : Sy w base g s p e v xs) (hp : p ≤ s.size) (hz : s.size ≤ 4611686018427387904) (hb : base ≤ w.heap.size) (hg : base ≤ g)
    (hl : xs.length ≤ 140737488355320) : Calls Try.prog 57 #[.pointer (some ⟨g, 0, none⟩)] w (EscPost base g s xs (escF s p e) w) := by
  by_cases hc : (nx s escIs p e).1 ≠ 117
  · have : escF s p e = ([unl letterPairs (nx s escIs p e).1], (nx s escIs p e).2.1, (nx s escIs p e).2.2) := by unfold escF; exact if_pos hc
    rw [this]
    exact escape_letter base g s p e v xs w h hp hz hb hg hl hc
  · obtain ⟨c, q, f, hr⟩ : ∃ c q f, nx s escIs p e = (c, q, f) := ⟨_, _, _, rfl⟩
    rw [hr] at hc
    obtain rfl : c = 117 := by simpa using hc
    obtain ⟨u, q2, f2, ha⟩ : ∃ u q2 f2, unitF s false q f = (u, q2, f2) := ⟨_, _, _, rfl⟩
    by_cases hu : u / 1024 = 54
    · obtain ⟨q3, f3, hpl⟩ : ∃ q3 f3, pl s [92, 117] q2 f2 = (q3, f3) := ⟨_, _, rfl⟩
      obtain ⟨u4, q4, f4, hd⟩ : ∃ u4 q4 f4, unitF s true q3 f3 = (u4, q4, f4) := ⟨_, _, _, rfl⟩
      have : escF s p e = (encL (65536 + u % 1024 * 1024 + u4 % 1024), q4, f4) := by
        have h1 : (nx s (fun c => c == 117) (nx s (fun c => c == 92) q2 f2).2.1 (nx s (fun c => c == 92) q2 f2).2.2).2 = (q3, f3) := hpl
        unfold escF
        simp only [hr, ha]
        rw [if_neg (by simp), if_pos hu]
        rw [h1]
        dsimp only
        rw [hd]
      rw [this]
      exact escape_pair base g s p e v xs w h hp hz hb hg hl q f hr u q2 f2 ha hu q3 f3 hpl u4 q4 f4 hd
    · have : escF s p e = (encL u, q2, f2) := by
        unfold escF
        simp only [hr, ha]
        rw [if_neg (by simp), if_neg hu]
      rw [this]
      exact escape_plain base g s p e v xs w h hp hz hb hg hl q f hr u q2 f2 ha hu
end Go.Proofs.Ytlbokaekhjjabaa

/-
  esc's scan: what Scan does, without Go; bounds.
-/
namespace Go.Proofs.Ytlbokaekhjjabaa
open Go.RowKit
set_option linter.unusedVariables false

def ge32 (c : Int) : Bool := decide (32 ≤ c)
/-- The text from a place on. -/
def sub (s : ByteArray) (p : Nat) : ByteArray := s.extract p s.size
/-- How many bytes stand as they are, and what is wrong behind them. -/
def plainN (s : ByteArray) (p : Nat) : Nat × Int := if (pt (sub s p)).2 = 0 then ((chk (sub s p)).1.toNat, (chk (sub s p)).2) else ((pt (sub s p)).2.toNat, 0)
def bytesOf (s : ByteArray) (p n : Nat) : List Int := (s.extract p (p + n)).data.toList.map fun b => (b.toNat : Int)
/-- The rounds of Scan: what it tells. -/
def scn (s : ByteArray) : Nat → Nat → Int → List Int → List Int × Nat × Int
  | 0, p, e, _ => ([], p, e)
  | k + 1, p, e, out =>
    if e ≠ 0 then ([], p, e)
    else if (nx s ge32 p 0).2.2 ≠ 0 then ([], (nx s ge32 p 0).2.1, (nx s ge32 p 0).2.2)
    else if (nx s ge32 p 0).1 = 34 then (out, (nx s ge32 p 0).2.1, 0)
    else if (nx s ge32 p 0).1 = 92 then scn s k (escF s (nx s ge32 p 0).2.1 0).2.1 (escF s (nx s ge32 p 0).2.1 0).2.2 (out ++ (escF s (nx s ge32 p 0).2.1 0).1)
    else scn s k (p + (plainN s p).1) (plainN s p).2 (out ++ bytesOf s p (plainN s p).1)
/-- How far a scan is. -/
def left (s : ByteArray) (p : Nat) (e : Int) : Nat := 2 * (s.size - p) + if e = 0 then 1 else 0
def scanF (s : ByteArray) : List Int × Nat × Int :=
  let r := nx s (fun c => c == 34) 0 0
  scn s (2 * s.size + 2) r.2.1 r.2.2 []

theorem nx_ok {s : ByteArray} {is : Int → Bool} {p : Nat} {e : Int} (h : (nx s is p e).2.2 = 0) : e = 0 ∧ p < s.size ∧ is (byteAt s p) = true ∧ nx s is p e = (byteAt s p, p + 1, 0) := by
  unfold nx at h ⊢
  by_cases he : e ≠ 0
  · rw [if_pos he] at h; exact absurd h he
  · rw [if_neg he] at h ⊢
    by_cases hp : p < s.size
    · rw [if_pos hp] at h ⊢
      by_cases hi : is (byteAt s p) = true
      · rw [if_pos hi]; exact ⟨by omega, hp, hi, rfl⟩
      · rw [if_neg hi] at h; simp at h
    · rw [if_neg hp] at h; simp at h
theorem nx_mono (s : ByteArray) (is : Int → Bool) (p : Nat) (e : Int) : p ≤ (nx s is p e).2.1 ∧ (nx s is p e).2.1 ≤ p + 1 := by
  unfold nx; repeat' split
  all_goals simp
theorem unitL_ok (s : ByteArray) (low : Bool) (k : Nat) : ∀ (i u : Int) (p : Nat) (e : Int), p ≤ (unitL s low k i u p e).2.1 ∧ ((unitL s low k i u p e).2.2 = 0 → e = 0 ∧ (unitL s low k i u p e).2.1 = p + k) := by
  induction k with
  | zero => intro i u p e; exact ⟨Nat.le_refl _, fun h => ⟨h, rfl⟩⟩
  | succ k ih =>
    intro i u p e
    have h1 := ih (i + 1) (u * 16 + max (dig (nx s (unitIs low i u) p e).1) 0) (nx s (unitIs low i u) p e).2.1 (nx s (unitIs low i u) p e).2.2
    have h2 := nx_mono s (unitIs low i u) p e
    refine ⟨Nat.le_trans h2.1 h1.1, fun h => ?_⟩
    have h3 := h1.2 h
    have h4 := nx_ok h3.1
    refine ⟨h4.1, ?_⟩
    have h5 := h3.2
    rw [h4.2.2.2] at h5
    show (unitL s low k (i + 1) (u * 16 + max (dig (nx s (unitIs low i u) p e).1) 0) (nx s (unitIs low i u) p e).2.1 (nx s (unitIs low i u) p e).2.2).2.1 = _
    rw [h4.2.2.2]
    rw [h5]; dsimp only; omega
theorem unitF_ok (s : ByteArray) (low : Bool) (p : Nat) (e : Int) : p ≤ (unitF s low p e).2.1 ∧ ((unitF s low p e).2.2 = 0 → e = 0 ∧ (unitF s low p e).2.1 = p + 4) := unitL_ok s low 4 0 0 p e

/-- What escape tells: at most four bytes; where nothing errs, it has read at least as many and one more. -/
theorem escF_ok (s : ByteArray) (p : Nat) (e : Int) (hp : p ≤ s.size) : p ≤ (escF s p e).2.1 ∧ (escF s p e).2.1 ≤ s.size ∧ (escF s p e).1.length ≤ 4 ∧ ((escF s p e).2.2 = 0 → p + 1 ≤ (escF s p e).2.1 ∧ (escF s p e).1.length ≤ (escF s p e).2.1 - p) := by
  have a1 := nx_mono s escIs p e
  have a2 := nx_at s escIs p e hp
  unfold escF
  by_cases hc : (nx s escIs p e).1 ≠ 117
  · rw [if_pos hc]
    refine ⟨a1.1, a2, by simp, fun h => ?_⟩
    have h3 := nx_ok h
    rw [h3.2.2.2]
    simp
  · rw [if_neg hc]
    have b1 := unitF_ok s false (nx s escIs p e).2.1 (nx s escIs p e).2.2
    have b2 := unitF_at s false (nx s escIs p e).2.1 (nx s escIs p e).2.2 a2
    dsimp only
    obtain ⟨a, ha⟩ : ∃ a, unitF s false (nx s escIs p e).2.1 (nx s escIs p e).2.2 = a := ⟨_, rfl⟩
    rw [ha] at b1 b2 ⊢
    by_cases hu : a.1 / 1024 = 54
    · rw [if_pos hu]
      have c1 := nx_mono s (fun c => c == 92) a.2.1 a.2.2
      have c2 := nx_at s (fun c => c == 92) a.2.1 a.2.2 b2
      obtain ⟨b, hb⟩ : ∃ b, nx s (fun c => c == 92) a.2.1 a.2.2 = b := ⟨_, rfl⟩
      rw [hb] at c1 c2 ⊢
      have d1 := nx_mono s (fun c => c == 117) b.2.1 b.2.2
      have d2 := nx_at s (fun c => c == 117) b.2.1 b.2.2 c2
      obtain ⟨c, hc'⟩ : ∃ c, nx s (fun c => c == 117) b.2.1 b.2.2 = c := ⟨_, rfl⟩
      rw [hc'] at d1 d2 ⊢
      have e1 := unitF_ok s true c.2.1 c.2.2
      have e2 := unitF_at s true c.2.1 c.2.2 d2
      obtain ⟨d, hd⟩ : ∃ d, unitF s true c.2.1 c.2.2 = d := ⟨_, rfl⟩
      rw [hd] at e1 e2 ⊢
      have l := (enc_size (65536 + a.1 % 1024 * 1024 + d.1 % 1024)).2
      dsimp only
      refine ⟨by omega, e2, l, fun h => ?_⟩
      have := (e1.2 h).2
      omega
    · rw [if_neg hu]
      have l := (enc_size a.1).2
      dsimp only
      refine ⟨by omega, b2, l, fun h => ?_⟩
      have := (b1.2 h).2
      omega

theorem chkL_bound (l : List UInt8) : ∀ (st : St) (i : Int), ∃ m : Nat, m ≤ l.length ∧ (chkL l st i).1 = i + m ∧ ((chkL l st i).2 = 0 → m = l.length) ∧ ((chkL l st i).2 = 0 ∨ (chkL l st i).2 = 3 ∨ (chkL l st i).2 = 4) := by
  induction l with
  | nil => intro st i; refine ⟨0, by simp, ?_, ?_, ?_⟩ <;> simp only [chkL] <;> split <;> simp
  | cons c t ih =>
    intro st i
    simp only [chkL]
    cases stp st c.toNat (-1) with
    | none => exact ⟨0, by simp, by simp, by simp, by simp⟩
    | some st' =>
      obtain ⟨m, h1, h2, h3, h4⟩ := ih st' (i + 1)
      exact ⟨m + 1, by simp; omega, by rw [h2]; omega, fun h => by rw [h3 h]; simp, h4⟩
theorem sub_size (s : ByteArray) (p : Nat) : (sub s p).size = s.size - p := by unfold sub; rw [ByteArray.size_extract]; omega
theorem plainN_ok (s : ByteArray) (p : Nat) (hp : p < s.size) : p + (plainN s p).1 ≤ s.size ∧ ((plainN s p).2 = 0 → 1 ≤ (plainN s p).1) ∧ ((plainN s p).2 = 0 ∨ (plainN s p).2 = 3 ∨ (plainN s p).2 = 4) := by
  have hz := sub_size s p
  have hl : (sub s p).data.toList.length = (sub s p).size := by rw [Array.length_toList]; rfl
  unfold plainN
  by_cases h : (pt (sub s p)).2 = 0
  · rw [if_pos h]
    obtain ⟨m, h1, h2, h3, h4⟩ := chkL_bound (sub s p).data.toList st0 0
    unfold chk
    rw [h2]
    refine ⟨by dsimp only; omega, fun h => ?_, h4⟩
    have := h3 h
    dsimp only; omega
  · rw [if_neg h]
    rcases enc_pt (sub s p).data.toList with h1 | ⟨x, t, h1, h2, h3, _⟩
    · exact absurd (show (pt (sub s p)).2 = 0 from by unfold pt; rw [h1]) h
    · have h4 : (pt (sub s p)).2 = x.length := h2
      have h5 := congrArg List.length h1
      rw [List.length_append] at h5
      rw [h4]
      refine ⟨by dsimp only; omega, fun _ => by dsimp only; omega, .inl rfl⟩
theorem bytesOf_len (s : ByteArray) (p n : Nat) (h : p + n ≤ s.size) : (bytesOf s p n).length = n := by
  unfold bytesOf
  rw [List.length_map, Array.length_toList]
  show (s.extract p (p + n)).size = n
  rw [ByteArray.size_extract]; omega
end Go.Proofs.Ytlbokaekhjjabaa

/-
  esc's scan: the walk of Scan.
-/
namespace Go.Proofs.Ytlbokaekhjjabaa
open Go.RowKit Go.Proofs.YtlbokaekhjjabaaW.PrintWords Go.Proofs.YtlbokaekhjjabaaW.PrintLast Go.Proofs.YtlbokaekhjjabaaW.PrintMore
set_option linter.unusedVariables false

/-- How far the scan in block g is. -/
def gone (s : ByteArray) (g : Nat) (W : World) : Nat :=
  match W.cell? ⟨g, 1, none⟩, W.cell? ⟨g, 3, none⟩ with
  | some (.int _ p), some (.int _ e) => left s p.toNat e
  | _, _ => 0
theorem Sx.gone {W : World} {g : Nat} {s : ByteArray} {p : Nat} {v : Value} {e : Int} (h : Sx W g s p v e) : gone s g W = left s p e := by
  unfold Ytlbokaekhjjabaa.gone; rw [h.c1, h.c3]; simp

theorem conv_row {W : World} {base : Nat} {v : Value} {n : Nat} {xs : List Int} (h : W.ownsRow base 5 1 v n (xs.map (Value.int .u8))) (k : Nat) : (convert 28 9 v).run Try.prog (W.drewN k) = .ok (.string (strOfNums xs)) (W.drewN k) := by
  have h' : (W.drewN k).ownsRow base 5 1 v n (xs.map (Value.int .u8)) := World.ownsRow.kept h (row := none) ⟨rfl, rfl, rfl, Nat.le_refl _, fun _ _ _ => rfl⟩ (by cases hv : v.ownBlock with | none => exact .inl rfl | some b => exact .inr (by simp))
  rcases h.2 with ⟨rfl, hn⟩ | ⟨b, cap, cur, rfl, _⟩
  · have hx : xs = [] := by
      have := ownsRow_len h
      exact List.length_eq_zero_iff.1 (by omega)
    subst hx
    exact run_convert_bytes_nil (w := W.drewN k) 28 5 Try.underlying28 Try.underlying5 _ _ 9 Try.underlying9
  · exact conv_own h'

def ScanPost (r : List Int × Nat × Int) (w : World) (en : Ending) (w' : World) : Prop := en = .returned (.tuple #[.string (strOfNums r.1), .int .i64 (r.2.1 : Int), .int .i64 r.2.2]) ∧ Below w.heap.size w w'

theorem scn_end (s : ByteArray) (k p : Nat) (e : Int) (out : List Int) (h : e ≠ 0) : scn s (k + 1) p e out = ([], p, e) := by simp only [scn]; rw [if_pos h]

theorem scn_err {s : ByteArray} {k p q : Nat} {c f : Int} {out : List Int} (h : nx s ge32 p 0 = (c, q, f)) (hf : f ≠ 0) : scn s (k + 1) p 0 out = ([], q, f) := by
  simp only [scn]; rw [h, if_neg (by omega), if_pos hf]
theorem scn_quote {s : ByteArray} {k p q : Nat} {out : List Int} (h : nx s ge32 p 0 = (34, q, 0)) : scn s (k + 1) p 0 out = (out, q, 0) := by
  simp only [scn]; rw [h, if_neg (by omega), if_neg (by simp), if_pos rfl]
theorem scn_slash {s : ByteArray} {k p q : Nat} {out : List Int} (h : nx s ge32 p 0 = (92, q, 0)) : scn s (k + 1) p 0 out = scn s k (escF s q 0).2.1 (escF s q 0).2.2 (out ++ (escF s q 0).1) := by
  simp only [scn]; rw [h, if_neg (by omega), if_neg (by simp), if_neg (by simp), if_pos rfl]
theorem scn_plain {s : ByteArray} {k p q : Nat} {c : Int} {out : List Int} (h : nx s ge32 p 0 = (c, q, 0)) (h1 : c ≠ 34) (h2 : c ≠ 92) : scn s (k + 1) p 0 out = scn s k (p + (plainN s p).1) (plainN s p).2 (out ++ bytesOf s p (plainN s p).1) := by
  simp only [scn]; rw [h, if_neg (by omega), if_neg (by simp), if_neg h1, if_neg h2]

theorem escF_mono (s : ByteArray) (p : Nat) (e : Int) : p ≤ (escF s p e).2.1 := by
  have a1 := nx_mono s escIs p e
  unfold escF
  by_cases hc : (nx s escIs p e).1 ≠ 117
  · rw [if_pos hc]; exact a1.1
  · rw [if_neg hc]
    have b1 := (unitF_ok s false (nx s escIs p e).2.1 (nx s escIs p e).2.2).1
    dsimp only
    obtain ⟨a, ha⟩ : ∃ a, unitF s false (nx s escIs p e).2.1 (nx s escIs p e).2.2 = a := ⟨_, rfl⟩
    rw [ha] at b1 ⊢
    by_cases hu : a.1 / 1024 = 54
    · rw [if_pos hu]
      have c1 := (nx_mono s (fun c => c == 92) a.2.1 a.2.2).1
      obtain ⟨b, hb⟩ : ∃ b, nx s (fun c => c == 92) a.2.1 a.2.2 = b := ⟨_, rfl⟩
      rw [hb] at c1 ⊢
      have d1 := (nx_mono s (fun c => c == 117) b.2.1 b.2.2).1
      obtain ⟨c, hc'⟩ : ∃ c, nx s (fun c => c == 117) b.2.1 b.2.2 = c := ⟨_, rfl⟩
      rw [hc'] at d1 ⊢
      have e1 := (unitF_ok s true c.2.1 c.2.2).1
      dsimp only
      omega
    · rw [if_neg hu]
      dsimp only
      omega
theorem scn_mono (s : ByteArray) (k : Nat) : ∀ (p : Nat) (e : Int) (out : List Int), p ≤ (scn s k p e out).2.1 := by
  induction k with
  | zero => intro p e out; exact Nat.le_refl _
  | succ k ih =>
    intro p e out
    have a1 := nx_mono s ge32 p 0
    simp only [scn]
    by_cases h1 : e ≠ 0
    · rw [if_pos h1]; exact Nat.le_refl _
    rw [if_neg h1]
    by_cases h2 : (nx s ge32 p 0).2.2 ≠ 0
    · rw [if_pos h2]; exact a1.1
    rw [if_neg h2]
    by_cases h3 : (nx s ge32 p 0).1 = 34
    · rw [if_pos h3]; exact a1.1
    rw [if_neg h3]
    by_cases h4 : (nx s ge32 p 0).1 = 92
    · rw [if_pos h4]
      have h5 := ih (escF s (nx s ge32 p 0).2.1 0).2.1 (escF s (nx s ge32 p 0).2.1 0).2.2 (out ++ (escF s (nx s ge32 p 0).2.1 0).1)
      have h6 := escF_mono s (nx s ge32 p 0).2.1 0
      omega
    · rw [if_neg h4]
      have h5 := ih (p + (plainN s p).1) (plainN s p).2 (out ++ bytesOf s p (plainN s p).1)
      omega

set_option maxHeartbeats 8000000 in
set_option maxRecDepth 100000 in
theorem scan_any (s : ByteArray) (w : World) (hz : s.size ≤ 4611686018427387904) (hfin : (scanF s).2.1 ≤ 140737488351232) : Calls Try.prog 37 #[.string s] w (ScanPost (scanF s) w) := by
  have hsx : ∀ W : World, Sx (W.alloc (.cells #[.string s, .int .i64 0, .slice none 0 0, .int .i64 0] 89)) W.heap.size s ((0 : Nat) : Int) (.slice none 0 0) 0 := fun W => heap_alloc_new _ _
  go_enter Try.func37, Try.ntmps37
  go_wp2_with (fail)
  refine (next_any w.heap.size s 0 (.slice none 0 0) 0 55 #[] (fun c => c == 34) _ (hsx w) (by omega) (by omega) cf55 (is55 _ _)).mono ?_
  obtain ⟨r, hr⟩ : ∃ r, nx s (fun c => c == 34) 0 0 = r := ⟨_, rfl⟩
  have hrp := nx_at s (fun c => c == 34) 0 0 (by omega)
  have hrF : Hid (scanF s = scn s (2 * s.size + 2) r.2.1 r.2.2 []) := by show scanF s = _; unfold scanF; rw [hr]
  rw [hr] at hrp ⊢
  rintro en w1 ⟨rfl, hI, ho⟩
  have hy1 : Sy w1 w.heap.size w.heap.size s r.2.1 r.2.2 (.slice none 0 0) [] := ⟨hI, ⟨rfl, .inl ⟨rfl, rfl⟩⟩⟩
  have hb1 : Below w.heap.size w w1 := Only.below ((Below.refl _ _).alloc (Nat.le_refl _) _) ho (Nat.le_refl _) (by simp)
  clear hI ho hr
  go_wp2_with (fail)
  go_loopw [6] (fun x wr => ∃ (k p : Nat) (e : Int) (v : Value) (xs : List Int), Hid (left s p e < k) ∧ p ≤ s.size ∧ Hid (scanF s = scn s k p e xs) ∧ Hid (xs.length ≤ p + 4) ∧ Hid (e = 0 → xs.length ≤ p) ∧ Sy wr w.heap.size w.heap.size s p e v xs ∧ Below w.heap.size w wr) (fun x wr => gone s w.heap.size wr)
  case atStart => exact ⟨2 * s.size + 2, r.2.1, r.2.2, _, [], by show left s r.2.1 r.2.2 < _; unfold left; split <;> omega, hrp, hrF, by show _ ≤ _; simp, by show _ → _; simp, hy1, hb1⟩
  case round =>
    obtain ⟨k, p, e, v, xs, hk, hp, hF, hx4, hx0, hy, hb⟩ := hrel
    have hgo := hy.at'.gone
    have hbw := hb.size
    have hpf : p ≤ 140737488351232 := by have := scn_mono s k p e xs; rw [← hF.out] at this; omega
    have c3 := hy.at'.c3
    obtain ⟨k', rfl⟩ : ∃ k', k = k' + 1 := ⟨k - 1, by have := hk.out; omega⟩
    by_cases he : e = 0
    · subst he
      have hxp := hx0.out rfl
      obtain ⟨c, q, f, hr⟩ : ∃ c q f, nx s ge32 p 0 = (c, q, f) := ⟨_, _, _, rfl⟩
      have hq := nx_at s ge32 p 0 hp
      have hq1 := nx_mono s ge32 p 0
      have hcb := nx_byte s ge32 p 0
      rw [hr] at hq hq1 hcb
      dsimp only at hq hq1 hcb
      go_wp2_with (fail)
      refine (next_any w.heap.size s p v 0 56 #[] ge32 wr hy.at' hp (by omega) cf56 (is56 _ _)).mono ?_
      rw [hr]
      rintro en w2 ⟨rfl, hI, ho⟩
      dsimp only at hI
      have hy2 : Sy w2 w.heap.size w.heap.size s q f v xs := hy.only ho hI
      have hb2 : Below w.heap.size w w2 := Only.below hb ho (Nat.le_refl _) hbw
      have hbw2 := hb2.size
      have c1 := hy2.at'.c1
      have c3 := hy2.at'.c3
      clear hI ho
      by_cases hf : f = 0
      · subst hf
        have hok := nx_ok (s := s) (is := ge32) (p := p) (e := 0) (by rw [hr])
        rw [hr] at hok
        obtain ⟨_, hps, _, hre⟩ := hok
        simp only [Prod.mk.injEq] at hre
        obtain ⟨hcv, rfl, _⟩ := hre
        by_cases h34 : c = 34
        · subst h34
          have hFe : Hid (scanF s = (xs, p + 1, 0)) := by show scanF s = _; rw [hF.out, scn_quote hr]
          have c2 := hy2.at'.c2
          have hcv := conv_row hy2.row
          go_wp2
          go_quiet (fail)
          go_wp2
          go_ret3
          exact ⟨by rw [hFe.out]; rfl, pw_below_drewN hb2 _⟩
        · have t34 : (c == 34) = false := by simpa using h34
          by_cases h92 : c = 92
          · subst h92
            have hFe : Hid (scanF s = scn s k' (escF s (p + 1) 0).2.1 (escF s (p + 1) 0).2.2 (xs ++ (escF s (p + 1) 0).1)) := by show scanF s = _; rw [hF.out, scn_slash hr]
            have hok := escF_ok s (p + 1) 0 hq
            obtain ⟨ys, q2, f2, hes⟩ : ∃ ys q2 f2, escF s (p + 1) 0 = (ys, q2, f2) := ⟨_, _, _, rfl⟩
            go_wp2_with (fail)
            refine (escape_any w.heap.size w.heap.size s (p + 1) 0 v xs w2 hy2 hq (by omega) hbw2 (Nat.le_refl _) (by omega)).mono ?_
            rw [hes] at hFe hok ⊢
            dsimp only at hFe hok
            rintro en w3 ⟨rfl, ⟨v3, hy3⟩, hb3⟩
            dsimp only at hy3
            have hgn := hy3.at'.gone
            have hle : left s q2 f2 < left s p 0 := by
              unfold left; rw [if_pos rfl]; split
              · rename_i h; have := hok.2.2.2 h; omega
              · omega
            go_wp2
            refine ⟨⟨k', q2, f2, v3, xs ++ ys, by show left s q2 f2 < k'; have := hk.out; omega, hok.2.1, hFe, by show _ ≤ _; rw [List.length_append]; omega, fun h => by have := hok.2.2.2 h; rw [List.length_append]; omega, hy3, hb2.trans hb3⟩, ?_⟩
            rw [hgo, hgn]
            exact hle
          · have t92 : (c == 92) = false := by simpa using h92
            have hFe : Hid (scanF s = scn s k' (p + (plainN s p).1) (plainN s p).2 (xs ++ bytesOf s p (plainN s p).1)) := by show scanF s = _; rw [hF.out, scn_plain hr h34 h92]
            have hok := plainN_ok s p hps
            have hw1 : IntKind.i64.wrap (((p + 1 : Nat) : Int) - 1) = (p : Int) := by rw [IntKind.wrap_i64]; omega
            have f1 := hy2.at'.fz 1
            have h5 := hy2.at'.at' (p : Int)
            have d1 := h5.c1
            have d3 := h5.c3
            have hsz := sub_size s p
            obtain ⟨pc, pn, hpt⟩ : ∃ pc pn, pt (sub s p) = (pc, pn) := ⟨_, _, rfl⟩
            go_wp2_with (fail)
            refine (point_any (sub s p) _ (by omega)).mono ?_
            rw [hpt]
            rintro en w3 ⟨rfl, hb3⟩
            dsimp only
            have h6 := h5.below hb3
            have hbs : Below w.heap.size w (w2.setCell ⟨w.heap.size, 1, none⟩ (.int .i64 p)) := hb2.setCell (p := ⟨w.heap.size, 1, none⟩) (Nat.le_refl _) _
            have hb3' : Below w.heap.size w w3 := hbs.trans (hb3.mono hbs.size)
            have hr3 : w3.ownsRow w.heap.size 5 1 v xs.length (xs.map (Value.int .u8)) := World.ownsRow.kept (ownsRow_setCell_other hy2.row (hy2.at'.not_row hy2.row) _) (Only.of (g := w.heap.size) hb3) (.inr (hy2.at'.not_row hy2.row))
            have hy3 : Sy w3 w.heap.size w.heap.size s p 0 v xs := ⟨h6, hr3⟩
            clear h6 hr3 hb3 hbs h5 d1 d3 c1 c3 f1
            by_cases hn0 : pn = 0
            · subst hn0
              obtain ⟨cn, e6, hck⟩ : ∃ cn e6, chk (sub s p) = (cn, e6) := ⟨_, _, rfl⟩
              obtain ⟨m, hm1, hm2, hm3, hm4⟩ := chkL_bound (sub s p).data.toList st0 0
              obtain rfl : cn = (m : Int) := by
                have : (chkL (sub s p).data.toList st0 0) = (cn, e6) := hck
                rw [this] at hm2; dsimp only at hm2; omega
              have c1 := hy3.at'.c1
              have f3 := hy3.at'.fz 3
              go_wp2_with (fail)
              refine (check_any (sub s p) _ (by omega)).mono ?_
              rw [hck]
              rintro en w4 ⟨rfl, hb4⟩
              dsimp only
              have hy4 := hy3.below hb4
              have hb4' : Below w.heap.size w w4 := hb3'.trans (hb4.mono hb3'.size)
              have g3 := hy4.at'.fz 3
              have k3 := hy4.at'.c3
              have hy6 : Sy (w4.setCell ⟨w.heap.size, 3, none⟩ (.int .i64 e6)) w.heap.size w.heap.size s p e6 v xs := ⟨hy4.at'.err' e6, ownsRow_setCell_other hy4.row (hy4.at'.not_row hy4.row) _⟩
              have hb6 : Below w.heap.size w (w4.setCell ⟨w.heap.size, 3, none⟩ (.int .i64 e6)) := hb4'.setCell (p := ⟨w.heap.size, 3, none⟩) (Nat.le_refl _) _
              clear hb4 hm1 hm2 hm3 hm4
              have hpl : plainN s p = (m, e6) := by unfold plainN; rw [hpt, if_pos rfl, hck]; simp
              rw [hpl] at hok hFe
              dsimp only at hok hFe
              have c1 := hy6.at'.c1
              have c2 := hy6.at'.c2
              obtain ⟨t, ht⟩ : ∃ t, p + m = t := ⟨_, rfl⟩
              have hw2 : IntKind.i64.wrap ((p : Int) + (m : Int)) = (t : Int) := by rw [IntKind.wrap_i64]; omega
              have hs1 : (t : Int) ≤ (s.size : Int) := by omega
              have hs2 : (p : Int) ≤ (t : Int) := by omega
              go_wp2_with (fail)
              generalize w4.setCell ⟨w.heap.size, 3, none⟩ (.int .i64 e6) = W6 at hy6 hb6 c1 c2 ⊢
              have hyD := hy6.drew
              have hbwD : w.heap.size ≤ W6.drew.heap.size := hb6.size
              have hex : (s.extract p t).size = m := by rw [ByteArray.size_extract]; omega
              have hle2 : xs.length + (s.extract p t).size ≤ 140737488355328 := by
                have := scn_mono s k' (p + m) e6 (xs ++ bytesOf s p m)
                rw [← hFe.out] at this
                rw [hex]; omega
              have hLE := Lib.hid hle2
              have EC := Lib.hid (show Lib.strCells (s.extract p t) = (bytesOf s p m).map (Value.int .u8) by unfold Lib.strCells bytesOf; rw [List.map_map, ht]; rfl)
              clear hex hle2
              have HT := Lib.hid ht
              go_region_law (refine step_append_str rfl (.tmp 57) (.tmp 69) rfl w.heap.size v xs.length (xs.map (Value.int .u8)) rfl hyD.row (s.extract p t) rfl hLE.out hbwD ?_; intro v7 n7 w7 hn7 hown7 hgrow7; clear hn7; rw [EC.out, ← List.map_append] at hown7; obtain ⟨a7, cap7, rfl⟩ := ownsRow_slice hown7; obtain ⟨hx7, hy8, hb8⟩ := hyD.appendedS hbwD (Nat.le_refl _) hown7 hgrow7; have c2' := hx7.c2; have fz2 := hx7.fz 2)
              all_goals
                have q1 := hy8.at'.c1
                have z1 := hy8.at'.fz 1
                have hrow9 := ownsRow_setCell_other hy8.row (hy8.at'.not_row hy8.row) (a := ⟨w.heap.size, 1, none⟩) (.int .i64 t)
                have hx9 := hy8.at'.at' (t : Int)
                have hgn := hx9.gone
                have hb9 : Below w.heap.size w ((w7.setCell ⟨w.heap.size, 2, none⟩ (.slice a7 n7 cap7)).setCell ⟨w.heap.size, 1, none⟩ (.int .i64 t)) := (hb6.trans ((Below.refl _ _).drew.trans hb8)).setCell (p := ⟨w.heap.size, 1, none⟩) (Nat.le_refl _) _
                have hbl := bytesOf_len s p m hok.1
                have hle : left s t e6 < left s p 0 := by
                  unfold left; rw [if_pos rfl]; split
                  · rename_i h; have := hok.2.1 h; have := HT.out; omega
                  · have := HT.out; omega
                go_wp2
                refine ⟨⟨k', t, e6, _, xs ++ bytesOf s p m, by show left s t e6 < k'; have := hk.out; omega, by omega, by rw [HT.out] at hFe; exact hFe, by show _ ≤ _; rw [List.length_append]; have := HT.out; omega, fun h => by rw [List.length_append]; have := HT.out; omega, ⟨hx9, hrow9⟩, hb9⟩, ?_⟩
                rw [hgo, hgn]
                exact hle
            · obtain ⟨m, rfl⟩ : ∃ m : Nat, pn = (m : Int) := by
                rcases enc_pt (sub s p).data.toList with h1 | ⟨x, t, h1, h2, h3, _⟩
                · exact absurd (show pn = 0 from by have : (pt (sub s p)) = (0, 0) := h1; rw [hpt] at this; exact (Prod.mk.inj this).2) hn0
                · have h4 : (pt (sub s p)).2 = x.length := h2
                  rw [hpt] at h4
                  exact ⟨x.length, h4⟩
              have hn1 : ((m : Int) == 0) = false := by simpa using hn0
              have hy6 := hy3
              have hb6 := hb3'
              have hpl : plainN s p = (m, 0) := by unfold plainN; rw [hpt, if_neg hn0]; simp
              rw [hpl] at hok hFe
              dsimp only at hok hFe
              have c1 := hy6.at'.c1
              have c2 := hy6.at'.c2
              obtain ⟨t, ht⟩ : ∃ t, p + m = t := ⟨_, rfl⟩
              have hw2 : IntKind.i64.wrap ((p : Int) + (m : Int)) = (t : Int) := by rw [IntKind.wrap_i64]; omega
              have hs1 : (t : Int) ≤ (s.size : Int) := by omega
              have hs2 : (p : Int) ≤ (t : Int) := by omega
              go_wp2_with (fail)
              have hy6' := hy6
              have hyD := hy6.drew
              have hbwD : w.heap.size ≤ w3.drew.heap.size := hb6.size
              have hex : (s.extract p t).size = m := by rw [ByteArray.size_extract]; omega
              have hle2 : xs.length + (s.extract p t).size ≤ 140737488355328 := by
                have := scn_mono s k' (p + m) 0 (xs ++ bytesOf s p m)
                rw [← hFe.out] at this
                rw [hex]; omega
              have hLE := Lib.hid hle2
              have EC := Lib.hid (show Lib.strCells (s.extract p t) = (bytesOf s p m).map (Value.int .u8) by unfold Lib.strCells bytesOf; rw [List.map_map, ht]; rfl)
              clear hex hle2
              have HT := Lib.hid ht
              go_region_law (refine step_append_str rfl (.tmp 57) (.tmp 69) rfl w.heap.size v xs.length (xs.map (Value.int .u8)) rfl hyD.row (s.extract p t) rfl hLE.out hbwD ?_; intro v7 n7 w7 hn7 hown7 hgrow7; clear hn7; rw [EC.out, ← List.map_append] at hown7; obtain ⟨a7, cap7, rfl⟩ := ownsRow_slice hown7; obtain ⟨hx7, hy8, hb8⟩ := hyD.appendedS hbwD (Nat.le_refl _) hown7 hgrow7; have c2' := hx7.c2; have fz2 := hx7.fz 2)
              all_goals
                have q1 := hy8.at'.c1
                have z1 := hy8.at'.fz 1
                have hrow9 := ownsRow_setCell_other hy8.row (hy8.at'.not_row hy8.row) (a := ⟨w.heap.size, 1, none⟩) (.int .i64 t)
                have hx9 := hy8.at'.at' (t : Int)
                have hgn := hx9.gone
                have hb9 : Below w.heap.size w ((w7.setCell ⟨w.heap.size, 2, none⟩ (.slice a7 n7 cap7)).setCell ⟨w.heap.size, 1, none⟩ (.int .i64 t)) := (hb6.trans ((Below.refl _ _).drew.trans hb8)).setCell (p := ⟨w.heap.size, 1, none⟩) (Nat.le_refl _) _
                have hbl := bytesOf_len s p m hok.1
                have hle : left s t 0 < left s p 0 := by
                  have := hok.2.1 (by first | trivial | rfl)
                  have := HT.out
                  unfold left; rw [if_pos rfl]; omega
                go_wp2
                refine ⟨⟨k', t, 0, _, xs ++ bytesOf s p m, by show left s t 0 < k'; have := hk.out; omega, by omega, by rw [HT.out] at hFe; exact hFe, by show _ ≤ _; rw [List.length_append]; have := HT.out; omega, fun h => by rw [List.length_append]; have := HT.out; omega, ⟨hx9, hrow9⟩, hb9⟩, ?_⟩
                rw [hgo, hgn]
                exact hle
      · have hf1 : (f != 0) = true := by simpa using hf
        have hf2 : (f == 0) = false := by simpa using hf
        have hFe : Hid (scanF s = scn s (2 * s.size + 2 + 1) q f xs) := by show scanF s = _; rw [hF.out, scn_err hr hf, scn_end _ _ _ _ _ hf]
        have hgn := hy2.at'.gone
        go_wp2
        refine ⟨⟨2 * s.size + 2 + 1, q, f, v, xs, by show left s q f < _; unfold left; split <;> omega, hq, hFe, by show _ ≤ _; omega, fun h => absurd h hf, hy2, hb2⟩, ?_⟩
        rw [hgo, hgn]
        unfold left
        rw [if_neg hf, if_pos rfl]
        omega
    · have hf : Hid (scanF s = ([], p, e)) := by show scanF s = _; rw [hF.out, scn_end _ _ _ _ _ he]
      have he1 : (e == 0) = false := by simpa using he
      have c1 := hy.at'.c1
      go_wp2
      go_quiet (fail)
      go_wp2
      go_ret3
      exact ⟨by rw [hf.out]; rfl, pw_below_drewN hb _⟩
end Go.Proofs.Ytlbokaekhjjabaa

/-
  Whole right texts: a code point's bytes; one behind the other. No program in sight.
-/
namespace Go.Proofs.Ytlbokaekhjjabaa
set_option linter.unusedVariables false

/-- Right UTF-8 that ends with a code point. -/
def Whole (l : List UInt8) : Prop := ∃ st, runL l st0 = some st ∧ st.1 ≤ 0
theorem whole_nil : Whole [] := ⟨st0, rfl, by decide⟩
theorem whole_app {a b : List UInt8} (ha : Whole a) (hb : Whole b) : Whole (a ++ b) := by
  obtain ⟨st, h1, h2⟩ := ha
  obtain ⟨st', h3, h4⟩ := hb
  unfold Whole
  rw [runL_append, h1]
  show ∃ st'', runL b st = some st'' ∧ _
  cases b with
  | nil => exact ⟨st, rfl, h2⟩
  | cons c t =>
    refine ⟨st', ?_, h4⟩
    rw [← h3]
    simp only [runL]
    rw [stp_0 h2]
theorem whole_chk {l : List UInt8} (h : Whole l) (i : Int) : chkL l st0 i = (i + l.length, 0) := by
  obtain ⟨st, h1, h2⟩ := h
  rw [chkL_run i h1, if_neg (by omega)]
theorem chk_whole {l : List UInt8} {i : Int} (h : (chkL l st0 i).2 = 0) : Whole l := by
  rcases run_or l st0 with ⟨st', h1⟩ | ⟨a, c, b, st', rfl, h1, h2⟩
  · refine ⟨st', h1, ?_⟩
    rw [chkL_run i h1] at h
    dsimp only at h
    split at h
    · cases h
    · omega
  · rw [chkL_err i h1 h2] at h
    cases h

theorem run_first {b : UInt8} {t : List UInt8} {q1 q2 n l m : Int} (h : rowOf leadRows b.toNat = (q1, q2, n, l, m)) (hn : 0 < n) : runL (b :: t) st0 = runL t (n - 1, l, m) := by
  have e : stp st0 b.toNat (-1) = some (n - 1, l, m) := by
    unfold stp
    rw [if_neg (by decide), h]
    dsimp only
    rw [if_neg (by omega)]
  simp only [runL]
  rw [e]; rfl
theorem run_in {k l m d : Int} {t : List UInt8} (hk : 0 < k) (h1 : l ≤ d) (h2 : d ≤ m) (h0 : 0 ≤ d) (h3 : d ≤ 255) : runL (byteOf d :: t) (k, l, m) = runL t (k - 1, 128, 191) := by
  simp only [runL]
  rw [byteOf_toNat h0 h3, stp_in hk, if_neg (by omega)]
  rfl

theorem whole_enc (c : Int) : Whole ((encL c).map byteOf) := by
  unfold encL
  split
  · exact whole_nil
  rename_i hc
  split
  · rename_i h1
    have hr := (row_of_byte (n := c) (by omega) (by omega)).trans (row_1 (by omega) (by omega))
    exact ⟨_, run_first hr (by omega), by decide⟩
  split
  · rename_i h1 h2
    have hr := (row_of_byte (n := 192 + c / 64) (by omega) (by omega)).trans (row_2 (by omega) (by omega))
    exact ⟨_, (run_first hr (by omega)).trans (run_in (by omega) (by omega) (by omega) (by omega) (by omega)), by decide⟩
  split
  · rename_i h1 h2 h3
    have hr := row_of_byte (n := 224 + c / 4096) (by omega) (by omega)
    obtain e | e | e | e : c / 4096 = 0 ∨ (1 ≤ c / 4096 ∧ c / 4096 ≤ 12) ∨ c / 4096 = 13 ∨ (14 ≤ c / 4096 ∧ c / 4096 ≤ 15) := by omega
    · rw [show (224 : Int) + c / 4096 = 224 by omega] at hr ⊢
      replace hr := hr.trans row_e0
      exact ⟨_, (run_first hr (by omega)).trans ((run_in (by omega) (by omega) (by omega) (by omega) (by omega)).trans (run_in (by omega) (by omega) (by omega) (by omega) (by omega))), by decide⟩
    · replace hr := hr.trans (row_3a (by omega) (by omega))
      exact ⟨_, (run_first hr (by omega)).trans ((run_in (by omega) (by omega) (by omega) (by omega) (by omega)).trans (run_in (by omega) (by omega) (by omega) (by omega) (by omega))), by decide⟩
    · rw [show (224 : Int) + c / 4096 = 237 by omega] at hr ⊢
      replace hr := hr.trans row_ed
      exact ⟨_, (run_first hr (by omega)).trans ((run_in (by omega) (by omega) (by omega) (by omega) (by omega)).trans (run_in (by omega) (by omega) (by omega) (by omega) (by omega))), by decide⟩
    · replace hr := hr.trans (row_3b (by omega) (by omega))
      exact ⟨_, (run_first hr (by omega)).trans ((run_in (by omega) (by omega) (by omega) (by omega) (by omega)).trans (run_in (by omega) (by omega) (by omega) (by omega) (by omega))), by decide⟩
  · rename_i h1 h2 h3
    have hr := row_of_byte (n := 240 + c / 262144) (by omega) (by omega)
    obtain e | e | e : c / 262144 = 0 ∨ (1 ≤ c / 262144 ∧ c / 262144 ≤ 3) ∨ c / 262144 = 4 := by omega
    · rw [show (240 : Int) + c / 262144 = 240 by omega] at hr ⊢
      replace hr := hr.trans row_f0
      exact ⟨_, (run_first hr (by omega)).trans ((run_in (by omega) (by omega) (by omega) (by omega) (by omega)).trans ((run_in (by omega) (by omega) (by omega) (by omega) (by omega)).trans (run_in (by omega) (by omega) (by omega) (by omega) (by omega)))), by decide⟩
    · replace hr := hr.trans (row_4 (by omega) (by omega))
      exact ⟨_, (run_first hr (by omega)).trans ((run_in (by omega) (by omega) (by omega) (by omega) (by omega)).trans ((run_in (by omega) (by omega) (by omega) (by omega) (by omega)).trans (run_in (by omega) (by omega) (by omega) (by omega) (by omega)))), by decide⟩
    · rw [show (240 : Int) + c / 262144 = 244 by omega] at hr ⊢
      replace hr := hr.trans row_f4
      exact ⟨_, (run_first hr (by omega)).trans ((run_in (by omega) (by omega) (by omega) (by omega) (by omega)).trans ((run_in (by omega) (by omega) (by omega) (by omega) (by omega)).trans (run_in (by omega) (by omega) (by omega) (by omega) (by omega)))), by decide⟩
end Go.Proofs.Ytlbokaekhjjabaa

/-
  What Scan tells is right: without Go.
-/
namespace Go.Proofs.Ytlbokaekhjjabaa
open Go.RowKit
set_option linter.unusedVariables false

theorem unl_le {c : Int} (h : escIs c = true) (h1 : c ≠ 117) : 0 ≤ unl letterPairs c ∧ unl letterPairs c < 128 := by
  unfold escIs at h
  split at h
  · rename_i hq
    rcases hq with rfl | rfl | rfl | rfl
    · decide
    · decide
    · decide
    · exact absurd rfl h1
  · have hc : c = 98 ∨ c = 102 ∨ c = 110 ∨ c = 114 ∨ c = 116 := by
      simp only [hasL, letterPairs] at h
      repeat' split at h
      all_goals first | omega | cases h
    rcases hc with rfl | rfl | rfl | rfl | rfl
    all_goals decide
theorem whole_byte {x : Int} (h0 : 0 ≤ x) (h1 : x < 128) : Whole ([x].map byteOf) := by
  have h := whole_enc x
  have e : encL x = [x] := by unfold encL; rw [if_neg (by omega), if_pos h1]
  rwa [e] at h
theorem escF_whole (s : ByteArray) (p : Nat) (e : Int) (h : (escF s p e).2.2 = 0) : Whole ((escF s p e).1.map byteOf) := by
  unfold escF at h ⊢
  by_cases hc : (nx s escIs p e).1 ≠ 117
  · rw [if_pos hc] at h ⊢
    have h2 := nx_ok h
    rw [h2.2.2.2] at hc ⊢
    have := unl_le h2.2.2.1 hc
    exact whole_byte this.1 this.2
  · rw [if_neg hc]
    dsimp only
    split
    · exact whole_enc _
    · exact whole_enc _
theorem sub_data (s : ByteArray) (p : Nat) : (sub s p).data.toList = s.data.toList.drop p := by
  unfold sub
  have hl : s.data.toList.length = s.size := by rw [Array.length_toList]; rfl
  simp only [ByteArray.data_extract, Array.toList_extract]
  rw [← hl]
  simp [List.extract, List.take_of_length_le]
theorem bytesOf_data (s : ByteArray) (p n : Nat) : (bytesOf s p n).map byteOf = (s.data.toList.drop p).take n := by
  unfold bytesOf
  rw [List.map_map]
  rw [show (byteOf ∘ fun b : UInt8 => (b.toNat : Int)) = id from funext fun b => byteOf_of b, List.map_id]
  simp only [ByteArray.data_extract, Array.toList_extract]
  simp [List.extract]
theorem plainN_whole (s : ByteArray) (p : Nat) (h : (plainN s p).2 = 0) : Whole ((bytesOf s p (plainN s p).1).map byteOf) := by
  rw [bytesOf_data, ← sub_data]
  unfold plainN at h ⊢
  by_cases hp : (pt (sub s p)).2 = 0
  · rw [if_pos hp] at h ⊢
    obtain ⟨m, h1, h2, h3, _⟩ := chkL_bound (sub s p).data.toList st0 0
    have h4 : (chkL (sub s p).data.toList st0 0).2 = 0 := h
    have h5 := h3 h4
    have h6 : (chk (sub s p)).1.toNat = (sub s p).data.toList.length := by unfold chk; rw [h2, h5]; simp
    rw [h6, List.take_of_length_le (Nat.le_refl _)]
    exact chk_whole h4
  · rw [if_neg hp]
    rcases enc_pt (sub s p).data.toList with h1 | ⟨x, t, h1, h2, h3, h4⟩
    · exact absurd (show (pt (sub s p)).2 = 0 from by unfold pt; rw [h1]) hp
    · have h5 : (pt (sub s p)).2 = x.length := h2
      rw [h5, h1]
      dsimp only
      rw [Int.toNat_natCast, List.take_left]
      rw [← h4]
      exact whole_enc _

/-- What the rounds of Scan tell. -/
structure Right (s : ByteArray) (r : List Int × Nat × Int) : Prop where
  at' : r.2.1 ≤ s.size
  err : r.2.2 = 0 ∨ r.2.2 = 3 ∨ r.2.2 = 4
  none : r.2.2 ≠ 0 → r.1 = []
  whole : r.2.2 = 0 → Whole (r.1.map byteOf) ∧ r.1.length + 2 ≤ r.2.1 ∧ byteAt s (r.2.1 - 1) = 34
theorem nx_err (s : ByteArray) (is : Int → Bool) (p : Nat) (e : Int) (he : e = 0 ∨ e = 3 ∨ e = 4) : (nx s is p e).2.2 = 0 ∨ (nx s is p e).2.2 = 3 ∨ (nx s is p e).2.2 = 4 := by
  unfold nx; repeat' split
  all_goals simp_all

theorem escF_err (s : ByteArray) (p : Nat) (e : Int) (he : e = 0 ∨ e = 3 ∨ e = 4) : (escF s p e).2.2 = 0 ∨ (escF s p e).2.2 = 3 ∨ (escF s p e).2.2 = 4 := by
  have hu : ∀ low (k : Nat) (i u : Int) (p : Nat) (e : Int), (e = 0 ∨ e = 3 ∨ e = 4) → (unitL s low k i u p e).2.2 = 0 ∨ (unitL s low k i u p e).2.2 = 3 ∨ (unitL s low k i u p e).2.2 = 4 := by
    intro low k
    induction k with
    | zero => intro i u p e h; exact h
    | succ k ih => intro i u p e h; exact ih _ _ _ _ (nx_err s _ p e h)
  unfold escF
  have h1 := nx_err s escIs p e he
  by_cases hc : (nx s escIs p e).1 ≠ 117
  · rw [if_pos hc]; exact h1
  · rw [if_neg hc]
    dsimp only
    have h2 := hu false 4 0 0 (nx s escIs p e).2.1 (nx s escIs p e).2.2 h1
    split
    · exact hu true 4 0 0 _ _ (nx_err s _ _ _ (nx_err s _ _ _ h2))
    · exact h2

theorem scn_right (s : ByteArray) (k : Nat) : ∀ (p : Nat) (e : Int) (out : List Int), left s p e < k → p ≤ s.size → (e = 0 ∨ e = 3 ∨ e = 4) → (e = 0 → Whole (out.map byteOf) ∧ out.length + 1 ≤ p) → Right s (scn s k p e out) := by
  induction k with
  | zero => intro p e out h; omega
  | succ k ih =>
    intro p e out hk hp he hw
    simp only [scn]
    by_cases h0 : e ≠ 0
    · rw [if_pos h0]
      exact ⟨hp, he, fun _ => rfl, fun h => absurd h h0⟩
    rw [if_neg h0]
    have h0' : e = 0 := by omega
    subst h0'
    obtain ⟨hw1, hw2⟩ := hw rfl
    have a1 := nx_at s ge32 p 0 hp
    have a2 := nx_err s ge32 p 0 (.inl rfl)
    by_cases h1 : (nx s ge32 p 0).2.2 ≠ 0
    · rw [if_pos h1]
      exact ⟨a1, a2, fun _ => rfl, fun h => absurd h h1⟩
    rw [if_neg h1]
    have hn := nx_ok (show (nx s ge32 p 0).2.2 = 0 by omega)
    rw [hn.2.2.2] at a1 ⊢
    dsimp only at a1 ⊢
    unfold left at hk
    rw [if_pos rfl] at hk
    by_cases h2 : byteAt s p = 34
    · rw [if_pos h2]
      exact ⟨a1, .inl rfl, fun h => absurd rfl h, fun _ => ⟨hw1, by dsimp only; omega, h2⟩⟩
    rw [if_neg h2]
    by_cases h3 : byteAt s p = 92
    · rw [if_pos h3]
      have b1 := escF_ok s (p + 1) 0 a1
      have b2 := escF_err s (p + 1) 0 (.inl rfl)
      refine ih _ _ _ ?_ b1.2.1 b2 (fun h => ?_)
      · unfold left; split
        · rename_i h; have := b1.2.2.2 h; omega
        · omega
      · have b3 := b1.2.2.2 h
        refine ⟨?_, by rw [List.length_append]; omega⟩
        rw [List.map_append]
        exact whole_app hw1 (escF_whole s (p + 1) 0 h)
    rw [if_neg h3]
    have c1 := plainN_ok s p hn.2.1
    refine ih _ _ _ ?_ c1.1 c1.2.2 (fun h => ?_)
    · unfold left; split
      · rename_i h; have := c1.2.1 h; omega
      · omega
    · have c2 := bytesOf_len s p (plainN s p).1 c1.1
      refine ⟨?_, by rw [List.length_append, c2]; omega⟩
      rw [List.map_append]
      exact whole_app hw1 (plainN_whole s p h)

theorem scan_right (s : ByteArray) : Right s (scanF s) ∧ ((scanF s).2.2 = 0 → byteAt s 0 = 34) := by
  have a1 := nx_at s (fun c => c == 34) 0 0 (by omega)
  have a2 := nx_err s (fun c => c == 34) 0 0 (.inl rfl)
  obtain ⟨r, hr⟩ : ∃ r, nx s (fun c => c == 34) 0 0 = r := ⟨_, rfl⟩
  rw [hr] at a1 a2
  have e : scanF s = scn s (2 * s.size + 2) r.2.1 r.2.2 [] := by unfold scanF; rw [hr]
  rw [e]
  refine ⟨scn_right s _ _ _ _ ?_ a1 a2 (fun h => ?_), fun h => ?_⟩
  · unfold left; split <;> omega
  · have h2 := nx_ok (s := s) (is := fun c => c == 34) (p := 0) (e := 0) (by rw [hr]; exact h)
    rw [hr] at h2
    rw [h2.2.2.2]
    exact ⟨whole_nil, by simp⟩
  · by_cases h1 : r.2.2 = 0
    · have h2 := nx_ok (s := s) (is := fun c => c == 34) (p := 0) (e := 0) (by rw [hr]; exact h1)
      simpa using h2.2.2.1
    · simp only [scn] at h
      rw [if_pos h1] at h
      exact absurd h h1
end Go.Proofs.Ytlbokaekhjjabaa

/-
  Small facts on texts and numbers.
-/
namespace Go.Proofs.Ytlbokaekhjjabaa.Pure
open Go.RowKit Go.Proofs.Ytlbokaekhjjabaa Go.Proofs.YtlbokaekhjjabaaW.PrintWords
set_option linter.unusedVariables false

theorem str_data (xs : List Int) : (strOfNums xs).data.toList = xs.map byteOf := by rw [strOfNums_data]; rfl
theorem str_size (xs : List Int) : (strOfNums xs).size = xs.length := by
  have := congrArg List.length (str_data xs)
  rw [List.length_map, Array.length_toList] at this
  exact this
theorem bt_byte (s : ByteArray) (p : Nat) (h : p < s.size) : bt s (p : Int) = byteAt s p := by
  have hp : (p : Int).toNat = p := Int.toNat_natCast p
  unfold bt byteAt
  rw [dif_pos (by rw [hp]; exact h)]
  rw [List.getD_eq_getElem?_getD, List.getElem?_eq_getElem (by simpa using h)]
  simp only [hp]
  rfl
end Go.Proofs.Ytlbokaekhjjabaa.Pure
