import Derived.Laws.BitsLemmas
import Derived.Lib.EndianBits
import Derived.Test.YtfmceonbejlhlaaGreatDoorMWd8
/-
  head.Get: the head at the beginning of bytes.
-/
namespace Go.Proofs.YtfmceonbejlhlaaGreatDoor
open Go.RowKit Go.Proofs.YtfmceonbejlhlaaGreatDoorW.PrintWords Go.Proofs.YtfmceonbejlhlaaGreatDoorW.PrintLast Go.Proofs.YtfmceonbejlhlaaGreatDoorW.PrintMore
set_option linter.unusedVariables false

theorem and31 (m : Nat) (x : Int) (hm : m ≤ 7) (h0 : 0 ≤ x) (h1 : x < 32) : Go.bits .and .u8 ((m : Int) * 32 + x) 31 = x := by
  have key : ∀ (m : Fin 8) (x : Fin 32), Go.bits .and .u8 ((m.val : Int) * 32 + x.val) 31 = x.val := by decide +kernel
  have := key ⟨m, by omega⟩ ⟨x.toNat, by omega⟩
  simp only at this
  rwa [show ((x.toNat : Nat) : Int) = x by omega] at this
/-- Cells of bytes. -/
def BytesAt (W : World) (bg o : Nat) (bs : List Int) : Prop := ∀ j b, bs[j]? = some b → W.cell? ⟨bg, o + j, none⟩ = some (.int .u8 b)
/-- The number of bytes, the highest first. -/
def numOf : List Int → Int → Int
  | [], x => x
  | b :: r, x => numOf r (x * 256 + b)
/-- What Get tells. -/
def GetPost (major info x len : Int) (w : World) (e : Ending) (w' : World) : Prop := e = .returned (.tuple #[.int .i64 major, .int .i64 info, .int .u64 x, .int .i64 len, .int .i64 0]) ∧ ∃ k, w' = w.drewN k
set_option maxRecDepth 100000 in
set_option maxHeartbeats 4000000 in
theorem get_small (bg o l c m : Nat) (x : Int) (w : World) (hm : m ≤ 7) (h0 : 0 ≤ x) (h1 : x < 24) (hl : 0 < l) (hc : w.cell? ⟨bg, o, none⟩ = some (.int .u8 ((m : Int) * 32 + x))) :
    Calls Tryz.prog 110 #[.slice (some ⟨bg, o, none⟩) l c] w (GetPost m x x 1 w) := by
  have hl' : (0 : Int) < l := by omega
  have q1 : ((l : Int) == 0) = false := by simp; omega
  have q2 : ((m : Int) * 32 + x) / 32 = m := by omega
  have q3 := and31 m x hm h0 (by omega)
  have q4 : decide (x < 24) = true := decide_eq_true h1
  have q5 : ¬ l = 0 := by omega
  go_enter Tryz.func110, Tryz.ntmps110
  go_wp2_with fail
  go_quiet (fail)
  go_wp2
  refine bodyPost_ret (v := .tuple #[.int .i64 m, .int .i64 x, .int .u64 x, .int .i64 1, .int .i64 0]) (by simp [results, Tryz.results110, go_sem]) rfl ⟨rfl, nq, rfl⟩
set_option maxRecDepth 100000 in
set_option maxHeartbeats 4000000 in
theorem get_open (bg o l c m : Nat) (w : World) (hm : m ≤ 5) (hm2 : 2 ≤ m) (hl : 0 < l) (hc : w.cell? ⟨bg, o, none⟩ = some (.int .u8 ((m : Int) * 32 + 31))) :
    Calls Tryz.prog 110 #[.slice (some ⟨bg, o, none⟩) l c] w (GetPost m 31 0 1 w) := by
  have hl' : (0 : Int) < l := by omega
  have q1 : ((l : Int) == 0) = false := by simp; omega
  have q2 : ((m : Int) * 32 + 31) / 32 = m := by omega
  have q3 := and31 m 31 (by omega) (by omega) (by omega)
  have q4 : decide ((1 : Int) < (m : Int)) = true := decide_eq_true (by omega)
  have q6 : ((m : Int) != 6) = true := by simp; omega
  have q7 : ((m : Int) == 6) = false := by simp; omega
  have q5 : ¬ l = 0 := by omega
  go_enter Tryz.func110, Tryz.ntmps110
  go_wp2_with fail
  go_quiet (fail)
  go_wp2
  refine bodyPost_ret (v := .tuple #[.int .i64 m, .int .i64 31, .int .u64 0, .int .i64 1, .int .i64 0]) (by simp [results, Tryz.results110, go_sem]) rfl ⟨rfl, nq, rfl⟩
theorem numOf_snoc (b : Int) : ∀ (xs : List Int) (x : Int), numOf (xs ++ [b]) x = numOf xs x * 256 + b
  | [], x => rfl
  | a :: r, x => by simp only [List.cons_append, numOf]; exact numOf_snoc b r _
def Byte (b : Int) : Prop := 0 ≤ b ∧ b < 256
theorem numOf_lt : ∀ (xs : List Int) (k : Nat) (x : Int), (∀ b ∈ xs, Byte b) → 0 ≤ x → x < 256 ^ k → 0 ≤ numOf xs x ∧ numOf xs x < 256 ^ (k + xs.length)
  | [], k, x, _, h0, h1 => ⟨h0, by simpa [numOf] using h1⟩
  | a :: r, k, x, h, h0, h1 => by
    have hb := h a (List.mem_cons_self ..)
    unfold Byte at hb
    have e : (256 : Int) ^ (k + 1) = 256 ^ k * 256 := Int.pow_succ _ _
    have := numOf_lt r (k + 1) (x * 256 + a) (fun b hb => h b (List.mem_cons_of_mem _ hb)) (by omega) (by rw [e]; omega)
    simp only [numOf, List.length_cons]
    rw [show k + (r.length + 1) = k + 1 + r.length by omega]
    exact this
theorem or_byte (x c : Int) (h0 : 0 ≤ x) (h1 : x * 256 < 18446744073709551616) (hc : Byte c) : Go.bits .or .u64 (x * 256) c = x * 256 + c := by
  unfold Byte at hc
  exact bits_join .u64 64 (by decide) wraps_u64 8 (x * 256) c (by omega) (by omega) (by simpa using h1) hc.1 (by simpa using hc.2) (by omega)
set_option maxRecDepth 100000 in
set_option maxHeartbeats 4000000 in
theorem get0 (bg o l c m : Nat) (xs : List Int) (w : World) (hm : m ≤ 7) (hx : xs.length = 1) (hxb : ∀ b ∈ xs, Byte b) (hl : 1 < l) (hlc : l ≤ c) (hl2 : l ≤ 1048576) (hc : w.cell? ⟨bg, o, none⟩ = some (.int .u8 ((m : Int) * 32 + 24))) (hcs : BytesAt w bg (o + 1) xs) (h7 : m = 7 → ∀ b ∈ xs, 31 < b) :
    Calls Tryz.prog 110 #[.slice (some ⟨bg, o, none⟩) l c] w (GetPost m 24 (numOf xs 0) (1 + 1) w) := by
  have hl' : (0 : Int) < l := by omega
  have hl3 : (1 : Int) < l := by omega
  have q1 : ((l : Int) == 0) = false := by simp; omega
  have q2 : ((m : Int) * 32 + 24) / 32 = m := by omega
  have q3 := and31 m 24 (by omega) (by omega) (by omega)
  have q5 : ¬ l = 0 := by omega
  have q6 : ¬ c = 1 := by omega
  have q7 : (1 : Int) + 1 ≤ c := by omega
  have q8 : decide ((l : Int) ≤ 1) = false := decide_eq_false (by omega)
  have HX := Lib.hid hx
  have HCS := Lib.hid hcs
  clear hx hcs
  by_cases hm7 : m = 7
  · subst hm7
    obtain ⟨b0, hb0⟩ : ∃ b, xs[0]? = some b := ⟨_, List.getElem?_eq_getElem (by rw [HX.out]; decide)⟩
    have h31 := h7 rfl b0 (List.mem_of_getElem? hb0)
    have hcb := HCS.out 0 b0 hb0
    rw [Nat.add_zero] at hcb
    clear hb0
    have r1 : decide (b0 ≤ (31 : Int)) = false := decide_eq_false (by omega)
    have r2 : decide ((1 : Int) < (l : Int)) = true := decide_eq_true (by omega)
    clear h7
    go_enter Tryz.func110, Tryz.ntmps110
    go_wp2_with fail
    go_quiet (fail)
    go_wp2
    go_loop [10, 81] (fun x i => ∃ k : Nat, k ≤ 1 ∧ i = .int .i64 k ∧ x = .int .u64 (numOf (xs.take k) 0)) (fun _ i => 1 - (intOf i).toNat)
    case atStart => exact ⟨0, by omega, rfl, rfl⟩
    case round =>
      obtain ⟨k, hk, rfl, rfl⟩ := hrel
      by_cases hlt : k < 1
      · have hkx : k < xs.length := by rw [HX.out]; exact hlt
        obtain ⟨b, hb⟩ : ∃ b, xs[k]? = some b := ⟨_, List.getElem?_eq_getElem hkx⟩
        have hbb := hxb b (List.mem_of_getElem? hb)
        have hcell := HCS.out k b hb
        have hbd := numOf_lt (xs.take k) 0 0 (fun b hb => hxb b (List.mem_of_mem_take hb)) (Int.le_refl _) (by decide)
        have hs := numOf_snoc b (xs.take k) 0
        rw [← (show xs.take (k + 1) = xs.take k ++ [b] by rw [List.take_add_one, hb]; rfl)] at hs
        rw [Nat.zero_add, List.length_take, Nat.min_eq_left (by omega)] at hbd
        have hp : (256 : Int) ^ k ≤ 256 ^ (1 - 1) := (by exact_mod_cast Nat.pow_le_pow_right (show 0 < 256 by decide) (show k ≤ 1 - 1 by omega))
        have hp2 : (256 : Int) ^ (1 - 1) = 1 := by decide
        obtain ⟨y, hy⟩ : ∃ y, numOf (xs.take k) 0 = y := ⟨_, rfl⟩
        rw [hy] at hbd hs ⊢
        have hw : IntKind.u64.wrap (y * 256) = y * 256 := wraps_u64 _ (by omega) (by omega)
        have ho := or_byte y b hbd.1 (by omega) hbb
        have HS := Lib.hid hs
        have hb0 : 0 ≤ b := hbb.1
        have hb1 : b < 256 := hbb.2
        have hy0 := hbd.1
        clear hs hy hp hp2 hbd hbb hb hkx
        have hlt' : (k : Int) < 1 := by omega
        go_wp2
        go_round
        case rel => exact ⟨k + 1, by omega, by go_num, by rw [HS.out]⟩
        case measure => simp [intOf]; omega
      · obtain rfl : k = 1 := by omega
        have ht : xs.take 1 = xs := List.take_of_length_le (by rw [HX.out]; exact Nat.le_refl _)
        rw [ht]
        go_wp2
        refine bodyPost_ret (v := .tuple #[.int .i64 ((7 : Nat) : Int), .int .i64 24, .int .u64 (numOf xs 0), .int .i64 (1 + 1), .int .i64 0]) (by simp [results, Tryz.results110, go_sem]) rfl ⟨rfl, nq, rfl⟩
  · have r0 : ((m : Int) == 7) = false := by simp; omega
    clear h7
    go_enter Tryz.func110, Tryz.ntmps110
    go_wp2_with fail
    go_quiet (fail)
    go_wp2
    go_loop [10, 81] (fun x i => ∃ k : Nat, k ≤ 1 ∧ i = .int .i64 k ∧ x = .int .u64 (numOf (xs.take k) 0)) (fun _ i => 1 - (intOf i).toNat)
    case atStart => exact ⟨0, by omega, rfl, rfl⟩
    case round =>
      obtain ⟨k, hk, rfl, rfl⟩ := hrel
      by_cases hlt : k < 1
      · have hkx : k < xs.length := by rw [HX.out]; exact hlt
        obtain ⟨b, hb⟩ : ∃ b, xs[k]? = some b := ⟨_, List.getElem?_eq_getElem hkx⟩
        have hbb := hxb b (List.mem_of_getElem? hb)
        have hcell := HCS.out k b hb
        have hbd := numOf_lt (xs.take k) 0 0 (fun b hb => hxb b (List.mem_of_mem_take hb)) (Int.le_refl _) (by decide)
        have hs := numOf_snoc b (xs.take k) 0
        rw [← (show xs.take (k + 1) = xs.take k ++ [b] by rw [List.take_add_one, hb]; rfl)] at hs
        rw [Nat.zero_add, List.length_take, Nat.min_eq_left (by omega)] at hbd
        have hp : (256 : Int) ^ k ≤ 256 ^ (1 - 1) := (by exact_mod_cast Nat.pow_le_pow_right (show 0 < 256 by decide) (show k ≤ 1 - 1 by omega))
        have hp2 : (256 : Int) ^ (1 - 1) = 1 := by decide
        obtain ⟨y, hy⟩ : ∃ y, numOf (xs.take k) 0 = y := ⟨_, rfl⟩
        rw [hy] at hbd hs ⊢
        have hw : IntKind.u64.wrap (y * 256) = y * 256 := wraps_u64 _ (by omega) (by omega)
        have ho := or_byte y b hbd.1 (by omega) hbb
        have HS := Lib.hid hs
        have hb0 : 0 ≤ b := hbb.1
        have hb1 : b < 256 := hbb.2
        have hy0 := hbd.1
        clear hs hy hp hp2 hbd hbb hb hkx
        have hlt' : (k : Int) < 1 := by omega
        go_wp2
        go_round
        case rel => exact ⟨k + 1, by omega, by go_num, by rw [HS.out]⟩
        case measure => simp [intOf]; omega
      · obtain rfl : k = 1 := by omega
        have ht : xs.take 1 = xs := List.take_of_length_le (by rw [HX.out]; exact Nat.le_refl _)
        rw [ht]
        go_wp2
        refine bodyPost_ret (v := .tuple #[.int .i64 m, .int .i64 24, .int .u64 (numOf xs 0), .int .i64 (1 + 1), .int .i64 0]) (by simp [results, Tryz.results110, go_sem]) rfl ⟨rfl, nq, rfl⟩
set_option maxRecDepth 100000 in
set_option maxHeartbeats 4000000 in
theorem get1 (bg o l c m : Nat) (xs : List Int) (w : World) (hm : m ≤ 7) (hx : xs.length = 2) (hxb : ∀ b ∈ xs, Byte b) (hl : 2 < l) (hlc : l ≤ c) (hl2 : l ≤ 1048576) (hc : w.cell? ⟨bg, o, none⟩ = some (.int .u8 ((m : Int) * 32 + 25))) (hcs : BytesAt w bg (o + 1) xs) :
    Calls Tryz.prog 110 #[.slice (some ⟨bg, o, none⟩) l c] w (GetPost m 25 (numOf xs 0) (2 + 1) w) := by
  have hl' : (0 : Int) < l := by omega
  have hl3 : (2 : Int) < l := by omega
  have q1 : ((l : Int) == 0) = false := by simp; omega
  have q2 : ((m : Int) * 32 + 25) / 32 = m := by omega
  have q3 := and31 m 25 (by omega) (by omega) (by omega)
  have q5 : ¬ l = 0 := by omega
  have q6 : ¬ c = 1 := by omega
  have q7 : (2 : Int) + 1 ≤ c := by omega
  have q8 : decide ((l : Int) ≤ 2) = false := decide_eq_false (by omega)
  have HX := Lib.hid hx
  have HCS := Lib.hid hcs
  clear hx hcs
  by_cases hm7 : m = 7
  · subst hm7
    go_enter Tryz.func110, Tryz.ntmps110
    go_wp2_with fail
    go_quiet (fail)
    go_wp2
    go_loop [10, 81] (fun x i => ∃ k : Nat, k ≤ 2 ∧ i = .int .i64 k ∧ x = .int .u64 (numOf (xs.take k) 0)) (fun _ i => 2 - (intOf i).toNat)
    case atStart => exact ⟨0, by omega, rfl, rfl⟩
    case round =>
      obtain ⟨k, hk, rfl, rfl⟩ := hrel
      by_cases hlt : k < 2
      · have hkx : k < xs.length := by rw [HX.out]; exact hlt
        obtain ⟨b, hb⟩ : ∃ b, xs[k]? = some b := ⟨_, List.getElem?_eq_getElem hkx⟩
        have hbb := hxb b (List.mem_of_getElem? hb)
        have hcell := HCS.out k b hb
        have hbd := numOf_lt (xs.take k) 0 0 (fun b hb => hxb b (List.mem_of_mem_take hb)) (Int.le_refl _) (by decide)
        have hs := numOf_snoc b (xs.take k) 0
        rw [← (show xs.take (k + 1) = xs.take k ++ [b] by rw [List.take_add_one, hb]; rfl)] at hs
        rw [Nat.zero_add, List.length_take, Nat.min_eq_left (by omega)] at hbd
        have hp : (256 : Int) ^ k ≤ 256 ^ (2 - 1) := (by exact_mod_cast Nat.pow_le_pow_right (show 0 < 256 by decide) (show k ≤ 2 - 1 by omega))
        have hp2 : (256 : Int) ^ (2 - 1) = 256 := by decide
        obtain ⟨y, hy⟩ : ∃ y, numOf (xs.take k) 0 = y := ⟨_, rfl⟩
        rw [hy] at hbd hs ⊢
        have hw : IntKind.u64.wrap (y * 256) = y * 256 := wraps_u64 _ (by omega) (by omega)
        have ho := or_byte y b hbd.1 (by omega) hbb
        have HS := Lib.hid hs
        have hb0 : 0 ≤ b := hbb.1
        have hb1 : b < 256 := hbb.2
        have hy0 := hbd.1
        clear hs hy hp hp2 hbd hbb hb hkx
        have hlt' : (k : Int) < 2 := by omega
        go_wp2
        go_round
        case rel => exact ⟨k + 1, by omega, by go_num, by rw [HS.out]⟩
        case measure => simp [intOf]; omega
      · obtain rfl : k = 2 := by omega
        have ht : xs.take 2 = xs := List.take_of_length_le (by rw [HX.out]; exact Nat.le_refl _)
        rw [ht]
        go_wp2
        refine bodyPost_ret (v := .tuple #[.int .i64 ((7 : Nat) : Int), .int .i64 25, .int .u64 (numOf xs 0), .int .i64 (2 + 1), .int .i64 0]) (by simp [results, Tryz.results110, go_sem]) rfl ⟨rfl, nq, rfl⟩
  · have r0 : ((m : Int) == 7) = false := by simp; omega
    go_enter Tryz.func110, Tryz.ntmps110
    go_wp2_with fail
    go_quiet (fail)
    go_wp2
    go_loop [10, 81] (fun x i => ∃ k : Nat, k ≤ 2 ∧ i = .int .i64 k ∧ x = .int .u64 (numOf (xs.take k) 0)) (fun _ i => 2 - (intOf i).toNat)
    case atStart => exact ⟨0, by omega, rfl, rfl⟩
    case round =>
      obtain ⟨k, hk, rfl, rfl⟩ := hrel
      by_cases hlt : k < 2
      · have hkx : k < xs.length := by rw [HX.out]; exact hlt
        obtain ⟨b, hb⟩ : ∃ b, xs[k]? = some b := ⟨_, List.getElem?_eq_getElem hkx⟩
        have hbb := hxb b (List.mem_of_getElem? hb)
        have hcell := HCS.out k b hb
        have hbd := numOf_lt (xs.take k) 0 0 (fun b hb => hxb b (List.mem_of_mem_take hb)) (Int.le_refl _) (by decide)
        have hs := numOf_snoc b (xs.take k) 0
        rw [← (show xs.take (k + 1) = xs.take k ++ [b] by rw [List.take_add_one, hb]; rfl)] at hs
        rw [Nat.zero_add, List.length_take, Nat.min_eq_left (by omega)] at hbd
        have hp : (256 : Int) ^ k ≤ 256 ^ (2 - 1) := (by exact_mod_cast Nat.pow_le_pow_right (show 0 < 256 by decide) (show k ≤ 2 - 1 by omega))
        have hp2 : (256 : Int) ^ (2 - 1) = 256 := by decide
        obtain ⟨y, hy⟩ : ∃ y, numOf (xs.take k) 0 = y := ⟨_, rfl⟩
        rw [hy] at hbd hs ⊢
        have hw : IntKind.u64.wrap (y * 256) = y * 256 := wraps_u64 _ (by omega) (by omega)
        have ho := or_byte y b hbd.1 (by omega) hbb
        have HS := Lib.hid hs
        have hb0 : 0 ≤ b := hbb.1
        have hb1 : b < 256 := hbb.2
        have hy0 := hbd.1
        clear hs hy hp hp2 hbd hbb hb hkx
        have hlt' : (k : Int) < 2 := by omega
        go_wp2
        go_round
        case rel => exact ⟨k + 1, by omega, by go_num, by rw [HS.out]⟩
        case measure => simp [intOf]; omega
      · obtain rfl : k = 2 := by omega
        have ht : xs.take 2 = xs := List.take_of_length_le (by rw [HX.out]; exact Nat.le_refl _)
        rw [ht]
        go_wp2
        refine bodyPost_ret (v := .tuple #[.int .i64 m, .int .i64 25, .int .u64 (numOf xs 0), .int .i64 (2 + 1), .int .i64 0]) (by simp [results, Tryz.results110, go_sem]) rfl ⟨rfl, nq, rfl⟩
set_option maxRecDepth 100000 in
set_option maxHeartbeats 4000000 in
theorem get2 (bg o l c m : Nat) (xs : List Int) (w : World) (hm : m ≤ 7) (hx : xs.length = 4) (hxb : ∀ b ∈ xs, Byte b) (hl : 4 < l) (hlc : l ≤ c) (hl2 : l ≤ 1048576) (hc : w.cell? ⟨bg, o, none⟩ = some (.int .u8 ((m : Int) * 32 + 26))) (hcs : BytesAt w bg (o + 1) xs) :
    Calls Tryz.prog 110 #[.slice (some ⟨bg, o, none⟩) l c] w (GetPost m 26 (numOf xs 0) (4 + 1) w) := by
  have hl' : (0 : Int) < l := by omega
  have hl3 : (4 : Int) < l := by omega
  have q1 : ((l : Int) == 0) = false := by simp; omega
  have q2 : ((m : Int) * 32 + 26) / 32 = m := by omega
  have q3 := and31 m 26 (by omega) (by omega) (by omega)
  have q5 : ¬ l = 0 := by omega
  have q6 : ¬ c = 1 := by omega
  have q7 : (4 : Int) + 1 ≤ c := by omega
  have q8 : decide ((l : Int) ≤ 4) = false := decide_eq_false (by omega)
  have HX := Lib.hid hx
  have HCS := Lib.hid hcs
  clear hx hcs
  by_cases hm7 : m = 7
  · subst hm7
    go_enter Tryz.func110, Tryz.ntmps110
    go_wp2_with fail
    go_quiet (fail)
    go_wp2
    go_loop [10, 81] (fun x i => ∃ k : Nat, k ≤ 4 ∧ i = .int .i64 k ∧ x = .int .u64 (numOf (xs.take k) 0)) (fun _ i => 4 - (intOf i).toNat)
    case atStart => exact ⟨0, by omega, rfl, rfl⟩
    case round =>
      obtain ⟨k, hk, rfl, rfl⟩ := hrel
      by_cases hlt : k < 4
      · have hkx : k < xs.length := by rw [HX.out]; exact hlt
        obtain ⟨b, hb⟩ : ∃ b, xs[k]? = some b := ⟨_, List.getElem?_eq_getElem hkx⟩
        have hbb := hxb b (List.mem_of_getElem? hb)
        have hcell := HCS.out k b hb
        have hbd := numOf_lt (xs.take k) 0 0 (fun b hb => hxb b (List.mem_of_mem_take hb)) (Int.le_refl _) (by decide)
        have hs := numOf_snoc b (xs.take k) 0
        rw [← (show xs.take (k + 1) = xs.take k ++ [b] by rw [List.take_add_one, hb]; rfl)] at hs
        rw [Nat.zero_add, List.length_take, Nat.min_eq_left (by omega)] at hbd
        have hp : (256 : Int) ^ k ≤ 256 ^ (4 - 1) := (by exact_mod_cast Nat.pow_le_pow_right (show 0 < 256 by decide) (show k ≤ 4 - 1 by omega))
        have hp2 : (256 : Int) ^ (4 - 1) = 16777216 := by decide
        obtain ⟨y, hy⟩ : ∃ y, numOf (xs.take k) 0 = y := ⟨_, rfl⟩
        rw [hy] at hbd hs ⊢
        have hw : IntKind.u64.wrap (y * 256) = y * 256 := wraps_u64 _ (by omega) (by omega)
        have ho := or_byte y b hbd.1 (by omega) hbb
        have HS := Lib.hid hs
        have hb0 : 0 ≤ b := hbb.1
        have hb1 : b < 256 := hbb.2
        have hy0 := hbd.1
        clear hs hy hp hp2 hbd hbb hb hkx
        have hlt' : (k : Int) < 4 := by omega
        go_wp2
        go_round
        case rel => exact ⟨k + 1, by omega, by go_num, by rw [HS.out]⟩
        case measure => simp [intOf]; omega
      · obtain rfl : k = 4 := by omega
        have ht : xs.take 4 = xs := List.take_of_length_le (by rw [HX.out]; exact Nat.le_refl _)
        rw [ht]
        go_wp2
        refine bodyPost_ret (v := .tuple #[.int .i64 ((7 : Nat) : Int), .int .i64 26, .int .u64 (numOf xs 0), .int .i64 (4 + 1), .int .i64 0]) (by simp [results, Tryz.results110, go_sem]) rfl ⟨rfl, nq, rfl⟩
  · have r0 : ((m : Int) == 7) = false := by simp; omega
    go_enter Tryz.func110, Tryz.ntmps110
    go_wp2_with fail
    go_quiet (fail)
    go_wp2
    go_loop [10, 81] (fun x i => ∃ k : Nat, k ≤ 4 ∧ i = .int .i64 k ∧ x = .int .u64 (numOf (xs.take k) 0)) (fun _ i => 4 - (intOf i).toNat)
    case atStart => exact ⟨0, by omega, rfl, rfl⟩
    case round =>
      obtain ⟨k, hk, rfl, rfl⟩ := hrel
      by_cases hlt : k < 4
      · have hkx : k < xs.length := by rw [HX.out]; exact hlt
        obtain ⟨b, hb⟩ : ∃ b, xs[k]? = some b := ⟨_, List.getElem?_eq_getElem hkx⟩
        have hbb := hxb b (List.mem_of_getElem? hb)
        have hcell := HCS.out k b hb
        have hbd := numOf_lt (xs.take k) 0 0 (fun b hb => hxb b (List.mem_of_mem_take hb)) (Int.le_refl _) (by decide)
        have hs := numOf_snoc b (xs.take k) 0
        rw [← (show xs.take (k + 1) = xs.take k ++ [b] by rw [List.take_add_one, hb]; rfl)] at hs
        rw [Nat.zero_add, List.length_take, Nat.min_eq_left (by omega)] at hbd
        have hp : (256 : Int) ^ k ≤ 256 ^ (4 - 1) := (by exact_mod_cast Nat.pow_le_pow_right (show 0 < 256 by decide) (show k ≤ 4 - 1 by omega))
        have hp2 : (256 : Int) ^ (4 - 1) = 16777216 := by decide
        obtain ⟨y, hy⟩ : ∃ y, numOf (xs.take k) 0 = y := ⟨_, rfl⟩
        rw [hy] at hbd hs ⊢
        have hw : IntKind.u64.wrap (y * 256) = y * 256 := wraps_u64 _ (by omega) (by omega)
        have ho := or_byte y b hbd.1 (by omega) hbb
        have HS := Lib.hid hs
        have hb0 : 0 ≤ b := hbb.1
        have hb1 : b < 256 := hbb.2
        have hy0 := hbd.1
        clear hs hy hp hp2 hbd hbb hb hkx
        have hlt' : (k : Int) < 4 := by omega
        go_wp2
        go_round
        case rel => exact ⟨k + 1, by omega, by go_num, by rw [HS.out]⟩
        case measure => simp [intOf]; omega
      · obtain rfl : k = 4 := by omega
        have ht : xs.take 4 = xs := List.take_of_length_le (by rw [HX.out]; exact Nat.le_refl _)
        rw [ht]
        go_wp2
        refine bodyPost_ret (v := .tuple #[.int .i64 m, .int .i64 26, .int .u64 (numOf xs 0), .int .i64 (4 + 1), .int .i64 0]) (by simp [results, Tryz.results110, go_sem]) rfl ⟨rfl, nq, rfl⟩
set_option maxRecDepth 100000 in
set_option maxHeartbeats 4000000 in
theorem get3 (bg o l c m : Nat) (xs : List Int) (w : World) (hm : m ≤ 7) (hx : xs.length = 8) (hxb : ∀ b ∈ xs, Byte b) (hl : 8 < l) (hlc : l ≤ c) (hl2 : l ≤ 1048576) (hc : w.cell? ⟨bg, o, none⟩ = some (.int .u8 ((m : Int) * 32 + 27))) (hcs : BytesAt w bg (o + 1) xs) :
    Calls Tryz.prog 110 #[.slice (some ⟨bg, o, none⟩) l c] w (GetPost m 27 (numOf xs 0) (8 + 1) w) := by
  have hl' : (0 : Int) < l := by omega
  have hl3 : (8 : Int) < l := by omega
  have q1 : ((l : Int) == 0) = false := by simp; omega
  have q2 : ((m : Int) * 32 + 27) / 32 = m := by omega
  have q3 := and31 m 27 (by omega) (by omega) (by omega)
  have q5 : ¬ l = 0 := by omega
  have q6 : ¬ c = 1 := by omega
  have q7 : (8 : Int) + 1 ≤ c := by omega
  have q8 : decide ((l : Int) ≤ 8) = false := decide_eq_false (by omega)
  have HX := Lib.hid hx
  have HCS := Lib.hid hcs
  clear hx hcs
  by_cases hm7 : m = 7
  · subst hm7
    go_enter Tryz.func110, Tryz.ntmps110
    go_wp2_with fail
    go_quiet (fail)
    go_wp2
    go_loop [10, 81] (fun x i => ∃ k : Nat, k ≤ 8 ∧ i = .int .i64 k ∧ x = .int .u64 (numOf (xs.take k) 0)) (fun _ i => 8 - (intOf i).toNat)
    case atStart => exact ⟨0, by omega, rfl, rfl⟩
    case round =>
      obtain ⟨k, hk, rfl, rfl⟩ := hrel
      by_cases hlt : k < 8
      · have hkx : k < xs.length := by rw [HX.out]; exact hlt
        obtain ⟨b, hb⟩ : ∃ b, xs[k]? = some b := ⟨_, List.getElem?_eq_getElem hkx⟩
        have hbb := hxb b (List.mem_of_getElem? hb)
        have hcell := HCS.out k b hb
        have hbd := numOf_lt (xs.take k) 0 0 (fun b hb => hxb b (List.mem_of_mem_take hb)) (Int.le_refl _) (by decide)
        have hs := numOf_snoc b (xs.take k) 0
        rw [← (show xs.take (k + 1) = xs.take k ++ [b] by rw [List.take_add_one, hb]; rfl)] at hs
        rw [Nat.zero_add, List.length_take, Nat.min_eq_left (by omega)] at hbd
        have hp : (256 : Int) ^ k ≤ 256 ^ (8 - 1) := (by exact_mod_cast Nat.pow_le_pow_right (show 0 < 256 by decide) (show k ≤ 8 - 1 by omega))
        have hp2 : (256 : Int) ^ (8 - 1) = 72057594037927936 := by decide
        obtain ⟨y, hy⟩ : ∃ y, numOf (xs.take k) 0 = y := ⟨_, rfl⟩
        rw [hy] at hbd hs ⊢
        have hw : IntKind.u64.wrap (y * 256) = y * 256 := wraps_u64 _ (by omega) (by omega)
        have ho := or_byte y b hbd.1 (by omega) hbb
        have HS := Lib.hid hs
        have hb0 : 0 ≤ b := hbb.1
        have hb1 : b < 256 := hbb.2
        have hy0 := hbd.1
        clear hs hy hp hp2 hbd hbb hb hkx
        have hlt' : (k : Int) < 8 := by omega
        go_wp2
        go_round
        case rel => exact ⟨k + 1, by omega, by go_num, by rw [HS.out]⟩
        case measure => simp [intOf]; omega
      · obtain rfl : k = 8 := by omega
        have ht : xs.take 8 = xs := List.take_of_length_le (by rw [HX.out]; exact Nat.le_refl _)
        rw [ht]
        go_wp2
        refine bodyPost_ret (v := .tuple #[.int .i64 ((7 : Nat) : Int), .int .i64 27, .int .u64 (numOf xs 0), .int .i64 (8 + 1), .int .i64 0]) (by simp [results, Tryz.results110, go_sem]) rfl ⟨rfl, nq, rfl⟩
  · have r0 : ((m : Int) == 7) = false := by simp; omega
    go_enter Tryz.func110, Tryz.ntmps110
    go_wp2_with fail
    go_quiet (fail)
    go_wp2
    go_loop [10, 81] (fun x i => ∃ k : Nat, k ≤ 8 ∧ i = .int .i64 k ∧ x = .int .u64 (numOf (xs.take k) 0)) (fun _ i => 8 - (intOf i).toNat)
    case atStart => exact ⟨0, by omega, rfl, rfl⟩
    case round =>
      obtain ⟨k, hk, rfl, rfl⟩ := hrel
      by_cases hlt : k < 8
      · have hkx : k < xs.length := by rw [HX.out]; exact hlt
        obtain ⟨b, hb⟩ : ∃ b, xs[k]? = some b := ⟨_, List.getElem?_eq_getElem hkx⟩
        have hbb := hxb b (List.mem_of_getElem? hb)
        have hcell := HCS.out k b hb
        have hbd := numOf_lt (xs.take k) 0 0 (fun b hb => hxb b (List.mem_of_mem_take hb)) (Int.le_refl _) (by decide)
        have hs := numOf_snoc b (xs.take k) 0
        rw [← (show xs.take (k + 1) = xs.take k ++ [b] by rw [List.take_add_one, hb]; rfl)] at hs
        rw [Nat.zero_add, List.length_take, Nat.min_eq_left (by omega)] at hbd
        have hp : (256 : Int) ^ k ≤ 256 ^ (8 - 1) := (by exact_mod_cast Nat.pow_le_pow_right (show 0 < 256 by decide) (show k ≤ 8 - 1 by omega))
        have hp2 : (256 : Int) ^ (8 - 1) = 72057594037927936 := by decide
        obtain ⟨y, hy⟩ : ∃ y, numOf (xs.take k) 0 = y := ⟨_, rfl⟩
        rw [hy] at hbd hs ⊢
        have hw : IntKind.u64.wrap (y * 256) = y * 256 := wraps_u64 _ (by omega) (by omega)
        have ho := or_byte y b hbd.1 (by omega) hbb
        have HS := Lib.hid hs
        have hb0 : 0 ≤ b := hbb.1
        have hb1 : b < 256 := hbb.2
        have hy0 := hbd.1
        clear hs hy hp hp2 hbd hbb hb hkx
        have hlt' : (k : Int) < 8 := by omega
        go_wp2
        go_round
        case rel => exact ⟨k + 1, by omega, by go_num, by rw [HS.out]⟩
        case measure => simp [intOf]; omega
      · obtain rfl : k = 8 := by omega
        have ht : xs.take 8 = xs := List.take_of_length_le (by rw [HX.out]; exact Nat.le_refl _)
        rw [ht]
        go_wp2
        refine bodyPost_ret (v := .tuple #[.int .i64 m, .int .i64 27, .int .u64 (numOf xs 0), .int .i64 (8 + 1), .int .i64 0]) (by simp [results, Tryz.results110, go_sem]) rfl ⟨rfl, nq, rfl⟩
end Go.Proofs.YtfmceonbejlhlaaGreatDoor

/-
  cbor's Reader: what it holds; a head is read.
-/
namespace Go.Proofs.YtfmceonbejlhlaaGreatDoor
open Go.RowKit Go.Proofs.YtfmceonbejlhlaaGreatDoorW.PrintWords Go.Proofs.YtfmceonbejlhlaaGreatDoorW.PrintLast Go.Proofs.YtfmceonbejlhlaaGreatDoorW.PrintMore
set_option linter.unusedVariables false

/-- What the reader holds, and where it stands. -/
structure Rs (base rp bp bg n cap qb : Nat) (bs : List Int) (pos : Nat) (st : List PartC) (wh : Option T) (count : Nat) (W : World) : Prop where
  rb : Rb W rp bp bg n cap pos
  build : BuildIs W base bp st wh count
  bytes : BytesAt W bg 0 bs
  len : bs.length = n
  cap_ : n ≤ cap
  small : n ≤ 1048576
  old : bg < base
  new : base ≤ rp
  size : base ≤ W.heap.size
  at_ : pos ≤ n
  kept : Blk W qb 58 #[.pointer none]
theorem BuildIs.alike {W W' : World} {base bp count : Nat} {st : List PartC} {wh : Option T} (h : BuildIs W base bp st wh count) (hs : ∀ g t, TyIs W g t → Bt t → W'.heap[g]? = W.heap[g]?) : BuildIs W' base bp st wh count := by
  obtain ⟨ov, rs, hO, hst, hbp, hw⟩ := h
  have hs2 : ∀ g, TyIs W g 220 ∨ (TyIs W g 25 ∧ ¬ (Lo base) g) → W'.heap[g]? = W.heap[g]? := fun g hg => by
    rcases hg with h | h
    · exact hs g 220 h (.inr (.inl rfl))
    · exact hs g 25 h.1 (.inl rfl)
  refine ⟨ov, rs, hO.alike hs2 hO.noLo, hst, hbp, ?_⟩
  cases wh with
  | none => exact (hs bp 122 (Bb.ty hw) (.inr (.inr rfl))).trans hw
  | some t =>
    obtain ⟨a, c, h1, h2⟩ := hw
    exact ⟨a, c, (hs bp 122 (Bb.ty h1) (.inr (.inr rfl))).trans h1, h2.alike hs2⟩
section
variable {base rp bp bg n cap qb pos count : Nat} {bs : List Int} {st : List PartC} {wh : Option T} {W W' : World} (h : Rs base rp bp bg n cap qb bs pos st wh count W)
include h
theorem Rs.below (hb : Below W.heap.size W W') : Rs base rp bp bg n cap qb bs pos st wh count W' :=
  ⟨h.rb.below hb, h.build.alike (fun g t ht _ => hb.block g ht.lt), fun j b hj => (hb.cell (p := ⟨bg, 0 + j, none⟩) (Nat.lt_of_lt_of_le h.old h.size)).trans (h.bytes j b hj), h.len, h.cap_, h.small, h.old, h.new, Nat.le_trans h.size hb.size, h.at_, (hb.block qb (Blk.lt h.kept)).trans h.kept⟩
theorem Rs.setPos (p : Nat) (hp : p ≤ n) : Rs base rp bp bg n cap qb bs p st wh count (W.setCell ⟨rp, 5, none⟩ (.int .i64 p)) ∧ Below base W (W.setCell ⟨rp, 5, none⟩ (.int .i64 p)) := by
  have hb := (Below.refl base W).setCell (p := ⟨rp, 5, none⟩) h.new (.int .i64 p)
  refine ⟨⟨h.rb.set p, h.build.alike (fun g t ht hB => Below.heap_setCell _ ⟨rp, 5, none⟩ _ g (ty_ne ht h.rb.ty (by rintro rfl; rcases hB with h | h | h <;> cases h))), fun j b hj => (hb.cell (p := ⟨bg, 0 + j, none⟩) h.old).trans (h.bytes j b hj), h.len, h.cap_, h.small, h.old, h.new, Nat.le_trans h.size hb.size, hp, Blk.far h.kept (p := ⟨rp, 5, none⟩) (ty_ne (s := 58) (t := 85) ⟨_, _, h.kept⟩ h.rb.ty (by decide)) _⟩, hb⟩
theorem Rs.built {st' : List PartC} {wh' : Option T} {count' : Nat} (hb : BuildIs W' base bp st' wh' count') (hB : Built base W W') : Rs base rp bp bg n cap qb bs pos st' wh' count' W' :=
  ⟨h.rb.keep hB.2, hb, fun j b hj => (hB.1.cell (p := ⟨bg, 0 + j, none⟩) h.old).trans (h.bytes j b hj), h.len, h.cap_, h.small, h.old, h.new, Nat.le_trans h.size hB.size, h.at_, hB.2.blk h.kept (by intro h; rcases h with h | h | h <;> cases h)⟩
end
/-- What a method of the reader leaves. -/
def ReadPost (base rp bp bg n cap qb : Nat) (bs : List Int) (v : Value) (pos : Nat) (st : List PartC) (wh : Option T) (count : Nat) (w : World) (e : Ending) (w' : World) : Prop := e = .returned v ∧ Rs base rp bp bg n cap qb bs pos st wh count w' ∧ Below base w w'
theorem mod_mul256 (n : Int) (k : Nat) (h : 0 ≤ n) : n / 256 ^ k % 256 * 256 ^ k + n % 256 ^ k = n % (256 ^ k * 256) := by
  obtain ⟨m, rfl⟩ := Int.eq_ofNat_of_zero_le h
  obtain ⟨P, hP⟩ : ∃ P : Nat, 256 ^ k = P := ⟨_, rfl⟩
  have hP' : (256 : Int) ^ k = (P : Int) := by rw [← hP]; exact (Int.natCast_pow 256 k).symm
  rw [hP']
  have h1 := Nat.mod_mul (x := m) (a := P) (b := 256)
  have h2 : ((m % (P * 256) : Nat) : Int) = ((m % P + P * (m / P % 256) : Nat) : Int) := by rw [h1]
  rw [Int.natCast_add, Int.natCast_mul, Int.natCast_emod, Int.natCast_emod, Int.natCast_emod, Int.natCast_ediv, Int.natCast_mul] at h2
  rw [Int.mul_comm (_ % 256), Int.add_comm]
  exact h2.symm
theorem numOf_bytes : ∀ (k : Nat) (n x : Int), 0 ≤ n → numOf (numBytes k n) x = x * 256 ^ k + n % 256 ^ k
  | 0, n, x, h => by simp [numBytes, numOf, Int.emod_one]
  | k + 1, n, x, h => by
    have e : (256 : Int) ^ (k + 1) = 256 ^ k * 256 := Int.pow_succ _ _
    have hp : (0 : Int) < 256 ^ k := Int.pow_pos (by decide)
    simp only [numBytes, numOf]
    rw [numOf_bytes k n _ h, e, Int.add_mul, Int.mul_assoc, Int.mul_comm 256 (256 ^ k), Int.add_assoc]
    congr 1
    exact mod_mul256 n k h
theorem numBytes_byte : ∀ (k : Nat) (n : Int), ∀ b ∈ numBytes k n, Byte b
  | 0, n, b, h => by cases h
  | k + 1, n, b, h => by
    rcases List.mem_cons.1 h with rfl | h
    · exact ⟨Int.emod_nonneg _ (by decide), Int.emod_lt_of_pos _ (by decide)⟩
    · exact numBytes_byte k n b h
/-- How a head tells its number. -/
def infoF (n : Int) : Int := if n < 24 then n else if n < 256 then 24 else if n < 65536 then 25 else if n < 4294967296 then 26 else 27
/-- A head of the shortest form is read. -/
theorem get_put (bg o l c m : Nat) (n : Int) (bs : List Int) (w : World) (hm : m ≤ 7) (h0 : 0 ≤ n) (h1 : n < 18446744073709551616) (h7 : m = 7 → n < 24 ∨ 31 < n) (hl : (putF m n).length ≤ l) (hlc : l ≤ c) (hl2 : l ≤ 1048576) (hb : BytesAt w bg o (putF m n)) :
    Calls Tryz.prog 110 #[.slice (some ⟨bg, o, none⟩) l c] w (GetPost m (infoF n) n (putF m n).length w) := by
  have nb := fun k => numBytes_len k n
  have key : ∀ k, n < 256 ^ k → numOf (numBytes k n) 0 = n := fun k hk => by rw [numOf_bytes k n 0 h0, Int.emod_eq_of_lt h0 hk]; omega
  have tail : ∀ f k, BytesAt w bg o (f :: numBytes k n) → BytesAt w bg (o + 1) (numBytes k n) := fun f k h j b hj => by
    rw [show o + 1 + j = o + (j + 1) by omega]
    exact h (j + 1) b (by simpa using hj)
  unfold putF at hl hb ⊢
  unfold infoF
  by_cases h24 : n < 24
  · rw [if_pos h24] at hl hb ⊢
    rw [if_pos h24]
    exact get_small bg o l c m n w hm h0 h24 hl (hb 0 _ rfl)
  rw [if_neg h24] at hl hb ⊢
  rw [if_neg h24]
  by_cases h8 : n < 256
  · rw [if_pos h8] at hl hb ⊢
    rw [if_pos h8]
    have := get0 bg o l c m (numBytes 1 n) w hm (nb 1) (numBytes_byte 1 n) (by simp [nb] at hl; omega) hlc hl2 (hb 0 _ rfl) (tail _ _ hb) (fun h b hb' => by
      rcases h7 h with h | h
      · exact absurd h h24
      · simp [numBytes] at hb'; omega)
    rw [key 1 (by simpa using h8)] at this
    simpa [nb] using this
  rw [if_neg h8] at hl hb ⊢
  rw [if_neg h8]
  by_cases h16 : n < 65536
  · rw [if_pos h16] at hl hb ⊢
    rw [if_pos h16]
    have := get1 bg o l c m (numBytes 2 n) w hm (nb 2) (numBytes_byte 2 n) (by simp [nb] at hl; omega) hlc hl2 (hb 0 _ rfl) (tail _ _ hb)
    rw [key 2 (by simpa using h16)] at this
    simpa [nb] using this
  rw [if_neg h16] at hl hb ⊢
  rw [if_neg h16]
  by_cases h32 : n < 4294967296
  · rw [if_pos h32] at hl hb ⊢
    rw [if_pos h32]
    have := get2 bg o l c m (numBytes 4 n) w hm (nb 4) (numBytes_byte 4 n) (by simp [nb] at hl; omega) hlc hl2 (hb 0 _ rfl) (tail _ _ hb)
    rw [key 4 (by simpa using h32)] at this
    simpa [nb] using this
  rw [if_neg h32] at hl hb ⊢
  rw [if_neg h32]
  have := get3 bg o l c m (numBytes 8 n) w hm (nb 8) (numBytes_byte 8 n) (by simp [nb] at hl; omega) hlc hl2 (hb 0 _ rfl) (tail _ _ hb)
  rw [key 8 (by simpa using h1)] at this
  simpa [nb] using this
end Go.Proofs.YtfmceonbejlhlaaGreatDoor

/-
  cbor's Reader: head, Need, ends, Room.
-/
namespace Go.Proofs.YtfmceonbejlhlaaGreatDoor
open Go.RowKit Go.Proofs.YtfmceonbejlhlaaGreatDoorW.PrintWords Go.Proofs.YtfmceonbejlhlaaGreatDoorW.PrintLast Go.Proofs.YtfmceonbejlhlaaGreatDoorW.PrintMore
set_option linter.unusedVariables false

/-- Bytes that Get reads as a head. -/
def Heads (hd : List Int) (m info x : Int) : Prop := 0 < hd.length ∧ ∀ (bg o l c : Nat) (W : World), hd.length ≤ l → l ≤ c → l ≤ 1048576 → BytesAt W bg o hd → Calls Tryz.prog 110 #[.slice (some ⟨bg, o, none⟩) l c] W (GetPost m info x hd.length W)
theorem heads_put (m : Nat) (n : Int) (hm : m ≤ 7) (h0 : 0 ≤ n) (h1 : n < 18446744073709551616) (h7 : m = 7 → n < 24 ∨ 31 < n) : Heads (putF m n) m (infoF n) n :=
  ⟨putF_pos m n, fun bg o l c W h2 h3 h4 h5 => get_put bg o l c m n [] W hm h0 h1 h7 h2 h3 h4 h5⟩
theorem heads_open (m : Nat) (hm : m ≤ 5) (hm2 : 2 ≤ m) : Heads [(m : Int) * 32 + 31] m 31 0 :=
  ⟨by simp, fun bg o l c W h2 h3 h4 h5 => get_open bg o l c m W hm hm2 h2 (h5 0 _ rfl)⟩
theorem heads_bits (k : Nat) (n : Int) (hk : k = 0 ∨ k = 1 ∨ k = 2) (h0 : 0 ≤ n) (h1 : n < 256 ^ (2 ^ (k + 1))) : Heads ((249 + (k : Int)) :: numBytes (2 ^ (k + 1)) n) 7 (25 + k) n := by
  refine ⟨by simp, fun bg o l c W h2 h3 h4 h5 => ?_⟩
  have nb := fun j => numBytes_len j n
  have key : numOf (numBytes (2 ^ (k + 1)) n) 0 = n := by rw [numOf_bytes _ n 0 h0, Int.emod_eq_of_lt h0 h1]; omega
  have tail : BytesAt W bg (o + 1) (numBytes (2 ^ (k + 1)) n) := fun j b hj => by
    rw [show o + 1 + j = o + (j + 1) by omega]
    exact h5 (j + 1) b (by simpa using hj)
  have hd := h5 0 _ rfl
  rcases hk with rfl | rfl | rfl
  · have := get1 bg o l c 7 _ W (by omega) (nb 2) (numBytes_byte 2 n) (by simp [nb] at h2; omega) h3 h4 hd tail
    rw [show numBytes 2 n = numBytes (2 ^ (0 + 1)) n from rfl, key] at this
    simpa [nb] using this
  · have := get2 bg o l c 7 _ W (by omega) (nb 4) (numBytes_byte 4 n) (by simp [nb] at h2; omega) h3 h4 hd tail
    rw [show numBytes 4 n = numBytes (2 ^ (1 + 1)) n from rfl, key] at this
    simpa [nb] using this
  · have := get3 bg o l c 7 _ W (by omega) (nb 8) (numBytes_byte 8 n) (by simp [nb] at h2; omega) h3 h4 hd tail
    rw [show numBytes 8 n = numBytes (2 ^ (2 + 1)) n from rfl, key] at this
    simpa [nb] using this
theorem bytes_from {W : World} {bg pos : Nat} {bs hd r : List Int} (h : BytesAt W bg 0 bs) (hd_ : bs.drop pos = hd ++ r) : BytesAt W bg pos hd := fun j b hj => by
  have h1 : bs[pos + j]? = some b := by
    rw [← List.getElem?_drop, hd_, List.getElem?_append_left (List.getElem?_eq_some_iff.1 hj).1]; exact hj
  have := h _ b h1
  rwa [Nat.zero_add] at this
theorem bytes_len {pos n : Nat} {bs hd r : List Int} (hl : bs.length = n) (h : bs.drop pos = hd ++ r) : pos + hd.length + r.length = n ∨ (hd = [] ∧ r = []) := by
  have := congrArg List.length h
  rw [List.length_drop, List.length_append] at this
  by_cases hp : pos ≤ n
  · exact .inl (by omega)
  · exact .inr ⟨List.eq_nil_of_length_eq_zero (by omega), List.eq_nil_of_length_eq_zero (by omega)⟩
theorem drop_more {pos : Nat} {bs hd r : List Int} (h : bs.drop pos = hd ++ r) : bs.drop (pos + hd.length) = r := by
  rw [← List.drop_drop, h, List.drop_left]
section
variable {base rp bp bg n cap qb : Nat} {bs : List Int}
set_option maxRecDepth 100000 in
set_option maxHeartbeats 4000000 in
theorem rhead_any (pos count : Nat) (st : List PartC) (wh : Option T) (w : World) (h : Rs base rp bp bg n cap qb bs pos st wh count w) (hd r : List Int) (hb : bs.drop pos = hd ++ r) (m info x : Int) (hh : Heads hd m info x) :
    Calls Tryz.prog 74 #[.pointer (some ⟨rp, 0, none⟩)] w (ReadPost base rp bp bg n cap qb bs (.tuple #[.int .i64 m, .int .i64 info, .int .u64 x]) (pos + hd.length) st wh count w) := by
  obtain ⟨L, hL⟩ : ∃ L, hd.length = L := ⟨_, rfl⟩
  have hlen : pos + L + r.length = n := by
    rcases bytes_len h.len hb with h' | h'
    · rw [← hL]; exact h'
    · have := hh.1; rw [h'.1] at this; simp at this
  have hpos := hh.1
  have hn := h.small
  have hc := h.cap_
  have HG : ∀ k, Calls Tryz.prog 110 #[.slice (some ⟨bg, pos, none⟩) (n - pos) (cap - pos)] (w.drewN k) (GetPost m info x L (w.drewN k)) := fun k => by
    have := hh.2 bg pos (n - pos) (cap - pos) (w.drewN k) (by omega) (by omega) (by omega) (bytes_from (W := w) h.bytes hb)
    rw [hL] at this
    exact this
  rw [hL]
  rw [hL] at hpos
  have HG2 := Lib.hid HG
  have HH := Lib.hid h
  have HR := Lib.hid (rest_any rp bp bg n cap pos w h.rb (by omega) hc hn)
  have HLen := Lib.hid hlen
  have b1 : (pos : Int) + L ≤ 1048576 := by omega
  have b2 : (0 : Int) < L := by omega
  have c5 : ∀ k, (w.drewN k).cell? ⟨rp, 5, none⟩ = some (.int .i64 pos) := fun k => h.rb.c5
  have cf : ∀ k, (w.drewN k).frozen? ⟨rp, 5, none⟩ = false := fun k => h.rb.fz 5
  clear h hb hh HG hL hlen hn hc
  go_enter Tryz.func74, Tryz.ntmps74
  go_wp2_with (first
    | (go_at_call 111; refine HR.out.mono ?_; rintro e w1 ⟨o, rfl, ho, k, rfl⟩; (obtain rfl : o = pos := ho (by have := HLen.out; omega)))
    | (go_at_call 110; refine (HG2.out _).mono ?_; rintro e w1 ⟨rfl, k2, rfl⟩)
    | (go_at_call 73; refine (fail_no _ _ _ _).mono ?_; rintro e w1 ⟨rfl, rfl⟩))
  have hs := (HH.out.below (below_drewN _ w (k + k2))).setPos (o + L) (by have := HLen.out; omega)
  rw [Int.natCast_add] at hs
  exact bodyPost_ret (v := .tuple #[.int .i64 m, .int .i64 info, .int .u64 x]) (by simp [results, Tryz.results74, go_sem]) rfl ⟨rfl, hs.1, (below_drewN _ _ _).trans hs.2⟩
set_option maxRecDepth 100000 in
set_option maxHeartbeats 4000000 in
/-- So many bytes are there. -/
theorem need_any (pos k count : Nat) (st : List PartC) (wh : Option T) (w : World) (h : Rs base rp bp bg n cap qb bs pos st wh count w) (hk : pos + k ≤ n) :
    Calls Tryz.prog 112 #[.pointer (some ⟨rp, 0, none⟩), .int .i64 k] w (RestPost bg n cap pos w) := by
  have hn := h.small
  have HR := Lib.hid (rest_any rp bp bg n cap pos w h.rb (by omega) h.cap_ hn)
  have hk2 : (k : Int) ≤ ((n - pos : Nat) : Int) := by omega
  clear h
  go_enter Tryz.func112, Tryz.ntmps112
  go_wp2_with (go_at_call 111; refine HR.out.mono ?_; rintro e w1 ⟨o, rfl, ho, j, rfl⟩)
  go_ret
  exact ⟨o, rfl, ho, j, rfl⟩
set_option maxRecDepth 100000 in
set_option maxHeartbeats 4000000 in
/-- Is there a stop? -/
theorem ends_any (pos count : Nat) (st : List PartC) (wh : Option T) (b : Int) (r : List Int) (w : World) (h : Rs base rp bp bg n cap qb bs pos st wh count w) (hb : bs.drop pos = b :: r) (hne : b ≠ 255) :
    Calls Tryz.prog 114 #[.pointer (some ⟨rp, 0, none⟩)] w (ReadPost base rp bp bg n cap qb bs (.bool false) pos st wh count w) := by
  have hlen := bytes_len (hd := [b]) (r := r) h.len hb
  have hlt : pos + 1 ≤ n := by rcases hlen with h' | h'; simp at h'; omega; simp at h'
  have hc := bytes_from (hd := [b]) (r := r) h.bytes hb 0 b rfl
  rw [Nat.add_zero] at hc
  have HN := Lib.hid (need_any pos 1 count st wh w h hlt)
  have hcc : ∀ k, (w.drewN k).cell? ⟨bg, pos, none⟩ = some (.int .u8 b) := fun k => hc
  have q1 : (b != 255) = true := by simpa using hne
  have q2 : (b == 255) = false := by simpa using hne
  have HH := Lib.hid h
  have hpn : (0 : Int) < ((n - pos : Nat) : Int) := by omega
  have hpn2 : 0 < n - pos := by omega
  have HLt := Lib.hid hlt
  clear h hb hne hc hlen hlt
  go_enter Tryz.func114, Tryz.ntmps114
  go_wp2_with (go_at_call 112; refine HN.out.mono ?_; rintro e w1 ⟨o, rfl, ho, j, rfl⟩; (obtain rfl : o = pos := ho (by have := HLt.out; omega)))
  go_ret
  exact ⟨rfl, HH.out.below (below_drewN _ _ _), below_drewN _ _ _⟩
set_option maxRecDepth 100000 in
set_option maxHeartbeats 4000000 in
theorem ends_stop (pos count : Nat) (st : List PartC) (wh : Option T) (r : List Int) (w : World) (h : Rs base rp bp bg n cap qb bs pos st wh count w) (hb : bs.drop pos = 255 :: r) :
    Calls Tryz.prog 114 #[.pointer (some ⟨rp, 0, none⟩)] w (ReadPost base rp bp bg n cap qb bs (.bool true) (pos + 1) st wh count w) := by
  have hlen := bytes_len (hd := [255]) (r := r) h.len hb
  have hlt : pos + 1 ≤ n := by rcases hlen with h' | h'; simp at h'; omega; simp at h'
  have hc := bytes_from (hd := [255]) (r := r) h.bytes hb 0 255 rfl
  rw [Nat.add_zero] at hc
  have HN := Lib.hid (need_any pos 1 count st wh w h hlt)
  have hcc : ∀ k, (w.drewN k).cell? ⟨bg, pos, none⟩ = some (.int .u8 255) := fun k => hc
  have HH := Lib.hid h
  have c5 : ∀ k, (w.drewN k).cell? ⟨rp, 5, none⟩ = some (.int .i64 pos) := fun k => h.rb.c5
  have cf : ∀ k, (w.drewN k).frozen? ⟨rp, 5, none⟩ = false := fun k => h.rb.fz 5
  have hpn : (0 : Int) < ((n - pos : Nat) : Int) := by omega
  have hpn2 : 0 < n - pos := by omega
  have hn := h.small
  have hp3 : (pos : Int) ≤ 1048576 := by omega
  have HLt := Lib.hid hlt
  clear h hb hc hlen hlt
  go_enter Tryz.func114, Tryz.ntmps114
  go_wp2_with (go_at_call 112; refine HN.out.mono ?_; rintro e w1 ⟨o, rfl, ho, j, rfl⟩; (obtain rfl : o = pos := ho (by have := HLt.out; omega)))
  have hs := (HH.out.below (below_drewN _ w j)).setPos (o + 1) (by have := HLt.out; omega)
  rw [Int.natCast_add] at hs
  go_ret
  exact ⟨rfl, hs.1, (below_drewN _ _ _).trans hs.2⟩
set_option maxRecDepth 100000 in
set_option maxHeartbeats 4000000 in
/-- There is room. -/
theorem room1 (pos count : Nat) (st : List PartC) (wh : Option T) (at_ m : Int) (w : World) (h : Rs base rp bp bg n cap qb bs pos st wh count w) (hm0 : 0 ≤ m) (hm : m * 1 ≤ 1048576 - pos) :
    Calls Tryz.prog 115 #[.pointer (some ⟨rp, 0, none⟩), .int .i64 at_, .int .u64 m, .int .u64 1] w fun e w' => e = .returned (.tuple #[]) ∧ ∃ k, w' = w.drewN k := by
  have c3 := h.rb.c3
  have c5 := h.rb.c5
  have hp := h.at_
  have hn := h.small
  have hp3 : (pos : Int) ≤ 1048576 := by omega
  have hw1 : IntKind.i64.wrap (1048576 - (pos : Int)) = 1048576 - pos := IntWalk.i64_in _ (by omega)
  have hw2 : IntKind.u64.wrap (1048576 - (pos : Int)) = 1048576 - pos := wraps_u64 _ (by omega) (by omega)
  have hw5 : decide ((1048576 - (pos : Int)) < m) = false := decide_eq_false (by omega)
  clear h
  go_enter Tryz.func115, Tryz.ntmps115
  go_wp2_with fail
  go_quiet ((go_at_call 73; exact Calls.quiet_of_same (fail_no _ _ _ _)))
  go_wp2
  go_end0
  exact ⟨rfl, nq, rfl⟩
set_option maxRecDepth 100000 in
set_option maxHeartbeats 4000000 in
/-- There is room. -/
theorem room2 (pos count : Nat) (st : List PartC) (wh : Option T) (at_ m : Int) (w : World) (h : Rs base rp bp bg n cap qb bs pos st wh count w) (hm0 : 0 ≤ m) (hm : m * 2 ≤ 1048576 - pos) :
    Calls Tryz.prog 115 #[.pointer (some ⟨rp, 0, none⟩), .int .i64 at_, .int .u64 m, .int .u64 2] w fun e w' => e = .returned (.tuple #[]) ∧ ∃ k, w' = w.drewN k := by
  have c3 := h.rb.c3
  have c5 := h.rb.c5
  have hp := h.at_
  have hn := h.small
  have hp3 : (pos : Int) ≤ 1048576 := by omega
  have hw1 : IntKind.i64.wrap (1048576 - (pos : Int)) = 1048576 - pos := IntWalk.i64_in _ (by omega)
  have hw2 : IntKind.u64.wrap (1048576 - (pos : Int)) = 1048576 - pos := wraps_u64 _ (by omega) (by omega)
  have hw3 : (1048576 - (pos : Int)).tdiv 2 = (1048576 - pos) / 2 := Int.tdiv_eq_ediv_of_nonneg (by omega)
  have hw4 : IntKind.u64.wrap ((1048576 - (pos : Int)) / 2) = (1048576 - pos) / 2 := wraps_u64 _ (by omega) (by omega)
  have hw5 : decide ((1048576 - (pos : Int)) / 2 < m) = false := decide_eq_false (by omega)
  clear h
  go_enter Tryz.func115, Tryz.ntmps115
  go_wp2_with fail
  go_quiet ((go_at_call 73; exact Calls.quiet_of_same (fail_no _ _ _ _)))
  go_wp2
  go_end0
  exact ⟨rfl, nq, rfl⟩
end
end Go.Proofs.YtfmceonbejlhlaaGreatDoor

/-
  cbor's Reader: Event.
-/
namespace Go.Proofs.YtfmceonbejlhlaaGreatDoor
open Go.RowKit Go.Proofs.YtfmceonbejlhlaaGreatDoorW.PrintWords Go.Proofs.YtfmceonbejlhlaaGreatDoorW.PrintLast Go.Proofs.YtfmceonbejlhlaaGreatDoorW.PrintMore
set_option linter.unusedVariables false

/-- The lists that are open are short. -/
def Short (st : List PartC) : Prop := st.length ≤ 4294967295 ∧ ∀ p ∈ st, p.l.length ≤ 4294967296
/-- An event may go on where this is open. -/
def MayC (st : List PartC) (count : Nat) (k : Int) (neg : Bool) (n : Int) (s : ByteArray) : Prop := rightF k neg n s = true ∧ st.length + depthF ⟨k, neg, n, s, []⟩ ≤ 64 ∧ count < 65536 ∧ ∀ p rest, st = p :: rest → p.k = 13 → p.n / 2 = 1 → oneF 13 false 2 ⟨#[]⟩ [⟨k, neg, n, s, []⟩] = true
theorem MayC.ok {rs : List Raw} {count : Nat} {k : Int} {neg : Bool} {n : Int} {s : ByteArray} (h : MayC (rs.map Raw.c) count k neg n s) : MayOk rs count k neg n s := by
  obtain ⟨h1, h2, h3, h4⟩ := h
  rw [List.length_map] at h2
  exact ⟨h1, h2, h3, fun p rest e hk hn => h4 p.c (rest.map Raw.c) (by rw [e]; rfl) hk hn⟩
theorem Short.rows {rs : List Raw} (h : Short (rs.map Raw.c)) : rs.length ≤ 4294967295 ∧ ∀ r ∈ rs, r.rows.length ≤ 4294967296 := by
  obtain ⟨h1, h2⟩ := h
  rw [List.length_map] at h1
  refine ⟨h1, fun r hr => ?_⟩
  have := h2 r.c (List.mem_map_of_mem hr)
  simpa [Raw.c] using this
/-- What Put brings about. -/
def Puts (base bp : Nat) (st : List PartC) (count : Nat) (k : Int) (neg : Bool) (n : Int) (s : ByteArray) (st' : List PartC) (wh' : Option T) (count' : Nat) : Prop :=
  ∀ W, BuildIs W base bp st none count → base ≤ W.heap.size → Calls Tryz.prog 113 #[.pointer (some ⟨bp, 0, none⟩), .agg #[.int .i64 k, .bool neg, .int .u64 n, .string s]] W (BuildPost base bp (.int .i64 0) st' wh' count' W)
theorem puts_leaf (base bp : Nat) (st : List PartC) (count : Nat) (k : Int) (neg : Bool) (n : Int) (s : ByteArray) (hs : s.size ≤ 1073741824) (hm : MayC st count k neg n s) (hsh : Short st) (hk : k ≠ 15) (hl : leafF k = true) :
    Puts base bp st count k neg n s (addC st ⟨k, neg, n, s, []⟩).1 (addC st ⟨k, neg, n, s, []⟩).2 (count + 1) := by
  rintro W ⟨ov, rs, hO, rfl, hbp, hB⟩ hb
  exact put_leaf base bp rs ov count k neg n s W hs hb hbp hO hB hsh.rows.1 hsh.rows.2 hm.ok hk hl
theorem puts_open (base bp : Nat) (st : List PartC) (count : Nat) (k n : Int) (hm : MayC st count k false n ⟨#[]⟩) (hsh : Short st) (hk : k ≠ 15) (hl : leafF k = false) :
    Puts base bp st count k false n ⟨#[]⟩ (⟨k, n, []⟩ :: st) none (count + 1) := by
  rintro W ⟨ov, rs, hO, rfl, hbp, hB⟩ hb
  exact put_open base bp rs ov count k n W hb hbp hO hB hsh.rows.1 hsh.rows.2 hm.ok hk hl
theorem puts_end (base bp : Nat) (p : PartC) (rest : List PartC) (count : Nat) (hsh : Short (p :: rest)) (hk : p.k ≠ 13) (hkey : ¬ (p.k = 12 ∧ p.l.length % 2 = 1)) :
    Puts base bp (p :: rest) count 15 false 0 ⟨#[]⟩ (addC rest ⟨p.k, false, p.n, ⟨#[]⟩, p.l⟩).1 (addC rest ⟨p.k, false, p.n, ⟨#[]⟩, p.l⟩).2 count := by
  rintro W ⟨ov, rs, hO, hst, hbp, hB⟩ hb
  match rs, hst, hO, hB with
  | r :: rs', hst, hO, hB =>
    have h1 : r.c = p := by injection hst
    have h2 : rs'.map Raw.c = rest := by injection hst
    subst h1 h2
    have hr := (show Short ((r :: rs').map Raw.c) from hsh).rows
    exact put_end base bp r rs' ov count W hb hbp hO hB (by have := hr.1; simp at this; omega) (fun x hx => hr.2 x (List.mem_cons_of_mem _ hx)) hk (by simpa [Raw.c] using hkey)
section
variable {base rp bp bg n cap qb : Nat} {bs : List Int}
set_option maxRecDepth 100000 in
set_option maxHeartbeats 4000000 in
theorem event_any (pos count count' : Nat) (st st' : List PartC) (wh' : Option T) (at_ k nn : Int) (neg : Bool) (s : ByteArray) (w : World) (h : Rs base rp bp bg n cap qb bs pos st none count w) (hp : Puts base bp st count k neg nn s st' wh' count') :
    Calls Tryz.prog 75 #[.pointer (some ⟨rp, 0, none⟩), .int .i64 at_, .agg #[.int .i64 k, .bool neg, .int .u64 nn, .string s]] w (ReadPost base rp bp bg n cap qb bs (.tuple #[]) pos st' wh' count' w) := by
  have hbel := (Below.refl _ w).alloc (Nat.le_refl _) (.cells #[.int .i64 k, .bool neg, .int .u64 nn, .string s] 141)
  have h1 := h.below hbel
  have RE := Blk.new w 141 #[.int .i64 k, .bool neg, .int .u64 nn, .string s]
  obtain ⟨W1, hW⟩ : ∃ W1, w.alloc (.cells #[.int .i64 k, .bool neg, .int .u64 nn, .string s] 141) = W1 := ⟨_, rfl⟩
  rw [hW] at hbel h1 RE
  have x0 := RE.cell (i := 0) rfl
  have x1 := RE.cell (i := 1) rfl
  have x2 := RE.cell (i := 2) rfl
  have x3 := RE.cell (i := 3) rfl
  have c0 := h1.rb.c0
  have h2 := (h1.below (W' := W1.drew) ((Below.refl _ _).drew))
  have hP := hp W1.drew h2.build h2.size
  have HP := Lib.hid hP
  have H2 := Lib.hid h2
  have hsz := h.size
  clear hP hp h h1 h2 RE
  go_enter Tryz.func75, Tryz.ntmps75
  go_wp2_with fail
  clear hW
  go_still_tail 5, (by kernel_rfl)
  change wpList _ _ _ _ _ W1.drew
  have hb2 : Below base w W1.drew := (hbel.mono hsz).drew
  generalize W1.drew = W2 at HP H2 hb2 ⊢
  go_wp2_with (go_at_call 113; refine HP.out.mono ?_; rintro e w3 ⟨rfl, hbi, hbt⟩)
  go_end0
  exact ⟨rfl, H2.out.built hbi hbt, hb2.trans hbt.1⟩
end
end Go.Proofs.YtfmceonbejlhlaaGreatDoor
