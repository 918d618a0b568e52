/-
  The two texts' Encode, and the reference's Point, without Go: they tell 'enc' and 'pt'.
-/
import Derived.Test.YtlbokaekhjjabaaUx10
import Derived.Test.YtlbokaekhjjabaaUx11
import Derived.Test.YtlbokaekhjjabaaUx12
import Derived.Test.YtlbokaekhjjabaaUtfB
import Derived.Test.YtlbokaekhjjabaaUtfD
namespace Go.Proofs.Ytlbokaekhjjabaa.Pure
open Go.RowKit Go.Proofs.Ytlbokaekhjjabaa Go.Proofs.Ytlbokaekhjjabaa.U Go.Proofs.YtlbokaekhjjabaaW.PrintWords Go.Proofs.YtlbokaekhjjabaaW.PrintLast Go.Proofs.YtlbokaekhjjabaaW.PrintMore

theorem enc_nums (c : Int) : enc c = strOfNums (encL c) := rfl

theorem andM (i : Nat) (hi : i ≤ 62) (x : Int) (h₀ : 0 ≤ x) (h₁ : x < 4294967296) : bits .and .i64 x (2 ^ i - 1) = x % 2 ^ i := bits_mask .i64 62 (by decide) wraps_i64 i hi x h₀ (by omega)
theorem and63c (x : Int) (h₀ : 0 ≤ x) (h₁ : x < 4294967296) : bits .and .i64 x 63 = x % 64 := andM 6 (by decide) x h₀ h₁
theorem orJ (i : Nat) (x y : Int) (hx₀ : 0 ≤ x) (hx : x % 2 ^ i = 0) (hx₁ : x < 4294967296) (h₀ : 0 ≤ y) (h₁ : y < 2 ^ i) (h₂ : y < 4294967296) : bits .or .i64 x y = x + y :=
  bits_join .i64 62 (by decide) wraps_i64 i x y hx₀ hx (by omega) h₀ h₁ (by omega)

theorem encL_in (c : Int) (h0 : 0 ≤ c) (h1 : c ≤ 1114111) (hs : ¬ (55296 ≤ c ∧ c ≤ 57343)) : encL c =
    if c < 128 then [c] else if c < 2048 then [192 + c / 64, 128 + c % 64] else if c < 65536 then [224 + c / 4096, 128 + c / 64 % 64, 128 + c % 64]
    else [240 + c / 262144, 128 + c / 4096 % 64, 128 + c / 64 % 64, 128 + c % 64] := by
  unfold encL
  rw [if_neg (by omega)]

/-! ### the reference's Encode -/
theorem refEncode_j0 (c : Int) (h0 : 0 ≤ c) (h1 : c ≤ 1114111) (hs : ¬ (55296 ≤ c ∧ c ≤ 57343)) (k : Nat) : glossatorref02_Encode.j0 (k + 1) c false = some (enc c) := by
  rw [glossatorref02_Encode.j0, if_neg (by decide), enc_nums, encL_in c h0 h1 hs]
  by_cases a1 : c < 128
  · rw [if_pos a1, if_pos a1, show c % 256 = c by omega]
  · rw [if_neg a1, if_neg a1]
    have e63 := and63c c (by omega) (by omega)
    have o0 : bits .or .i64 128 (c % 64) = 128 + c % 64 := orJ 6 128 (c % 64) (by decide) (by decide) (by decide) (by omega) (by omega) (by omega)
    by_cases a2 : c < 2048
    · rw [if_pos a2, if_pos a2, e63, o0, orJ 5 192 (c / 64) (by decide) (by decide) (by decide) (by omega) (by omega) (by omega), show (192 + c / 64) % 256 = 192 + c / 64 by omega, show (128 + c % 64) % 256 = 128 + c % 64 by omega]
    · rw [if_neg a2, if_neg a2]
      have e63b := and63c (c / 64) (by omega) (by omega)
      have o1 : bits .or .i64 128 (c / 64 % 64) = 128 + c / 64 % 64 := orJ 6 128 (c / 64 % 64) (by decide) (by decide) (by decide) (by omega) (by omega) (by omega)
      by_cases a3 : c < 65536
      · rw [if_pos a3, if_pos a3, e63, o0, e63b, o1, orJ 4 224 (c / 4096) (by decide) (by decide) (by decide) (by omega) (by omega) (by omega), show (224 + c / 4096) % 256 = 224 + c / 4096 by omega, show (128 + c / 64 % 64) % 256 = 128 + c / 64 % 64 by omega, show (128 + c % 64) % 256 = 128 + c % 64 by omega]
      · rw [if_neg a3, if_neg a3]
        have e63c := and63c (c / 4096) (by omega) (by omega)
        have o2 : bits .or .i64 128 (c / 4096 % 64) = 128 + c / 4096 % 64 := orJ 6 128 (c / 4096 % 64) (by decide) (by decide) (by decide) (by omega) (by omega) (by omega)
        rw [e63, o0, e63b, o1, e63c, o2, orJ 3 240 (c / 262144) (by decide) (by decide) (by decide) (by omega) (by omega) (by omega), show (240 + c / 262144) % 256 = 240 + c / 262144 by omega, show (128 + c / 4096 % 64) % 256 = 128 + c / 4096 % 64 by omega, show (128 + c / 64 % 64) % 256 = 128 + c / 64 % 64 by omega, show (128 + c % 64) % 256 = 128 + c % 64 by omega]

theorem enc_none (c : Int) (h : c < 0 ∨ c > 1114111 ∨ (55296 ≤ c ∧ c ≤ 57343)) : enc c = ⟨#[]⟩ := by
  rw [enc_nums]; unfold encL; rw [if_pos h]; rfl

theorem refEncode_f (c : Int) (k : Nat) : glossatorref02_Encode.f (k + 1) c = some (enc c) := by
  have ht : glossatorref02_Encode.j0 (k + 1) c true = some ⟨#[]⟩ := by rw [glossatorref02_Encode.j0, if_pos rfl]
  unfold glossatorref02_Encode.f
  by_cases a1 : c < 0
  · rw [if_pos a1, ht, enc_none c (.inl a1)]
  · rw [if_neg a1]
    by_cases a2 : c > 1114111
    · rw [if_pos a2, ht, enc_none c (.inr (.inl a2))]
    · rw [if_neg a2]
      by_cases a3 : c ≥ 55296
      · rw [if_pos a3]
        by_cases a4 : c ≤ 57343
        · rw [decide_eq_true a4, ht, enc_none c (.inr (.inr ⟨a3, a4⟩))]
        · rw [decide_eq_false a4, refEncode_j0 c (by omega) (by omega) (by omega) k]
      · rw [if_neg a3, refEncode_j0 c (by omega) (by omega) (by omega) k]

/-! ### the program's Encode -/
theorem l1_step (k : Nat) (c : Int) (x3 : List Int) (x4 x5 : Int) (hc : 0 ≤ c) (hc2 : c < 4294967296) (h5 : 0 < x5) (h6 : x5 ≤ 4) (hl : x3.length < 10) :
    utf_Encode.l1 (k + 1) c x3 x4 x5 = utf_Encode.l1 k (c / 64) ((128 + c % 64) :: x3) x4 (x5 - 1) := by
  have e : bits .or .u8 128 (bits .and .i64 c 63 % 256) = 128 + c % 64 := by
    rw [and63c c hc hc2, show c % 64 % 256 = c % 64 by omega]
    exact u8_or128 _ (by omega) (by omega)
  rw [utf_Encode.l1, if_pos (by omega), e, Option.bind_some, if_pos (by simp only [List.length_cons, List.length_nil]; omega), IntWalk.wrap64_in _ (by omega)]
  rfl
theorem l1_end (k : Nat) (c : Int) (x3 : List Int) (x4 : Int) (hn : 2 ≤ x4) (hl : x3.length < 10) (b : Int) (hb : bits .or .u8 (shr .i64 3840 x4 % 256) (c % 256) = b) :
    utf_Encode.l1 (k + 1) c x3 x4 0 = some (strOfNums (b :: x3)) := by
  rw [utf_Encode.l1, if_neg (by omega), if_pos (by omega), hb, Option.bind_some, if_pos (by simp only [List.length_cons, List.length_nil]; omega)]
  rfl
theorem shr_at (x : Int) (j : Nat) (hj : j ≤ 64) : shr .i64 x (j : Int) = x / 2 ^ j := by
  unfold shr
  rw [Int.toNat_natCast, Nat.min_eq_left (show j ≤ IntKind.i64.bits from hj)]
theorem l0_more (k : Nat) (c n : Int) (j : Nat) (hn : 2 ≤ n) (h4 : n < 4) (hj : 5 * n + 1 = j) (hc : c / 2 ^ j > 0) : utf_Encode.l0 (k + 1) c n = utf_Encode.l0 k c (n + 1) := by
  rw [utf_Encode.l0, if_pos h4, IntWalk.wrap64_in (5 * n) (by omega), IntWalk.wrap64_in _ (by omega), if_pos (by omega), hj, shr_at c j (by omega), if_pos hc, IntWalk.wrap64_in _ (by omega)]
theorem l0_stop (k : Nat) (c n : Int) (j : Nat) (hn : 2 ≤ n) (h4 : n < 4) (hj : 5 * n + 1 = j) (hc : ¬ c / 2 ^ j > 0) : utf_Encode.l0 (k + 2) c n = utf_Encode.l1 k c [] n (n - 1) := by
  rw [utf_Encode.l0, if_pos h4, IntWalk.wrap64_in (5 * n) (by omega), IntWalk.wrap64_in _ (by omega), if_pos (by omega), hj, shr_at c j (by omega), if_neg hc, utf_Encode.j2, IntWalk.wrap64_in _ (by omega)]
theorem l0_four (k : Nat) (c : Int) : utf_Encode.l0 (k + 2) c 4 = utf_Encode.l1 k c [] 4 3 := by
  rw [utf_Encode.l0, if_neg (by decide), utf_Encode.j2, IntWalk.wrap64_in _ (by omega)]
  rfl

theorem encode_j0 (c : Int) (h0 : 0 ≤ c) (h1 : c ≤ 1114111) (hs : ¬ (55296 ≤ c ∧ c ≤ 57343)) (k : Nat) : utf_Encode.j0 (k + 12) c false = some (enc c) := by
  rw [utf_Encode.j0, if_neg (by decide), enc_nums, encL_in c h0 h1 hs]
  by_cases a1 : c < 128
  · rw [if_pos a1, if_pos a1, show c % 256 = c by omega]
  · rw [if_neg a1, if_neg a1]
    have e0 : (c / 64) / 64 = c / 4096 := by omega
    have e1 : (c / 4096) / 64 = c / 262144 := by omega
    by_cases a2 : c < 2048
    · rw [if_pos a2, l0_stop _ c 2 11 (by decide) (by decide) (by decide) (by omega)]
      rw [show (2 : Int) - 1 = 1 from rfl, l1_step _ c [] 2 1 (by omega) (by omega) (by decide) (by decide) (by decide)]
      rw [show (1 : Int) - 1 = 0 from rfl]
      refine l1_end _ _ _ 2 (by decide) (by simp) (192 + c / 64) ?_
      rw [show shr .i64 3840 2 % 256 = 192 from by decide, show c / 64 % 256 = c / 64 by omega]
      exact u8_or192 _ (by omega) (by omega)
    · rw [if_neg a2, l0_more _ c 2 11 (by decide) (by decide) (by decide) (by omega)]
      rw [show (2 : Int) + 1 = 3 from rfl]
      by_cases a3 : c < 65536
      · rw [if_pos a3, l0_stop _ c 3 16 (by decide) (by decide) (by decide) (by omega)]
        rw [show (3 : Int) - 1 = 2 from rfl, l1_step _ c [] 3 2 (by omega) (by omega) (by decide) (by decide) (by decide)]
        rw [show (2 : Int) - 1 = 1 from rfl, l1_step _ (c / 64) _ 3 1 (by omega) (by omega) (by decide) (by decide) (by simp)]
        rw [show (1 : Int) - 1 = 0 from rfl, e0]
        refine l1_end _ _ _ 3 (by decide) (by simp) (224 + c / 4096) ?_
        rw [show shr .i64 3840 3 % 256 = 224 from by decide, show c / 4096 % 256 = c / 4096 by omega]
        exact u8_or224 _ (by omega) (by omega)
      · rw [if_neg a3, l0_more _ c 3 16 (by decide) (by decide) (by decide) (by omega)]
        rw [show (3 : Int) + 1 = 4 from rfl, l0_four]
        rw [l1_step _ c [] 4 3 (by omega) (by omega) (by decide) (by decide) (by decide)]
        rw [show (3 : Int) - 1 = 2 from rfl, l1_step _ (c / 64) _ 4 2 (by omega) (by omega) (by decide) (by decide) (by simp), e0]
        rw [show (2 : Int) - 1 = 1 from rfl, l1_step _ (c / 4096) _ 4 1 (by omega) (by omega) (by decide) (by decide) (by simp), e1]
        rw [show (1 : Int) - 1 = 0 from rfl]
        refine l1_end _ _ _ 4 (by decide) (by simp) (240 + c / 262144) ?_
        rw [show shr .i64 3840 4 % 256 = 240 from by decide, show c / 262144 % 256 = c / 262144 by omega]
        exact u8_or240 _ (by omega) (by omega)

theorem encode_f (c : Int) (k : Nat) : utf_Encode.f (k + 12) c = some (enc c) := by
  have ht : utf_Encode.j0 (k + 12) c true = some ⟨#[]⟩ := by rw [utf_Encode.j0, if_pos rfl]
  unfold utf_Encode.f
  by_cases a1 : c < 0
  · rw [if_pos a1, ht, enc_none c (.inl a1)]
  · rw [if_neg a1]
    by_cases a2 : c > 1114111
    · rw [if_pos a2, ht, enc_none c (.inr (.inl a2))]
    · rw [if_neg a2]
      by_cases a3 : c / 2048 = 27
      · rw [show (c / 2048 == 27) = true by simpa using a3, ht, enc_none c (.inr (.inr (by omega)))]
      · rw [show (c / 2048 == 27) = false by simpa using a3, encode_j0 c (by omega) (by omega) (by omega) k]

/-! ### the reference's Point -/
theorem vst_next (n i c acc : Int) (hn : n ≠ 1) (hi : i ≠ 0) : vst n i c acc = acc * 64 + c % 64 := by unfold vst; rw [if_neg hn, if_neg hi]

theorem acc_next (acc : Int) (d : Nat) (ha : 0 ≤ acc) (hb : (acc + 1) * 64 ^ (d + 1) ≤ 1073741824) : acc < 1073741824 ∧ ∀ r : Int, 0 ≤ r → r < 64 → (acc * 64 + r + 1) * 64 ^ d ≤ 1073741824 := by
  have hp : (1 : Int) ≤ 64 ^ d := by exact_mod_cast Nat.one_le_pow d 64 (by decide)
  rw [Int.pow_succ] at hb
  generalize (64 : Int) ^ d = x at hp hb
  have e : (acc + 1) * (x * 64) = ((acc + 1) * 64) * x := by rw [Int.mul_comm x, Int.mul_assoc]
  rw [e] at hb
  constructor
  · have : ((acc + 1) * 64) * 1 ≤ ((acc + 1) * 64) * x := Int.mul_le_mul_of_nonneg_left hp (by omega)
    omega
  · intro r h0 h1
    exact Int.le_trans (Int.mul_le_mul_of_nonneg_right (by omega) (by omega)) hb

theorem join6 (acc b : Int) (ha : 0 ≤ acc) (ha2 : acc < 1073741824) (hb : 0 ≤ b) (hb2 : b ≤ 255) :
    bits .or .i64 (wrap64 (acc * 64)) (bits .and .i64 (wrap64 b) 63) = acc * 64 + b % 64 ∧ 0 ≤ acc * 64 + b % 64 ∧ 0 ≤ b % 64 ∧ b % 64 < 64 := by
  refine ⟨?_, by omega, by omega, by omega⟩
  rw [IntWalk.wrap64_in _ (by omega), IntWalk.wrap64_in _ (by omega), and63c b (by omega) (by omega)]
  exact bits_join .i64 62 (by decide) wraps_i64 6 _ _ (by omega) (by omega) (by omega) (by omega) (by omega) (by omega)

theorem refPoint_l0 (s : ByteArray) (hs : s.size ≤ 140737488351232) (h0 : 0 < s.size) (n : Int) (hn : n = nd s[0].toNat) (h2 : 2 ≤ n) (hl : n ≤ s.size) (d : Nat) :
    ∀ (j : Nat) (acc : Int), 1 ≤ j → (j : Int) + d = n → 0 ≤ acc → (acc + 1) * 64 ^ d ≤ 1073741824 →
      Ev (fun k => glossatorref02_Point.l0 k s n acc j) (ptGo n (s.data.toList.drop j) j (n - j, lo s[0].toNat j, Pure.hi s[0].toNat j) acc) := by
  have h4 : n ≤ 4 := by rw [hn]; exact (rowOf_n s[0].toNat).2
  induction d with
  | zero =>
    intro j acc hj hjd ha hb
    rw [ptGo_end (by omega)]
    refine Ev.step (f := fun _ => some (acc, n)) (fun k => ?_) (Ev.now _)
    rw [glossatorref02_Point.l0, if_neg (by omega)]
  | succ d ih =>
    intro j acc hj hjd ha hb
    have hlt : j < s.size := by omega
    have hb0 := bt_nat s 0 h0
    have hbj := bt_nat s j hlt
    have hby := byte_le s[j]
    have hm := may_f s[0].toNat j s[j].toNat (by omega)
    obtain ⟨hacc, hbn⟩ := acc_next acc d ha hb
    clear hb
    rw [data_drop s j hlt, ptGo_in (by omega) (by omega)]
    by_cases hin : lo s[0].toNat j ≤ (s[j].toNat : Int) ∧ (s[j].toNat : Int) ≤ Pure.hi s[0].toNat j
    · rw [if_neg (by omega)]
      rw [decide_eq_true hin] at hm
      obtain ⟨e2, g1, g2, g3⟩ := join6 acc s[j].toNat ha hacc hby.1 hby.2
      have hnext := ih (j + 1) (acc * 64 + (s[j].toNat : Int) % 64) (by omega) (by omega) g1 (hbn _ g2 g3)
      rw [lo_next _ _ (by omega), hi_next _ _ (by omega)] at hnext
      rw [vst_next _ _ _ _ (by omega) (by omega)]
      rw [show ((j + 1 : Nat) : Int) = (j : Int) + 1 by omega, show n - ((j : Int) + 1) = n - j - 1 by omega] at hnext
      refine Ev.step (f := fun k => glossatorref02_Point.l0 k s n (acc * 64 + (s[j].toNat : Int) % 64) ((j : Int) + 1)) (fun k => ?_) hnext
      rw [glossatorref02_Point.l0, if_pos (by omega), if_pos (by omega), if_pos (by omega), if_pos (by omega), show bt s 0 = (s[0].toNat : Int) from hb0, hbj, hm, Option.bind_some, if_pos rfl, e2, IntWalk.wrap64_in _ (by omega)]
    · rw [if_pos (by omega)]
      rw [decide_eq_false hin] at hm
      refine Ev.step (f := fun _ => some (0, 0)) (fun k => ?_) (Ev.now _)
      rw [glossatorref02_Point.l0, if_pos (by omega), if_pos (by omega), if_pos (by omega), if_pos (by omega), show bt s 0 = (s[0].toNat : Int) from hb0, hbj, hm, Option.bind_some, if_neg (by decide)]

theorem refPoint_ev (s : ByteArray) (hs : s.size ≤ 140737488351232) : Ev (fun k => glossatorref02_Point.f k s) (pt s) := by
  by_cases h : s.size = 0
  · have hd : s.data.toList = [] := List.eq_nil_of_length_eq_zero (by rw [data_length]; exact h)
    have hp : pt s = (0, 0) := by unfold pt; rw [hd]; rfl
    rw [hp]
    refine Ev.congr (f := fun _ => some (0, 0)) (fun k => ?_) (Ev.now _)
    unfold glossatorref02_Point.f
    rw [if_pos (by rw [ByteArray.toList_eq]; exact hd)]
  · have hz : 0 < s.size := by omega
    have hne := (ne_nil s hz).2
    have hb0 := bt_nat s 0 hz
    have hby := byte_le s[0]
    have hnd := need_ev s[0].toNat hby.1 hby.2
    have h4 := rowOf_n s[0].toNat
    refine Ev.congr (f := fun k => (glossatorref02_need.f k s[0].toNat).bind fun t => (if t = 0 then (glossatorref02_Point.j0 k s t true) else (glossatorref02_Point.j0 k s t (decide (t > (s.size : Int)))))) (fun k => ?_) ?_
    · unfold glossatorref02_Point.f
      rw [if_neg hne, if_pos (by omega), show bt s 0 = (s[0].toNat : Int) from hb0]
    · refine Ev.bind (f := fun k t => (if t = 0 then (glossatorref02_Point.j0 k s t true) else (glossatorref02_Point.j0 k s t (decide (t > (s.size : Int)))))) hnd ?_
      rw [pt_some s hz]
      by_cases a1 : nd s[0].toNat = 0
      · rw [if_pos (.inl a1)]
        refine Ev.step (f := fun _ => some (0, 0)) (fun k => ?_) (Ev.now _)
        rw [if_pos a1, glossatorref02_Point.j0, if_pos rfl]
      · by_cases a2 : nd s[0].toNat > (s.size : Int)
        · rw [if_pos (.inr a2)]
          refine Ev.step (f := fun _ => some (0, 0)) (fun k => ?_) (Ev.now _)
          rw [if_neg a1, decide_eq_true a2, glossatorref02_Point.j0, if_pos rfl]
        · rw [if_neg (fun e => e.elim a1 a2)]
          have hd := data_drop s 0 hz
          rw [List.drop_zero] at hd
          rw [hd]
          obtain ⟨q1, q2, n, l, m, hr⟩ : ∃ q1 q2 n l m, rowOf leadRows s[0].toNat = (q1, q2, n, l, m) := ⟨_, _, _, _, _, rfl⟩
          have hn : nd s[0].toNat = n := by unfold nd; rw [hr]
          have hn' : (rowOf leadRows s[0].toNat).2.2.1 = n := hn
          rw [hn] at a1 a2 ⊢
          rw [hn'] at h4 ⊢
          rw [ptGo_first hr (by omega)]
          by_cases a3 : n = 1
          · subst a3
            rw [ptGo_end (by decide)]
            refine Ev.step (f := fun _ => some ((s[0].toNat : Int), 1)) (fun k => ?_) (Ev.now _)
            rw [if_neg a1, decide_eq_false a2, glossatorref02_Point.j0, if_neg (by decide), if_pos rfl, if_pos (by omega), show bt s 0 = (s[0].toNat : Int) from hb0, IntWalk.wrap64_in _ (by omega)]
          · have hv : bits .and .i64 (wrap64 (s[0].toNat : Int)) (shr .i64 255 (wrap64 (n + 1))) = vst n 0 s[0].toNat 0 := by
              rw [IntWalk.wrap64_in _ (by omega), IntWalk.wrap64_in _ (by omega)]
              unfold vst
              rw [if_neg a3, if_pos rfl]
              obtain rfl | rfl | rfl : n = 2 ∨ n = 3 ∨ n = 4 := by omega
              · rw [show shr .i64 255 (2 + 1) = 2 ^ 5 - 1 from by decide, if_pos rfl]; exact andM 5 (by decide) _ (by omega) (by omega)
              · rw [show shr .i64 255 (3 + 1) = 2 ^ 4 - 1 from by decide, if_neg (by decide), if_pos rfl]; exact andM 4 (by decide) _ (by omega) (by omega)
              · rw [show shr .i64 255 (4 + 1) = 2 ^ 3 - 1 from by decide, if_neg (by decide), if_neg (by decide)]; exact andM 3 (by decide) _ (by omega) (by omega)
            have hvb : 0 ≤ vst n 0 s[0].toNat 0 ∧ vst n 0 s[0].toNat 0 ≤ 31 := by
              unfold vst; rw [if_neg a3, if_pos rfl]; split <;> (try split) <;> omega
            have hloop := refPoint_l0 s hs hz n hn.symm (by omega) (by omega) (n - 1).toNat 1 (vst n 0 s[0].toNat 0) (by omega) (by omega) hvb.1 (by
              obtain rfl | rfl | rfl : n = 2 ∨ n = 3 ∨ n = 4 := by omega
              · show (_ + 1) * (64 : Int) ^ 1 ≤ _; omega
              · show (_ + 1) * (64 : Int) ^ 2 ≤ _; omega
              · show (_ + 1) * (64 : Int) ^ 3 ≤ _; omega)
            have hlo : lo s[0].toNat ((1 : Nat) : Int) = l := by unfold lo; rw [if_pos (by decide), hr]
            have hhi : Pure.hi s[0].toNat ((1 : Nat) : Int) = m := by unfold Pure.hi; rw [if_pos (by decide), hr]
            rw [hlo, hhi] at hloop
            refine Ev.step (f := fun k => glossatorref02_Point.l0 k s n (vst n 0 s[0].toNat 0) ((1 : Nat) : Int)) (fun k => ?_) hloop
            rw [if_neg a1, decide_eq_false a2, glossatorref02_Point.j0, if_neg (by decide), if_neg a3, if_pos (by omega), IntWalk.wrap64_in (n + 1) (by omega), if_pos (by omega), show bt s 0 = (s[0].toNat : Int) from hb0, ← hv, IntWalk.wrap64_in (n + 1) (by omega)]
            rfl

end Go.Proofs.Ytlbokaekhjjabaa.Pure
