/-
  The reference's Check and Within, without Go: they tell what the machine tells.
-/
import Derived.Test.YtlbokaekhjjabaaUx16
import Derived.Test.YtlbokaekhjjabaaUx18
import Derived.Test.YtlbokaekhjjabaaUtfA
import Derived.Lib.Strings
namespace Go.Proofs.Ytlbokaekhjjabaa.Pure
open Go.RowKit Go.Proofs.Ytlbokaekhjjabaa Go.Proofs.Ytlbokaekhjjabaa.U Go.Proofs.YtlbokaekhjjabaaW.PrintWords Go.Proofs.YtlbokaekhjjabaaW.PrintLast Go.Proofs.YtlbokaekhjjabaaW.PrintMore

/-- How many bytes a code point has that begins so. -/
abbrev nd (c : Int) : Int := (rowOf leadRows c).2.2.1

theorem need_f (c : Int) (h0 : 0 ≤ c) (h1 : c ≤ 255) (k : Nat) : glossatorref02_need.f (k + 2) c = some (nd c) := by
  unfold glossatorref02_need.f nd
  by_cases a1 : c < 128
  · rw [if_pos a1, row_1 h0 (by omega)]
  · rw [if_neg a1]
    by_cases a2 : c ≥ 194
    · rw [if_pos a2]
      by_cases a3 : c ≤ 223
      · simp only [glossatorref02_need.j0, a3, decide_true, if_true, row_2 a2 a3]
      · by_cases a4 : c ≥ 224
        · by_cases a5 : c ≤ 239
          · have : (rowOf leadRows c).2.2.1 = 3 := by
              obtain rfl | h | rfl | h : c = 224 ∨ (225 ≤ c ∧ c ≤ 236) ∨ c = 237 ∨ (238 ≤ c ∧ c ≤ 239) := by omega
              · rw [row_e0]
              · rw [row_3a h.1 h.2]
              · rw [row_ed]
              · rw [row_3b h.1 h.2]
            rw [this]
            simp [glossatorref02_need.j0, glossatorref02_need.j1, a3, a4, a5]
          · by_cases a6 : c ≤ 244
            · have : (rowOf leadRows c).2.2.1 = 4 := by
                obtain rfl | h | rfl : c = 240 ∨ (241 ≤ c ∧ c ≤ 243) ∨ c = 244 := by omega
                · rw [row_f0]
                · rw [row_4 h.1 h.2]
                · rw [row_f4]
              rw [this]
              simp [glossatorref02_need.j0, glossatorref02_need.j1, a3, a4, a5, a6]; omega
            · rw [row_high (by omega)]
              simp [glossatorref02_need.j0, glossatorref02_need.j1, a3, a4, a5, a6]
        · omega
    · rw [if_neg a2, row_cont (by omega) (by omega)]
      have a3 : ¬ 224 ≤ c := by omega
      have a4 : ¬ 240 ≤ c := by omega
      simp [glossatorref02_need.j0, glossatorref02_need.j1, a3, a4]

/-- Between what the byte at a place stands. -/
def lo (first i : Int) : Int := if i = 1 then (rowOf leadRows first).2.2.2.1 else 128
def hi (first i : Int) : Int := if i = 1 then (rowOf leadRows first).2.2.2.2 else 191

theorem may_f (first i c : Int) (h2 : 2 ≤ nd first) : glossatorref02_may.f first i c = some (decide (lo first i ≤ c ∧ c ≤ hi first i)) := by
  have key : ∀ a b : Int, (if c ≥ a then (some (decide (c ≤ b)) : Option Bool) else some false) = some (decide (a ≤ c ∧ c ≤ b)) := by
    intro a b
    by_cases h : c ≥ a
    · rw [if_pos h]; simp [h]
    · rw [if_neg h]; simp; omega
  unfold glossatorref02_may.f lo hi
  simp only [key]
  by_cases hi1 : i = 1
  · rw [if_pos hi1, if_pos hi1, if_pos hi1]
    unfold nd at h2
    obtain h | h | h | rfl | h | rfl | h | rfl | h | rfl | h : first < 0 ∨ (0 ≤ first ∧ first ≤ 127) ∨ (128 ≤ first ∧ first ≤ 223) ∨ first = 224 ∨ (225 ≤ first ∧ first ≤ 236) ∨ first = 237 ∨ (238 ≤ first ∧ first ≤ 239) ∨ first = 240 ∨ (241 ≤ first ∧ first ≤ 243) ∨ first = 244 ∨ 245 ≤ first := by omega
    · exfalso
      simp only [leadRows, rowOf] at h2
      repeat (rw [if_neg (by omega)] at h2)
      simp at h2
    · rw [row_1 h.1 h.2] at h2; simp at h2
    · by_cases h3 : first ≤ 193
      · rw [row_cont h.1 h3] at h2; simp at h2
      · rw [row_2 (by omega) h.2, if_neg (by omega), if_neg (by omega), if_neg (by omega), if_neg (by omega)]
    · rw [row_e0]; simp
    · rw [row_3a h.1 h.2, if_neg (by omega), if_neg (by omega), if_neg (by omega), if_neg (by omega)]
    · rw [row_ed]; simp
    · rw [row_3b h.1 h.2, if_neg (by omega), if_neg (by omega), if_neg (by omega), if_neg (by omega)]
    · rw [row_f0]; simp
    · rw [row_4 h.1 h.2, if_neg (by omega), if_neg (by omega), if_neg (by omega), if_neg (by omega)]
    · rw [row_f4]; simp
    · rw [row_high h] at h2; simp at h2
  · rw [if_neg hi1, if_neg hi1, if_neg hi1]

/-- The machine over a text of which n bytes are told (below 0: any number). -/
def gL (n : Int) : List UInt8 → St → Int → Int × Int
  | [], st, i => if n ≥ 0 then (if i < n then (i, 3) else (i, 0)) else if st.1 > 0 then (i, 3) else (i, 0)
  | c :: t, st, i => match stp st c.toNat (if n ≥ 0 then n - 1 - i else -1) with
    | none => (i, 4)
    | some st' => gL n t st' (i + 1)

theorem gL_chk (l : List UInt8) (st : St) (i n : Int) (hn : n < 0) : gL n l st i = chkL l st i := by
  induction l generalizing st i with
  | nil => simp only [gL, chkL]; rw [if_neg (by omega)]
  | cons c t ih =>
    simp only [gL, chkL]
    rw [if_neg (by omega)]
    cases stp st c.toNat (-1) with
    | none => rfl
    | some s1 => exact ih s1 (i + 1)

theorem gL_wth (l : List UInt8) (st : St) (i : Int) (n : Int) (hi : 0 ≤ i) (hn : i ≤ n) : gL n (l.take (n - i).toNat) st i = wthL n l st i := by
  induction l generalizing st i with
  | nil =>
    simp only [List.take_nil, gL, wthL]
    rw [if_pos (by omega)]
    split
    · rfl
    · rw [show i = n by omega]
  | cons c t ih =>
    by_cases h : i < n
    · rw [show (n - i).toNat = (n - (i + 1)).toNat + 1 by omega, List.take_succ_cons]
      simp only [gL, wthL]
      rw [if_pos (show n ≥ 0 by omega), if_pos h]
      cases stp st c.toNat (n - 1 - i) with
      | none => rfl
      | some s1 => exact ih s1 (i + 1) (by omega) (by omega)
    · rw [show (n - i).toNat = 0 by omega]
      simp only [List.take_zero, gL, wthL]
      rw [if_pos (by omega), if_neg h, if_neg h, show i = n by omega]


theorem bt_nat (s : ByteArray) (i : Nat) (h : i < s.size) : bt s (i : Int) = (s[i].toNat : Int) := by
  unfold bt; rw [dif_pos (by simpa using h)]; simp
theorem byte_le (c : UInt8) : (0 : Int) ≤ c.toNat ∧ (c.toNat : Int) ≤ 255 := by have := c.toNat_lt; omega

theorem need_ev (c : Int) (h0 : 0 ≤ c) (h1 : c ≤ 255) : Ev (fun k => glossatorref02_need.f k c) (nd c) :=
  ⟨2, fun k hk => by obtain ⟨m, rfl⟩ : ∃ m, k = m + 2 := ⟨k - 2, by omega⟩; exact need_f c h0 h1 m⟩

theorem lo_next (f j : Int) (h : j ≠ 1) : lo f j = 128 := if_neg h
theorem hi_next (f j : Int) (h : j ≠ 1) : hi f j = 191 := if_neg h

theorem gL_0 {st : St} (h : st.1 ≤ 0) (n : Int) (l : List UInt8) (i : Int) : gL n l st i = gL n l st0 i := by
  cases l with
  | nil => simp only [gL]; rw [if_neg (show ¬ st.1 > 0 by omega), if_neg (show ¬ st0.1 > 0 by decide)]
  | cons c t => simp only [gL]; rw [stp_0 h]

/-- The inner loop, if the outer one is known behind this code point. -/
theorem within_inner (s : ByteArray) (n : Int) (hs : s.size ≤ 140737488351232) (i : Nat) (hi : i < s.size)
    (h2 : 1 ≤ nd s[i].toNat) (hroom : n < 0 ∨ i + nd s[i].toNat ≤ n)
    (ih : ∀ q : Nat, i < q → q ≤ s.size → Ev (fun k => glossatorref02_within.l0 k s n (q : Int)) (gL n (s.data.toList.drop q) st0 q)) (d : Nat) :
    ∀ j : Nat, 1 ≤ j → (j : Int) + d = nd s[i].toNat → i + j ≤ s.size → Ev (fun k => glossatorref02_within.l1 k s n i (nd s[i].toNat) j) (gL n (s.data.toList.drop (i + j)) (nd s[i].toNat - j, lo s[i].toNat j, Pure.hi s[i].toNat j) ((i + j : Nat) : Int)) := by
  have h4 : nd s[i].toNat ≤ 4 := (rowOf_n s[i].toNat).2
  induction d with
  | zero =>
    intro j hj hjd hq
    have e0 : (nd s[i].toNat - j, lo s[i].toNat j, Pure.hi s[i].toNat j).1 ≤ 0 := by show nd s[i].toNat - (j : Int) ≤ 0; omega
    rw [gL_0 e0]
    refine Ev.step (f := fun k => glossatorref02_within.l0 k s n ((i + j : Nat) : Int)) (fun k => ?_) (ih (i + j) (by omega) hq)
    simp only [glossatorref02_within.l1]
    rw [if_neg (by omega), IntWalk.wrap64_in _ (by omega), show (i : Int) + nd s[i].toNat = ((i + j : Nat) : Int) by omega]
  | succ d ihd =>
    intro j hj hjd hq
    have hp : (nd s[i].toNat - j, lo s[i].toNat j, Pure.hi s[i].toNat j).1 > 0 := by show nd s[i].toNat - (j : Int) > 0; omega
    have hw : wrap64 ((i : Int) + (j : Int)) = ((i + j : Nat) : Int) := by rw [IntWalk.wrap64_in _ (by omega)]; omega
    by_cases hz : i + j = s.size
    · refine Ev.step (f := fun _ => some ((s.size : Int), 3)) (fun k => ?_) ?_
      · simp only [glossatorref02_within.l1]
        rw [if_pos (by omega), hw, if_pos (by omega)]
      · rw [show s.data.toList.drop (i + j) = [] from by rw [hz]; exact data_drop_all s]
        simp only [gL]
        rw [hz]
        by_cases hn0 : n ≥ 0
        · rw [if_pos hn0, if_pos (by omega)]; exact Ev.now _
        · rw [if_neg hn0, if_pos hp]; exact Ev.now _
    · have hlt : i + j < s.size := by omega
      have hbi := bt_nat s i hi
      have hbj := bt_nat s (i + j) hlt
      have hm := may_f s[i].toNat j (s[i + j].toNat) (by omega)
      rw [data_drop s (i + j) hlt]
      simp only [gL]
      by_cases hin : lo s[i].toNat j ≤ (s[i + j].toNat : Int) ∧ (s[i + j].toNat : Int) ≤ Pure.hi s[i].toNat j
      · have hst : ∀ r, stp (nd s[i].toNat - j, lo s[i].toNat j, Pure.hi s[i].toNat j) s[i + j].toNat r = some (nd s[i].toNat - ((j + 1 : Nat) : Int), lo s[i].toNat ((j + 1 : Nat) : Int), Pure.hi s[i].toNat ((j + 1 : Nat) : Int)) := by
          intro r
          unfold stp
          rw [if_pos hp, if_neg (by dsimp only; omega), lo_next s[i].toNat ((j + 1 : Nat) : Int) (by omega), hi_next s[i].toNat ((j + 1 : Nat) : Int) (by omega)]
          dsimp only
          congr 2
          omega
        rw [hst]
        dsimp only
        rw [decide_eq_true hin] at hm
        have hnext := ihd (j + 1) (by omega) (by omega) (by omega)
        rw [show ((i + (j + 1) : Nat) : Int) = ((i + j : Nat) : Int) + 1 by omega, show i + (j + 1) = i + j + 1 by omega] at hnext
        refine Ev.step (f := fun k => glossatorref02_within.l1 k s n i (nd s[i].toNat) ((j + 1 : Nat) : Int)) (fun k => ?_) hnext
        simp only [glossatorref02_within.l1]
        rw [if_pos (by omega), hw, if_neg (by omega), if_pos (by omega), if_pos (by omega), if_pos (by omega), if_pos (by omega), hbi, hbj, hm, Option.bind_some, if_pos rfl, IntWalk.wrap64_in _ (by omega)]
        rfl
      · have hst : ∀ r, stp (nd s[i].toNat - j, lo s[i].toNat j, Pure.hi s[i].toNat j) s[i + j].toNat r = none := by
          intro r
          unfold stp
          rw [if_pos hp, if_pos (by dsimp only; omega)]
        rw [hst]
        dsimp only
        rw [decide_eq_false hin] at hm
        refine Ev.step (f := fun _ => some (((i + j : Nat) : Int), 4)) (fun k => ?_) (Ev.now _)
        simp only [glossatorref02_within.l1]
        rw [if_pos (by omega), hw, if_neg (by omega), if_pos (by omega), if_pos (by omega), if_pos (by omega), if_pos (by omega), hbi, hbj, hm, Option.bind_some, if_neg (by decide)]

/-- The outer loop, from a boundary on. -/
theorem within_outer (s : ByteArray) (n : Int) (hs : s.size ≤ 140737488351232) (hn : n < 0 ∨ (s.size : Int) ≤ n) (hn1 : -9223372036854775808 ≤ n) (hn2 : n ≤ 9223372036854775807) (d : Nat) :
    ∀ i : Nat, s.size - i ≤ d → i ≤ s.size → Ev (fun k => glossatorref02_within.l0 k s n (i : Int)) (gL n (s.data.toList.drop i) st0 i) := by
  induction d with
  | zero =>
    intro i hd hi
    obtain rfl : i = s.size := by omega
    rw [data_drop_all]
    simp only [gL]
    refine Ev.step (f := fun _ => some (if n ≥ 0 then (if (s.size : Int) < n then ((s.size : Int), (3 : Int)) else ((s.size : Int), 0)) else ((s.size : Int), 0))) (fun k => ?_) ?_
    · simp only [glossatorref02_within.l0]
      rw [if_neg (by omega)]
      split
      · split <;> rfl
      · rfl
    · rw [if_neg (show ¬ st0.1 > 0 by decide)]; exact Ev.now _
  | succ d ih =>
    intro i hd hi
    by_cases hlt : i < s.size
    · have hb := byte_le s[i]
      have hbi := bt_nat s i hlt
      have h4 := rowOf_n s[i].toNat
      have hne := need_ev s[i].toNat hb.1 hb.2
      have ih' : ∀ q : Nat, i < q → q ≤ s.size → Ev (fun k => glossatorref02_within.l0 k s n (q : Int)) (gL n (s.data.toList.drop q) st0 q) := fun q h1 h2 => ih q (by omega) h2
      rw [data_drop s i hlt]
      simp only [gL]
      -- the guard, decided
      by_cases hbad : nd s[i].toNat = 0 ∨ (n ≥ 0 ∧ nd s[i].toNat > n - i)
      · have hst : stp st0 s[i].toNat (if n ≥ 0 then n - 1 - i else -1) = none := by
          unfold stp
          rw [if_neg (by decide)]
          rcases hbad with h | ⟨h1, h2⟩
          · rw [if_pos (.inl h)]
          · rw [if_pos h1, if_pos (.inr ⟨by omega, by unfold nd at h2; omega⟩)]
        rw [hst]
        dsimp only
        refine Ev.step (f := fun k => (glossatorref02_need.f k s[i].toNat).bind fun t => (if t = 0 then (glossatorref02_within.j1 k s n i t true) else (if n ≥ 0 then (glossatorref02_within.j1 k s n i t (decide (t > (wrap64 (n - i))))) else (glossatorref02_within.j1 k s n i t false)))) (fun k => ?_) ?_
        · simp only [glossatorref02_within.l0]
          rw [if_pos (by omega), if_pos (by omega), hbi]
        · refine Ev.bind (f := fun k t => (if t = 0 then (glossatorref02_within.j1 k s n i t true) else (if n ≥ 0 then (glossatorref02_within.j1 k s n i t (decide (t > (wrap64 (n - i))))) else (glossatorref02_within.j1 k s n i t false)))) hne ?_
          refine Ev.step (f := fun _ => some ((i : Int), 4)) (fun k => ?_) (Ev.now _)
          rcases hbad with h | ⟨h1, h2⟩
          · rw [if_pos h]; simp [glossatorref02_within.j1]
          · by_cases h0 : nd s[i].toNat = 0
            · rw [if_pos h0]; simp [glossatorref02_within.j1]
            · rw [if_neg h0, if_pos h1, IntWalk.wrap64_in _ (by omega), decide_eq_true h2]; simp [glossatorref02_within.j1]
      · have hst : stp st0 s[i].toNat (if n ≥ 0 then n - 1 - i else -1) = some (nd s[i].toNat - ((1 : Nat) : Int), lo s[i].toNat ((1 : Nat) : Int), Pure.hi s[i].toNat ((1 : Nat) : Int)) := by
          unfold stp
          rw [if_neg (by decide)]
          unfold nd at hbad ⊢
          rw [if_neg (by split <;> omega)]
          rfl
        rw [hst]
        dsimp only
        refine Ev.step (f := fun k => (glossatorref02_need.f k s[i].toNat).bind fun t => (if t = 0 then (glossatorref02_within.j1 k s n i t true) else (if n ≥ 0 then (glossatorref02_within.j1 k s n i t (decide (t > (wrap64 (n - i))))) else (glossatorref02_within.j1 k s n i t false)))) (fun k => ?_) ?_
        · simp only [glossatorref02_within.l0]
          rw [if_pos (by omega), if_pos (by omega), hbi]
        · refine Ev.bind (f := fun k t => (if t = 0 then (glossatorref02_within.j1 k s n i t true) else (if n ≥ 0 then (glossatorref02_within.j1 k s n i t (decide (t > (wrap64 (n - i))))) else (glossatorref02_within.j1 k s n i t false)))) hne ?_
          have hinner := within_inner s n hs i hlt (by unfold nd at hbad ⊢; omega) (by omega) ih' (nd s[i].toNat - 1).toNat 1 (by omega) (by unfold nd at hbad ⊢; omega) (by omega)
          rw [show ((i + 1 : Nat) : Int) = (i : Int) + 1 by omega] at hinner
          refine Ev.step (f := fun k => glossatorref02_within.l1 k s n i (nd s[i].toNat) ((1 : Nat) : Int)) (fun k => ?_) hinner
          rw [if_neg (fun e => hbad (.inl e))]
          by_cases h1 : n ≥ 0
          · rw [if_pos h1, IntWalk.wrap64_in _ (by omega), decide_eq_false (fun h2 => hbad (.inr ⟨h1, h2⟩))]; simp [glossatorref02_within.j1]
          · rw [if_neg h1]; simp [glossatorref02_within.j1]
    · exact ih i (by omega) hi

/-- The reference's Check. -/
theorem refCheck_ev (s : ByteArray) (hs : s.size ≤ 140737488351232) : Ev (fun k => glossatorref02_Check.f k s) (chk s) := by
  have h := within_outer s (-1) hs (.inl (by omega)) (by omega) (by omega) s.size 0 (by omega) (by omega)
  rw [List.drop_zero, gL_chk _ _ _ _ (by omega)] at h
  unfold glossatorref02_Check.f
  refine Ev.bind (f := fun _ r => some (r.1, r.2)) (a := chk s) ?_ (Ev.now _)
  exact h

/-- The reference's Within. -/
theorem refWithin_ev (s : ByteArray) (n : Int) (hs : s.size ≤ 140737488351232) (hn2 : n ≤ 9223372036854775807) : Ev (fun k => glossatorref02_Within.f k s n) (wth s n) := by
  have hmx : mx n 0 = max n 0 := by unfold mx; split <;> omega
  have hm0 : 0 ≤ max n 0 ∧ max n 0 ≤ 9223372036854775807 := by omega
  unfold wth
  obtain ⟨m, hm⟩ : ∃ m, max n 0 = m := ⟨_, rfl⟩
  rw [hm] at hmx hm0 ⊢
  have hmn : mn (s.size : Int) m = if m < s.size then m else s.size := rfl
  obtain ⟨b, hb⟩ : ∃ b : Int, (if m < s.size then m else (s.size : Int)) = b := ⟨_, rfl⟩
  have hb2 : b = m ∧ m < s.size ∨ b = s.size ∧ (s.size : Int) ≤ m := by split at hb <;> omega
  have hz : (s.extract 0 b.toNat).size = b.toNat := by
    rw [← data_length, Go.Lib.extract_data, List.drop_zero, List.length_take, data_length]; omega
  have hd : (s.extract 0 b.toNat).data.toList = s.data.toList.take m.toNat := by
    rw [Go.Lib.extract_data, List.drop_zero, Nat.sub_zero]
    rcases hb2 with ⟨h1, h2⟩ | ⟨h1, h2⟩
    · rw [h1]
    · rw [List.take_of_length_le (by rw [data_length]; omega), List.take_of_length_le (by rw [data_length]; omega)]
  have h := within_outer (s.extract 0 b.toNat) m (by omega) (.inr (by omega)) (by omega) (by omega) b.toNat 0 (by omega) (by omega)
  have hg := gL_wth s.data.toList st0 0 m (by omega) (by omega)
  rw [Int.sub_zero] at hg
  rw [List.drop_zero, hd] at h
  have h' : Ev (fun k => glossatorref02_within.f k (s.extract 0 b.toNat) m) (wthL m s.data.toList st0 0) := by
    rw [← hg]; exact h
  unfold glossatorref02_Within.f
  rw [hmx, hmn, hb]
  refine Ev.congr (f := fun k => (glossatorref02_within.f k (s.extract 0 b.toNat) m).bind fun r => some (r.1, r.2)) (fun k => by rw [if_pos (by omega), if_pos (by omega)]) ?_
  exact Ev.bind (f := fun _ r => some (r.1, r.2)) (a := wthL m s.data.toList st0 0) h' (Ev.now _)

end Go.Proofs.Ytlbokaekhjjabaa.Pure
