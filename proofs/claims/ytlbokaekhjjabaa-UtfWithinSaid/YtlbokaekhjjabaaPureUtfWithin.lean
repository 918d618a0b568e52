/-
  Of UtfWithin, without Go: a text is right within its own length just if it is right; a beginning that may go on within some bytes may go on within more.
-/
import Derived.Test.YtlbokaekhjjabaaUx20
import Derived.Test.YtlbokaekhjjabaaUtfC
namespace Go.Proofs.Ytlbokaekhjjabaa.Pure
open Go.RowKit Go.Proofs.Ytlbokaekhjjabaa Go.Proofs.Ytlbokaekhjjabaa.U Go.Proofs.YtlbokaekhjjabaaW.PrintWords Go.Proofs.YtlbokaekhjjabaaW.PrintLast

theorem stp_room {st st' : St} {c r r' : Int} (h : stp st c r = some st') (hr : 0 ≤ r) (hrr : r ≤ r' ∨ r' < 0) : stp st c r' = some st' := by
  unfold stp at h ⊢
  split at h
  · rename_i hp
    rw [if_pos hp]
    exact h
  · rename_i hp
    rw [if_neg hp]
    split at h
    · cases h
    · rename_i hn
      rw [if_neg (by omega)]
      exact h

theorem stp_fits {st st' : St} {c r : Int} (h : stp st c r = some st') (hr : 0 ≤ r) (hs : st.1 ≤ r + 1) : st'.1 ≤ r := by
  unfold stp at h
  split at h
  · split at h
    · cases h
    · cases h; show st.1 - 1 ≤ r; omega
  · split at h
    · cases h
    · rename_i hn
      cases h
      show (rowOf leadRows c).2.2.1 - 1 ≤ r
      omega

theorem wth_to_chk (l : List UInt8) (st : St) (i n : Int) (hi : i + l.length = n) (h0 : 0 ≤ i) (hs : st.1 ≤ l.length) (h : (wthL n l st i).2 = 0) : (chkL l st i).2 = 0 := by
  induction l generalizing st i with
  | nil =>
    simp only [chkL]
    rw [if_neg (by simp only [List.length_nil] at hs; omega)]
  | cons c t ih =>
    simp only [List.length_cons] at hi hs
    simp only [wthL] at h
    rw [if_pos (by omega)] at h
    simp only [chkL]
    cases hst : stp st c.toNat (n - 1 - i) with
    | none => rw [hst] at h; simp at h
    | some s1 =>
      rw [hst] at h
      rw [stp_room hst (by omega) (.inr (by omega))]
      exact ih s1 (i + 1) (by omega) (by omega) (by have := stp_fits hst (by omega) (by omega); omega) h

theorem chk_to_wth (l : List UInt8) (st : St) (i n : Int) (hi : i + l.length = n) (h : (chkL l st i).2 = 0) : st.1 ≤ l.length ∧ (wthL n l st i).2 = 0 := by
  induction l generalizing st i with
  | nil =>
    simp only [chkL] at h
    simp only [List.length_nil] at hi
    split at h
    · simp at h
    · simp only [wthL]
      rw [if_neg (by omega)]
      exact ⟨by simp only [List.length_nil]; omega, rfl⟩
  | cons c t ih =>
    simp only [List.length_cons] at hi ⊢
    simp only [chkL] at h
    simp only [wthL]
    rw [if_pos (by omega)]
    cases hst : stp st c.toNat (-1) with
    | none => rw [hst] at h; simp at h
    | some s1 =>
      rw [hst] at h
      obtain ⟨h1, h2⟩ := ih s1 (i + 1) (by omega) h
      have hroom : stp st c.toNat (n - 1 - i) = some s1 := by
        unfold stp at hst ⊢
        split at hst
        · rename_i hp
          rw [if_pos hp]
          exact hst
        · rename_i hp
          rw [if_neg hp]
          split at hst
          · cases hst
          · rename_i hn
            cases hst
            have h1' : (rowOf leadRows c.toNat).2.2.1 - 1 ≤ t.length := h1
            rw [if_neg (by omega)]
      rw [hroom]
      refine ⟨?_, h2⟩
      unfold stp at hst
      split at hst
      · split at hst
        · cases hst
        · cases hst
          have h1' : st.1 - 1 ≤ t.length := h1
          omega
      · omega

theorem wth_more (l : List UInt8) (st : St) (i n n' : Int) (hi : i + l.length ≤ n) (hn : n ≤ n') (h : (wthL n l st i).2 ≠ 4) : (wthL n' l st i).2 ≠ 4 := by
  induction l generalizing st i with
  | nil => simp only [wthL]; split <;> simp
  | cons c t ih =>
    simp only [List.length_cons] at hi
    simp only [wthL] at h ⊢
    rw [if_pos (by omega)] at h ⊢
    cases hst : stp st c.toNat (n - 1 - i) with
    | none => rw [hst] at h; simp at h
    | some s1 =>
      rw [hst] at h
      rw [stp_room hst (by omega) (.inl (by omega))]
      exact ih s1 (i + 1) (by omega) h

theorem UtfWithin : glossatorlaw02_UtfWithin.Pure := by
  intro s n m hs hn hm
  have hb := u8_of hn
  have hb2 := u8_of hm
  have hl := size_dat s
  unfold glossatorlaw02_UtfWithin.f
  rw [IntWalk.wrap64_in n (by omega), IntWalk.wrap64_in m (by omega), IntWalk.wrap64_in (n + 3) (by omega), IntWalk.wrap64_in (n + 3 + m) (by omega)]
  rw [check_fv s (by omega), within_fv s s.size (by omega) (by omega), within_fv s n (by omega) (by omega), within_fv s (n + 3 + m) (by omega) (by omega), awake_fv]
  simp only [Option.bind_some]
  have hw : ∀ q : Int, 0 ≤ q → wth s q = wthL q s.data.toList st0 0 := fun q hq => by unfold wth; rw [show max q 0 = q by omega]
  have h1 : ((chk s).2 == 0) = ((wth s s.size).2 == 0) := by
    rw [hw _ (by omega)]
    unfold chk
    rw [Bool.eq_iff_iff, beq_iff_eq, beq_iff_eq]
    exact ⟨fun h => (chk_to_wth _ _ _ _ (by omega) h).2, fun h => wth_to_chk _ _ _ _ (by omega) (by omega) (by show (0 : Int) ≤ _; omega) h⟩
  rw [h1, bne_self_eq_false, if_neg (by decide)]
  split
  · rfl
  · rename_i hlt
    split
    · rfl
    · rename_i hg
      rw [if_neg]
      rw [hw _ (by omega)] at hg ⊢
      exact wth_more _ _ _ _ _ (by omega) (by omega) hg

end Go.Proofs.Ytlbokaekhjjabaa.Pure
