/-
  Plain laws of the UTF-8 machine: what a text goes on to, where it errs, rows of bytes.
-/
import Derived.Test.YtlbokaekhjjabaaPoint
namespace Go.Proofs.Ytlbokaekhjjabaa

/-- The state behind bytes; none, if one of them errs. -/
def runL : List UInt8 → St → Option St
  | [], st => some st
  | c :: t, st => (stp st c.toNat (-1)).bind (runL t)

theorem runL_append (a b : List UInt8) (st : St) : runL (a ++ b) st = (runL a st).bind (runL b) := by
  induction a generalizing st with
  | nil => rfl
  | cons c t ih =>
    simp only [List.cons_append, runL]
    cases stp st c.toNat (-1) with
    | none => rfl
    | some st' => simp only [Option.bind_some]; exact ih st'

theorem chkL_append (a b : List UInt8) (st st' : St) (i : Int) (h : runL a st = some st') : chkL (a ++ b) st i = chkL b st' (i + a.length) := by
  induction a generalizing st i with
  | nil => simp only [runL, Option.some.injEq] at h; subst h; simp
  | cons c t ih =>
    simp only [runL] at h
    cases hs : stp st c.toNat (-1) with
    | none => rw [hs] at h; cases h
    | some s1 =>
      rw [hs] at h
      simp only [List.cons_append, chkL, hs]
      rw [ih s1 (i + 1) h]
      congr 1
      simp only [List.length_cons]; omega

/-- Either all goes, or a byte errs behind what goes. -/
theorem run_or (l : List UInt8) (st : St) : (∃ st', runL l st = some st') ∨ ∃ a c b st', l = a ++ c :: b ∧ runL a st = some st' ∧ stp st' c.toNat (-1) = none := by
  induction l generalizing st with
  | nil => exact .inl ⟨st, rfl⟩
  | cons c t ih =>
    cases hs : stp st c.toNat (-1) with
    | none => exact .inr ⟨[], c, t, st, rfl, rfl, hs⟩
    | some s1 =>
      rcases ih s1 with ⟨st', h⟩ | ⟨a, d, b, st', rfl, h, hn⟩
      · exact .inl ⟨st', by simp only [runL, hs, Option.bind_some]; exact h⟩
      · exact .inr ⟨c :: a, d, b, st', rfl, by simp only [runL, hs, Option.bind_some]; exact h, hn⟩

theorem chkL_run {l : List UInt8} {st st' : St} (i : Int) (h : runL l st = some st') : chkL l st i = (i + l.length, if st'.1 > 0 then 3 else 0) := by
  have := chkL_append l [] st st' i h
  rw [List.append_nil] at this
  rw [this]
  simp only [chkL]
  split <;> rfl

theorem chkL_err {a b : List UInt8} {c : UInt8} {st st' : St} (i : Int) (h : runL a st = some st') (hn : stp st' c.toNat (-1) = none) : chkL (a ++ c :: b) st i = (i + a.length, 4) := by
  rw [chkL_append a (c :: b) st st' i h]
  simp only [chkL, hn]

theorem runL_left {l : List UInt8} {st st' : St} (h : runL l st = some st') (h0 : 0 ≤ st.1 ∧ st.1 ≤ 3) : 0 ≤ st'.1 ∧ st'.1 ≤ 3 := by
  induction l generalizing st with
  | nil => simp only [runL, Option.some.injEq] at h; subst h; exact h0
  | cons c t ih =>
    simp only [runL] at h
    cases hs : stp st c.toNat (-1) with
    | none => rw [hs] at h; cases h
    | some s1 => rw [hs] at h; exact ih h (stp_left hs h0)

/-! ### rows -/
theorem rowOf_mem (l : List (Int × Int × Int × Int × Int)) (c : Int) : rowOf l c = (0, 0, 0, 0, 0) ∨ (rowOf l c ∈ l ∧ (rowOf l c).1 ≤ c ∧ c ≤ (rowOf l c).2.1) := by
  induction l with
  | nil => exact .inl rfl
  | cons r t ih =>
    unfold rowOf
    split
    · rename_i h; exact .inr ⟨List.mem_cons_self, h⟩
    · rcases ih with h | ⟨h, h2⟩
      · exact .inl h
      · exact .inr ⟨List.mem_cons_of_mem _ h, h2⟩

theorem row_1 {c : Int} (h0 : 0 ≤ c) (h : c ≤ 127) : rowOf leadRows c = (0, 127, 1, 0, 0) := by simp only [leadRows, rowOf]; rw [if_pos ⟨h0, h⟩]
theorem row_cont {c : Int} (h0 : 128 ≤ c) (h : c ≤ 193) : rowOf leadRows c = (0, 0, 0, 0, 0) := by
  simp only [leadRows, rowOf]; repeat (rw [if_neg (by omega)])
theorem row_2 {c : Int} (h0 : 194 ≤ c) (h : c ≤ 223) : rowOf leadRows c = (194, 223, 2, 128, 191) := by
  simp only [leadRows, rowOf]; rw [if_neg (by omega), if_pos (by omega)]
theorem row_e0 : rowOf leadRows 224 = (224, 224, 3, 160, 191) := by decide
theorem row_3a {c : Int} (h0 : 225 ≤ c) (h : c ≤ 236) : rowOf leadRows c = (225, 236, 3, 128, 191) := by
  simp only [leadRows, rowOf]; rw [if_neg (by omega), if_neg (by omega), if_neg (by omega), if_pos (by omega)]
theorem row_ed : rowOf leadRows 237 = (237, 237, 3, 128, 159) := by decide
theorem row_3b {c : Int} (h0 : 238 ≤ c) (h : c ≤ 239) : rowOf leadRows c = (238, 239, 3, 128, 191) := by
  simp only [leadRows, rowOf]; rw [if_neg (by omega), if_neg (by omega), if_neg (by omega), if_neg (by omega), if_neg (by omega), if_pos (by omega)]
theorem row_f0 : rowOf leadRows 240 = (240, 240, 4, 144, 191) := by decide
theorem row_4 {c : Int} (h0 : 241 ≤ c) (h : c ≤ 243) : rowOf leadRows c = (241, 243, 4, 128, 191) := by
  simp only [leadRows, rowOf]; rw [if_neg (by omega), if_neg (by omega), if_neg (by omega), if_neg (by omega), if_neg (by omega), if_neg (by omega), if_neg (by omega), if_pos (by omega)]
theorem row_f4 : rowOf leadRows 244 = (244, 244, 4, 128, 143) := by decide
theorem row_high {c : Int} (h0 : 245 ≤ c) : rowOf leadRows c = (0, 0, 0, 0, 0) := by
  simp only [leadRows, rowOf]; repeat (rw [if_neg (by omega)])

/-! ### the states that come -/
def goods : List St := [(1, 128, 191), (2, 128, 191), (2, 160, 191), (2, 128, 159), (3, 144, 191), (3, 128, 191), (3, 128, 143)]
def Good (st : St) : Prop := st.1 = 0 ∨ st ∈ goods
theorem good_stp {st st' : St} {c : Int} (h : stp st c (-1) = some st') (hg : Good st) : Good st' := by
  unfold stp at h
  split at h
  · rename_i hp
    split at h
    · cases h
    · cases h
      rcases hg with hg | hg
      · omega
      · simp only [goods, List.mem_cons, List.not_mem_nil, or_false] at hg
        rcases hg with rfl | rfl | rfl | rfl | rfl | rfl | rfl <;> first | (left; rfl) | (right; decide)
  · split at h
    · cases h
    · rename_i hn
      cases h
      rcases rowOf_mem leadRows c with h0 | ⟨hm, _⟩
      · rw [h0] at hn; exact absurd (.inl rfl) hn
      · generalize rowOf leadRows c = r at hm ⊢
        simp only [leadRows, List.mem_cons, List.not_mem_nil, or_false] at hm
        rcases hm with rfl | rfl | rfl | rfl | rfl | rfl | rfl | rfl | rfl <;> first | (left; rfl) | (right; decide)
theorem good_run {l : List UInt8} {st st' : St} (h : runL l st = some st') (hg : Good st) : Good st' := by
  induction l generalizing st with
  | nil => simp only [runL, Option.some.injEq] at h; subst h; exact hg
  | cons c t ih =>
    simp only [runL] at h
    cases hs : stp st c.toNat (-1) with
    | none => rw [hs] at h; cases h
    | some s1 => rw [hs] at h; exact ih h (good_stp hs hg)

/-- Each state has an ending. -/
def ends : List (List UInt8) := [[], [128], [144], [160], [128, 128], [144, 128], [160, 128], [128, 128, 128], [144, 128, 128]]
theorem good_ends {st : St} (hg : Good st) : ∃ j, j < 9 ∧ ∃ st', runL (ends.getD j []) st = some st' ∧ st'.1 = 0 := by
  rcases hg with hg | hg
  · exact ⟨0, by decide, st, rfl, hg⟩
  · simp only [goods, List.mem_cons, List.not_mem_nil, or_false] at hg
    rcases hg with rfl | rfl | rfl | rfl | rfl | rfl | rfl
    · exact ⟨1, by decide, (0, 128, 191), by decide, rfl⟩
    · exact ⟨4, by decide, (0, 128, 191), by decide, rfl⟩
    · exact ⟨6, by decide, (0, 128, 191), by decide, rfl⟩
    · exact ⟨4, by decide, (0, 128, 191), by decide, rfl⟩
    · exact ⟨8, by decide, (0, 128, 191), by decide, rfl⟩
    · exact ⟨7, by decide, (0, 128, 191), by decide, rfl⟩
    · exact ⟨7, by decide, (0, 128, 191), by decide, rfl⟩

/-- At a boundary only that nothing is left counts. -/
theorem stp_0 {st : St} (h : st.1 ≤ 0) (c r : Int) : stp st c r = stp st0 c r := by
  unfold stp
  rw [if_neg (show ¬ st.1 > 0 by omega), if_neg (show ¬ st0.1 > 0 by decide)]
theorem chkL_0 {st : St} (h : st.1 ≤ 0) (l : List UInt8) (i : Int) : chkL l st i = chkL l st0 i := by
  cases l with
  | nil => simp only [chkL]; rw [if_neg (by omega), if_neg (by decide)]
  | cons c t => simp only [chkL]; rw [stp_0 h]

end Go.Proofs.Ytlbokaekhjjabaa
