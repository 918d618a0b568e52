/-
  Code points and their bytes, in plain numbers: what 'pt' tells by the number of bytes; a code point's bytes; there and back.
-/
import Derived.Test.YtlbokaekhjjabaaUtfA
namespace Go.Proofs.Ytlbokaekhjjabaa

/-- A code point's bytes. -/
def encL (c : Int) : List Int :=
  if c < 0 ∨ c > 1114111 ∨ (55296 ≤ c ∧ c ≤ 57343) then []
  else if c < 128 then [c]
  else if c < 2048 then [192 + c / 64, 128 + c % 64]
  else if c < 65536 then [224 + c / 4096, 128 + c / 64 % 64, 128 + c % 64]
  else [240 + c / 262144, 128 + c / 4096 % 64, 128 + c / 64 % 64, 128 + c % 64]
def byteOf (n : Int) : UInt8 := UInt8.ofNat n.toNat
def enc (c : Int) : ByteArray := ⟨((encL c).map byteOf).toArray⟩

theorem byteOf_toNat {n : Int} (h0 : 0 ≤ n) (h1 : n ≤ 255) : ((byteOf n).toNat : Int) = n := by
  unfold byteOf
  rw [UInt8.toNat_ofNat']
  omega
theorem byteOf_of (c : UInt8) : byteOf (c.toNat : Int) = c := by
  unfold byteOf
  rw [Int.toNat_natCast]
  exact UInt8.ofNat_toNat

/-! ### what 'pt' tells -/
theorem ptL_cons (c : UInt8) (t : List UInt8) (n : Int) (h : (rowOf leadRows c.toNat).2.2.1 = n) : ptL (c :: t) = if n = 0 ∨ n > ((c :: t).length : Int) then (0, 0) else ptGo n (c :: t) 0 st0 0 := by
  subst h; rfl
theorem stp_in {k l m c r : Int} (hk : 0 < k) : stp (k, l, m) c r = if c < l ∨ c > m then none else some (k - 1, 128, 191) := by
  unfold stp
  dsimp only
  rw [if_pos hk]
theorem ptGo_in {n i k l m acc : Int} {c : UInt8} {t : List UInt8} (hi : i < n) (hk : 0 < k) :
    ptGo n (c :: t) i (k, l, m) acc = if (c.toNat : Int) < l ∨ (c.toNat : Int) > m then (0, 0) else ptGo n t (i + 1) (k - 1, 128, 191) (vst n i c.toNat acc) := by
  simp only [ptGo]
  rw [if_pos hi, stp_in hk]
  by_cases h : (c.toNat : Int) < l ∨ (c.toNat : Int) > m
  · rw [if_pos h, if_pos h]
  · rw [if_neg h, if_neg h]
theorem ptGo_end {n i acc : Int} {st : St} {t : List UInt8} (hi : ¬ i < n) : ptGo n t i st acc = (acc, n) := by
  cases t <;> (simp only [ptGo]; rw [if_neg hi])
theorem ptGo_first {n q1 q2 l m : Int} {c : UInt8} {t : List UInt8} (h : rowOf leadRows c.toNat = (q1, q2, n, l, m)) (hn : 0 < n) :
    ptGo n (c :: t) 0 st0 0 = ptGo n t 1 (n - 1, l, m) (vst n 0 c.toNat 0) := by
  have hs : stp st0 c.toNat (-1) = some (n - 1, l, m) := by
    unfold stp
    rw [if_neg (by decide), h, if_neg (by dsimp only; omega)]
  simp only [ptGo]
  rw [if_pos hn, hs]
  rfl

section
variable (c a b d : UInt8) (t : List UInt8) (q1 q2 l m : Int)
theorem ptL_none (h : rowOf leadRows c.toNat = (0, 0, 0, 0, 0)) : ptL (c :: t) = (0, 0) := by
  rw [ptL_cons c t 0 (by rw [h]), if_pos (.inl rfl)]
theorem ptL_short (h : (rowOf leadRows c.toNat).2.2.1 > ((c :: t).length : Int)) : ptL (c :: t) = (0, 0) := by
  rw [ptL_cons c t _ rfl, if_pos (.inr h)]
theorem ptL_1 (h : rowOf leadRows c.toNat = (q1, q2, 1, l, m)) : ptL (c :: t) = ((c.toNat : Int), 1) := by
  rw [ptL_cons c t 1 (by rw [h]), if_neg (by simp only [List.length_cons]; omega), ptGo_first h (by decide), ptGo_end (by decide)]
  rfl
theorem ptL_2 (h : rowOf leadRows c.toNat = (q1, q2, 2, l, m)) :
    ptL (c :: a :: t) = if (a.toNat : Int) < l ∨ (a.toNat : Int) > m then (0, 0) else ((c.toNat : Int) % 32 * 64 + (a.toNat : Int) % 64, 2) := by
  rw [ptL_cons c (a :: t) 2 (by rw [h]), if_neg (by simp only [List.length_cons]; omega), ptGo_first h (by decide), ptGo_in (by decide) (by decide), ptGo_end (by decide)]
  rfl
theorem ptL_3 (h : rowOf leadRows c.toNat = (q1, q2, 3, l, m)) :
    ptL (c :: a :: b :: t) = if (a.toNat : Int) < l ∨ (a.toNat : Int) > m then (0, 0) else if (b.toNat : Int) < 128 ∨ (b.toNat : Int) > 191 then (0, 0) else (((c.toNat : Int) % 16 * 64 + (a.toNat : Int) % 64) * 64 + (b.toNat : Int) % 64, 3) := by
  rw [ptL_cons c (a :: b :: t) 3 (by rw [h]), if_neg (by simp only [List.length_cons]; omega), ptGo_first h (by decide), ptGo_in (by decide) (by decide), ptGo_in (by decide) (by decide), ptGo_end (by decide)]
  rfl
theorem ptL_4 (h : rowOf leadRows c.toNat = (q1, q2, 4, l, m)) :
    ptL (c :: a :: b :: d :: t) = if (a.toNat : Int) < l ∨ (a.toNat : Int) > m then (0, 0) else if (b.toNat : Int) < 128 ∨ (b.toNat : Int) > 191 then (0, 0) else if (d.toNat : Int) < 128 ∨ (d.toNat : Int) > 191 then (0, 0) else
      ((((c.toNat : Int) % 8 * 64 + (a.toNat : Int) % 64) * 64 + (b.toNat : Int) % 64) * 64 + (d.toNat : Int) % 64, 4) := by
  rw [ptL_cons c (a :: b :: d :: t) 4 (by rw [h]), if_neg (by simp only [List.length_cons]; omega), ptGo_first h (by decide), ptGo_in (by decide) (by decide), ptGo_in (by decide) (by decide), ptGo_in (by decide) (by decide), ptGo_end (by decide)]
  rfl
end

/-- What a first byte may be. -/
theorem row_cases (c : UInt8) : rowOf leadRows c.toNat = (0, 0, 0, 0, 0) ∨ ((c.toNat : Int) ≤ 127 ∧ rowOf leadRows c.toNat = (0, 127, 1, 0, 0)) ∨
    ((194 ≤ (c.toNat : Int) ∧ (c.toNat : Int) ≤ 223) ∧ rowOf leadRows c.toNat = (194, 223, 2, 128, 191)) ∨
    (∃ q1 q2 l m, ((224 ≤ (c.toNat : Int) ∧ (c.toNat : Int) ≤ 239) ∧ 128 ≤ l ∧ m ≤ 191 ∧ ((c.toNat : Int) = 224 → 160 ≤ l) ∧ ((c.toNat : Int) = 237 → m ≤ 159)) ∧ rowOf leadRows c.toNat = (q1, q2, 3, l, m)) ∨
    (∃ q1 q2 l m, ((240 ≤ (c.toNat : Int) ∧ (c.toNat : Int) ≤ 244) ∧ 128 ≤ l ∧ m ≤ 191 ∧ ((c.toNat : Int) = 240 → 144 ≤ l) ∧ ((c.toNat : Int) = 244 → m ≤ 143)) ∧ rowOf leadRows c.toNat = (q1, q2, 4, l, m)) := by
  have h0 := c.toNat_lt
  generalize hc : (c.toNat : Int) = n
  obtain h | h | h | rfl | h | rfl | h | rfl | h | rfl | h : (0 ≤ n ∧ n ≤ 127) ∨ (128 ≤ n ∧ n ≤ 193) ∨ (194 ≤ n ∧ n ≤ 223) ∨ n = 224 ∨ (225 ≤ n ∧ n ≤ 236) ∨ n = 237 ∨ (238 ≤ n ∧ n ≤ 239) ∨ n = 240 ∨ (241 ≤ n ∧ n ≤ 243) ∨ n = 244 ∨ 245 ≤ n := by omega
  · exact .inr (.inl ⟨h.2, row_1 h.1 h.2⟩)
  · exact .inl (row_cont h.1 h.2)
  · exact .inr (.inr (.inl ⟨h, row_2 h.1 h.2⟩))
  · exact .inr (.inr (.inr (.inl ⟨_, _, _, _, by omega, row_e0⟩)))
  · exact .inr (.inr (.inr (.inl ⟨_, _, _, _, by omega, row_3a h.1 h.2⟩)))
  · exact .inr (.inr (.inr (.inl ⟨_, _, _, _, by omega, row_ed⟩)))
  · exact .inr (.inr (.inr (.inl ⟨_, _, _, _, by omega, row_3b h.1 h.2⟩)))
  · exact .inr (.inr (.inr (.inr ⟨_, _, _, _, by omega, row_f0⟩)))
  · exact .inr (.inr (.inr (.inr ⟨_, _, _, _, by omega, row_4 h.1 h.2⟩)))
  · exact .inr (.inr (.inr (.inr ⟨_, _, _, _, by omega, row_f4⟩)))
  · exact .inl (row_high h)


theorem row_of_byte {n : Int} (h0 : 0 ≤ n) (h1 : n ≤ 255) : rowOf leadRows ((byteOf n).toNat : Int) = rowOf leadRows n := by rw [byteOf_toNat h0 h1]

/-- A code point's bytes are one code point, itself, whatever stands behind. -/
theorem pt_enc (c : Int) (t : List UInt8) (h : encL c ≠ []) : ptL ((encL c).map byteOf ++ t) = (c, ((encL c).length : Int)) := by
  unfold encL at h ⊢
  split at h
  · exact absurd rfl h
  · rename_i hc
    rw [if_neg hc]
    split at h
    · rename_i h1
      rw [if_pos h1]
      have hr := row_of_byte (n := c) (by omega) (by omega)
      replace hr := hr.trans (row_1 (by omega) (by omega))
      simp only [List.map_cons, List.map_nil, List.cons_append, List.nil_append]
      rw [ptL_1 _ _ _ _ _ _ hr, byteOf_toNat (by omega) (by omega)]
      rfl
    · rename_i h1
      rw [if_neg h1]
      split at h
      · rename_i h2
        rw [if_pos h2]
        have hr := row_of_byte (n := 192 + c / 64) (by omega) (by omega)
        replace hr := hr.trans (row_2 (by omega) (by omega))
        simp only [List.map_cons, List.map_nil, List.cons_append, List.nil_append]
        rw [ptL_2 _ _ _ _ _ _ _ hr, byteOf_toNat (by omega) (by omega), byteOf_toNat (by omega) (by omega), if_neg (by omega)]
        congr 1
        omega
      · rename_i h2
        rw [if_neg h2]
        split at h
        · rename_i h3
          rw [if_pos h3]
          have hr := row_of_byte (n := 224 + c / 4096) (by omega) (by omega)
          simp only [List.map_cons, List.map_nil, List.cons_append, List.nil_append]
          obtain e | e | e | e : c / 4096 = 0 ∨ (1 ≤ c / 4096 ∧ c / 4096 ≤ 12) ∨ c / 4096 = 13 ∨ (14 ≤ c / 4096 ∧ c / 4096 ≤ 15) := by omega
          · rw [show (224 : Int) + c / 4096 = 224 by omega] at hr ⊢
            replace hr := hr.trans row_e0
            rw [ptL_3 _ _ _ _ _ _ _ _ hr, byteOf_toNat (by omega) (by omega), byteOf_toNat (by omega) (by omega), byteOf_toNat (by omega) (by omega), if_neg (by omega), if_neg (by omega)]
            congr 1
            omega
          · replace hr := hr.trans (row_3a (by omega) (by omega))
            rw [ptL_3 _ _ _ _ _ _ _ _ hr, byteOf_toNat (by omega) (by omega), byteOf_toNat (by omega) (by omega), byteOf_toNat (by omega) (by omega), if_neg (by omega), if_neg (by omega)]
            congr 1
            omega
          · rw [show (224 : Int) + c / 4096 = 237 by omega] at hr ⊢
            replace hr := hr.trans row_ed
            rw [ptL_3 _ _ _ _ _ _ _ _ hr, byteOf_toNat (by omega) (by omega), byteOf_toNat (by omega) (by omega), byteOf_toNat (by omega) (by omega), if_neg (by omega), if_neg (by omega)]
            congr 1
            omega
          · replace hr := hr.trans (row_3b (by omega) (by omega))
            rw [ptL_3 _ _ _ _ _ _ _ _ hr, byteOf_toNat (by omega) (by omega), byteOf_toNat (by omega) (by omega), byteOf_toNat (by omega) (by omega), if_neg (by omega), if_neg (by omega)]
            congr 1
            omega
        · rename_i h3
          rw [if_neg h3]
          have hr := row_of_byte (n := 240 + c / 262144) (by omega) (by omega)
          simp only [List.map_cons, List.map_nil, List.cons_append, List.nil_append]
          obtain e | e | e : c / 262144 = 0 ∨ (1 ≤ c / 262144 ∧ c / 262144 ≤ 3) ∨ c / 262144 = 4 := by omega
          · rw [show (240 : Int) + c / 262144 = 240 by omega] at hr ⊢
            replace hr := hr.trans row_f0
            rw [ptL_4 _ _ _ _ _ _ _ _ _ hr, byteOf_toNat (by omega) (by omega), byteOf_toNat (by omega) (by omega), byteOf_toNat (by omega) (by omega), byteOf_toNat (by omega) (by omega), if_neg (by omega), if_neg (by omega), if_neg (by omega)]
            congr 1
            omega
          · replace hr := hr.trans (row_4 (by omega) (by omega))
            rw [ptL_4 _ _ _ _ _ _ _ _ _ hr, byteOf_toNat (by omega) (by omega), byteOf_toNat (by omega) (by omega), byteOf_toNat (by omega) (by omega), byteOf_toNat (by omega) (by omega), if_neg (by omega), if_neg (by omega), if_neg (by omega)]
            congr 1
            omega
          · rw [show (240 : Int) + c / 262144 = 244 by omega] at hr ⊢
            replace hr := hr.trans row_f4
            rw [ptL_4 _ _ _ _ _ _ _ _ _ hr, byteOf_toNat (by omega) (by omega), byteOf_toNat (by omega) (by omega), byteOf_toNat (by omega) (by omega), byteOf_toNat (by omega) (by omega), if_neg (by omega), if_neg (by omega), if_neg (by omega)]
            congr 1
            omega

/-- A code point at the beginning of a text has just these bytes. -/
theorem enc_pt (s : List UInt8) : ptL s = (0, 0) ∨ ∃ x t, s = x ++ t ∧ (ptL s).2 = x.length ∧ 0 < x.length ∧ (encL (ptL s).1).map byteOf = x := by
  cases s with
  | nil => exact .inl rfl
  | cons c t =>
    have hc := c.toNat_lt
    rcases row_cases c with h | ⟨h1, h⟩ | ⟨h1, h⟩ | ⟨q1, q2, l, m, h1, h⟩ | ⟨q1, q2, l, m, h1, h⟩
    · exact .inl (ptL_none c t h)
    · right
      refine ⟨[c], t, rfl, ?_, by simp, ?_⟩ <;> rw [ptL_1 c t _ _ _ _ h]
      · rfl
      · dsimp only
        unfold encL
        rw [if_neg (by omega), if_pos (by omega)]
        simp only [List.map_cons, List.map_nil, byteOf_of]
    · match t with
      | [] => exact .inl (ptL_short c [] (by rw [h]; simp))
      | a :: t =>
        have ha := a.toNat_lt
        have hp := ptL_2 c a t _ _ _ _ h
        by_cases hin : (a.toNat : Int) < 128 ∨ (a.toNat : Int) > 191
        · rw [if_pos hin] at hp; exact .inl hp
        · rw [if_neg hin] at hp
          right
          refine ⟨[c, a], t, rfl, ?_, by simp, ?_⟩ <;> rw [hp]
          · rfl
          · dsimp only
            unfold encL
            rw [if_neg (by omega), if_neg (by omega), if_pos (by omega)]
            simp only [List.map_cons, List.map_nil]
            rw [show 192 + ((c.toNat : Int) % 32 * 64 + (a.toNat : Int) % 64) / 64 = c.toNat by omega, show 128 + ((c.toNat : Int) % 32 * 64 + (a.toNat : Int) % 64) % 64 = a.toNat by omega, byteOf_of, byteOf_of]
    · match t with
      | [] => exact .inl (ptL_short c [] (by rw [h]; simp))
      | [a] => exact .inl (ptL_short c [a] (by rw [h]; simp))
      | a :: b :: t =>
        have ha := a.toNat_lt
        have hb := b.toNat_lt
        have hp := ptL_3 c a b t _ _ _ _ h
        by_cases hin : (a.toNat : Int) < l ∨ (a.toNat : Int) > m
        · rw [if_pos hin] at hp; exact .inl hp
        · rw [if_neg hin] at hp
          by_cases hin2 : (b.toNat : Int) < 128 ∨ (b.toNat : Int) > 191
          · rw [if_pos hin2] at hp; exact .inl hp
          · rw [if_neg hin2] at hp
            right
            refine ⟨[c, a, b], t, rfl, ?_, by simp, ?_⟩ <;> rw [hp]
            · rfl
            · dsimp only
              unfold encL
              rw [if_neg (by omega), if_neg (by omega), if_neg (by omega), if_pos (by omega)]
              simp only [List.map_cons, List.map_nil]
              generalize hv : ((c.toNat : Int) % 16 * 64 + (a.toNat : Int) % 64) * 64 + (b.toNat : Int) % 64 = v
              rw [show 224 + v / 4096 = c.toNat by omega, show 128 + v / 64 % 64 = a.toNat by omega, show 128 + v % 64 = b.toNat by omega, byteOf_of, byteOf_of, byteOf_of]
    · match t with
      | [] => exact .inl (ptL_short c [] (by rw [h]; simp))
      | [a] => exact .inl (ptL_short c [a] (by rw [h]; simp))
      | [a, b] => exact .inl (ptL_short c [a, b] (by rw [h]; simp))
      | a :: b :: d :: t =>
        have ha := a.toNat_lt
        have hb := b.toNat_lt
        have hd := d.toNat_lt
        have hp := ptL_4 c a b d t _ _ _ _ h
        by_cases hin : (a.toNat : Int) < l ∨ (a.toNat : Int) > m
        · rw [if_pos hin] at hp; exact .inl hp
        · rw [if_neg hin] at hp
          by_cases hin2 : (b.toNat : Int) < 128 ∨ (b.toNat : Int) > 191
          · rw [if_pos hin2] at hp; exact .inl hp
          · rw [if_neg hin2] at hp
            by_cases hin3 : (d.toNat : Int) < 128 ∨ (d.toNat : Int) > 191
            · rw [if_pos hin3] at hp; exact .inl hp
            · rw [if_neg hin3] at hp
              right
              refine ⟨[c, a, b, d], t, rfl, ?_, by simp, ?_⟩ <;> rw [hp]
              · rfl
              · dsimp only
                unfold encL
                generalize hv : (((c.toNat : Int) % 8 * 64 + (a.toNat : Int) % 64) * 64 + (b.toNat : Int) % 64) * 64 + (d.toNat : Int) % 64 = v
                rw [if_neg (by omega), if_neg (by omega), if_neg (by omega), if_neg (by omega)]
                simp only [List.map_cons, List.map_nil]
                rw [show 240 + v / 262144 = c.toNat by omega, show 128 + v / 4096 % 64 = a.toNat by omega, show 128 + v / 64 % 64 = b.toNat by omega, show 128 + v % 64 = d.toNat by omega, byteOf_of, byteOf_of, byteOf_of, byteOf_of]

end Go.Proofs.Ytlbokaekhjjabaa
