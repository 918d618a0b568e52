/-
  Texts within quotes, in plain words: their bytes; the reference's letters.
-/
import Derived.Test.YtlbokaekhjjabaaEx8
import Derived.Test.YtlbokaekhjjabaaEx7
import Derived.Lib.Strings
namespace Go.Proofs.Ytlbokaekhjjabaa.PureE
open Go.RowKit Go.Proofs.Ytlbokaekhjjabaa Go.Proofs.Ytlbokaekhjjabaa.E Go.Proofs.YtlbokaekhjjabaaW.PrintWords Go.Proofs.YtlbokaekhjjabaaW.PrintLast Go.Proofs.YtlbokaekhjjabaaW.PrintMore

theorem bt_at' (s : ByteArray) (i : Nat) (h : i < s.size) : bt s (i : Int) = (s[i].toNat : Int) := by
  unfold bt; rw [dif_pos (by simpa using h)]; simp
theorem app_d (a b : ByteArray) : (a ++ b).data.toList = a.data.toList ++ b.data.toList := by simp [ByteArray.data_append]
theorem siz (a b : ByteArray) : (a ++ b).size = a.size + b.size := by
  rw [← data_length, ← data_length, ← data_length, app_d, List.length_append]
theorem letter_f (c : Int) (k : Nat) : glossatorref03_letter.f (k + 1) c = some (if c = 34 ∨ c = 92 then c else letOf letterPairs c) := by
  unfold glossatorref03_letter.f
  by_cases h1 : c = 34
  · rw [if_pos h1, if_pos (.inl h1), show (c == 34) = true by simpa using h1, glossatorref03_letter.j0, if_pos rfl]
  · rw [if_neg h1]
    by_cases h2 : c = 92
    · rw [if_pos (.inr h2), show (c == 92) = true by simpa using h2, glossatorref03_letter.j0, if_pos rfl]
    · rw [if_neg (by omega), show (c == 92) = false by simpa using h2, glossatorref03_letter.j0, if_neg (by decide)]
      by_cases a1 : c = 8
      · subst a1; rfl
      · by_cases a2 : c = 12
        · subst a2; rfl
        · by_cases a3 : c = 10
          · subst a3; rfl
          · by_cases a4 : c = 13
            · subst a4; rfl
            · by_cases a5 : c = 9
              · subst a5; rfl
              · have b1 : ¬ 8 = c := fun e => a1 e.symm
                have b2 : ¬ 12 = c := fun e => a2 e.symm
                have b3 : ¬ 10 = c := fun e => a3 e.symm
                have b4 : ¬ 13 = c := fun e => a4 e.symm
                have b5 : ¬ 9 = c := fun e => a5 e.symm
                simp only [letterPairs, letOf, if_neg a1, if_neg a2, if_neg a3, if_neg a4, if_neg a5, if_neg b1, if_neg b2, if_neg b3, if_neg b4, if_neg b5]
theorem letter_ev (c : Int) : Ev (fun k => glossatorref03_letter.f k c) (if c = 34 ∨ c = 92 then c else letOf letterPairs c) :=
  ⟨1, fun k hk => by obtain ⟨m, rfl⟩ : ∃ m, k = m + 1 := ⟨k - 1, by omega⟩; exact letter_f c m⟩

theorem let_34 : letOf letterPairs 34 = 0 := by decide
theorem let_92 : letOf letterPairs 92 = 0 := by decide
theorem escB_ref (c : Int) : escB c = if (if c = 34 ∨ c = 92 then c else letOf letterPairs c) = 0 then (if c < 32 then [92, 117, 48, 48, hexd (c / 16), hexd (c % 16)] else [c]) else [92, if c = 34 ∨ c = 92 then c else letOf letterPairs c] := by
  unfold escB
  by_cases h : c = 34 ∨ c = 92
  · have hl : letOf letterPairs c = 0 := by rcases h with rfl | rfl; exact let_34; exact let_92
    have e : (if c = 34 ∨ c = 92 then c else letOf letterPairs c) = c := if_pos h
    rw [e, hl, if_neg (by decide), if_pos h, if_neg (by omega)]
  · have e : (if c = 34 ∨ c = 92 then c else letOf letterPairs c) = letOf letterPairs c := if_neg h
    rw [e]
    by_cases hz : letOf letterPairs c = 0
    · rw [if_neg (by simpa using hz), if_neg h, if_pos hz]
      by_cases h32 : c < 32
      · rw [if_pos h32, if_neg (by omega)]
      · rw [if_neg h32, if_pos (by omega)]
    · rw [if_pos hz, if_neg hz]

end Go.Proofs.Ytlbokaekhjjabaa.PureE
