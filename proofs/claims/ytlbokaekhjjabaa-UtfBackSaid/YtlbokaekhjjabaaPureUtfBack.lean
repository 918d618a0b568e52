/-
  Of UtfBack, without Go: a code point's bytes are one code point, itself; a code point at the beginning of a text has just these bytes.
-/
import Derived.Test.YtlbokaekhjjabaaUx14
import Derived.Test.YtlbokaekhjjabaaUtfE
import Derived.Test.YtlbokaekhjjabaaUtfC
namespace Go.Proofs.Ytlbokaekhjjabaa.Pure
open Go.RowKit Go.Proofs.Ytlbokaekhjjabaa Go.Proofs.Ytlbokaekhjjabaa.U Go.Proofs.YtlbokaekhjjabaaW.PrintWords Go.Proofs.YtlbokaekhjjabaaW.PrintLast

theorem enc_data (c : Int) : (enc c).data.toList = (encL c).map byteOf := by unfold enc; simp
theorem enc_size (c : Int) : (enc c).size = (encL c).length := by rw [← size_dat, enc_data, List.length_map]
theorem encL_short (c : Int) : (encL c).length ≤ 4 := by
  unfold encL; split
  · simp
  · split
    · simp
    · split
      · simp
      · split <;> simp

theorem back_j0 (s : ByteArray) (hs : s.size ≤ 140737488351232) (k : Nat) : glossatorlaw02_UtfBack.j0 (k + 13) s false = some true := by
  rw [glossatorlaw02_UtfBack.j0, if_neg (by decide), point_fv s (by omega), Option.bind_some, awake_fv]
  rcases enc_pt s.data.toList with h | ⟨x, t, hx, h2, h3, h4⟩
  · have hp : pt s = (0, 0) := h
    rw [hp, if_pos rfl, if_pos rfl]
    rfl
  · have hp2 : (pt s).2 = x.length := h2
    have hp4 : (encL (pt s).1).map byteOf = x := h4
    have hsz := size_dat s
    rw [hx, List.length_append] at hsz
    rw [if_neg (by omega), if_pos (by omega), encode_f _ k, Option.bind_some, if_pos (by omega)]
    rw [if_pos]
    · rfl
    · rw [ByteArray.toList_eq, ByteArray.toList_eq, enc_data, hp4, take_dat, hp2, Int.toNat_natCast, hx]
      simp

theorem UtfBack : glossatorlaw02_UtfBack.Pure := by
  intro c s hc hs
  refine ⟨13, ?_⟩
  unfold glossatorlaw02_UtfBack.f
  have h4 := encL_short c
  have hsz := enc_size c
  have h13 := back_j0 s hs 0
  rw [encode_f c 1, Option.bind_some, if_pos (by omega), point_fv _ (by rw [siz_app]; omega), Option.bind_some]
  by_cases he : encL c = []
  · have : (enc c).toList = ([] : List UInt8) := by rw [ByteArray.toList_eq, enc_data, he]; rfl
    rw [if_pos this]
    exact h13
  · have hne : ¬ (enc c).toList = ([] : List UInt8) := by
      rw [ByteArray.toList_eq, enc_data]
      intro e
      exact he (List.map_eq_nil_iff.1 e)
    have hp : pt (enc c ++ s) = (c, ((encL c).length : Int)) := by
      unfold pt
      rw [app_dat, enc_data]
      exact pt_enc c _ he
    rw [if_neg hne, hp, if_pos rfl, hsz, bne_self_eq_false]
    exact h13

end Go.Proofs.Ytlbokaekhjjabaa.Pure
