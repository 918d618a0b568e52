/-
  Of UtfFirst, without Go: of a text that is not right all ahead of the place may be gone on with; the byte there errs whatever follows.
-/
import Derived.Test.YtlbokaekhjjabaaUx6
import Derived.Test.YtlbokaekhjjabaaUtfA
import Derived.Lib.Strings
namespace Go.Proofs.Ytlbokaekhjjabaa.Pure
open Go.RowKit Go.Proofs.Ytlbokaekhjjabaa Go.Proofs.Ytlbokaekhjjabaa.U Go.Proofs.YtlbokaekhjjabaaW.PrintWords Go.Proofs.YtlbokaekhjjabaaW.PrintLast

theorem app_data (a b : ByteArray) : (a ++ b).data.toList = a.data.toList ++ b.data.toList := by simp [ByteArray.data_append]
theorem take_data (s : ByteArray) (n : Nat) : (s.extract 0 n).data.toList = s.data.toList.take n := by
  rw [Go.Lib.extract_data]; simp
theorem size_data (s : ByteArray) : s.data.toList.length = s.size := data_length s
theorem size_app (a b : ByteArray) : (a ++ b).size = a.size + b.size := by
  rw [← size_data, ← size_data, ← size_data, app_data, List.length_append]
theorem size_take (s : ByteArray) (n : Nat) (h : n ≤ s.size) : (s.extract 0 n).size = n := by
  rw [← size_data, take_data, List.length_take, size_data]; omega

theorem check_f (s : ByteArray) (h : s.size ≤ 9223372036854775807) : utf_Check.f s = some (chk s) := by unfold utf_Check.f; rw [if_pos h]
theorem awake_f : glossatorlaw02_awake.f = some true := by decide +kernel

/-- The endings as the law has them. -/
def endsB : List ByteArray := [(⟨#[]⟩ : ByteArray), (⟨#[128]⟩ : ByteArray), (⟨#[144]⟩ : ByteArray), (⟨#[160]⟩ : ByteArray), (⟨#[128, 128]⟩ : ByteArray), (⟨#[144, 128]⟩ : ByteArray), (⟨#[160, 128]⟩ : ByteArray), (⟨#[128, 128, 128]⟩ : ByteArray), (⟨#[144, 128, 128]⟩ : ByteArray)]
theorem endsB_data (j : Nat) (h : j < 9) : (endsB.getD j ByteArray.empty).data.toList = ends.getD j [] ∧ (endsB.getD j ByteArray.empty).size ≤ 3 := by
  match j, h with
  | 0, _ => exact ⟨rfl, by decide⟩
  | 1, _ => exact ⟨rfl, by decide⟩
  | 2, _ => exact ⟨rfl, by decide⟩
  | 3, _ => exact ⟨rfl, by decide⟩
  | 4, _ => exact ⟨rfl, by decide⟩
  | 5, _ => exact ⟨rfl, by decide⟩
  | 6, _ => exact ⟨rfl, by decide⟩
  | 7, _ => exact ⟨rfl, by decide⟩
  | 8, _ => exact ⟨rfl, by decide⟩

theorem goes_l0 (s : ByteArray) (hs : s.size ≤ 140737488351232) (j : Nat) (hj : j < 9) (hc : (chk (s ++ endsB.getD j ByteArray.empty)).2 = 0) (d : Nat) :
    ∀ (k i : Nat), i + d = j → d < k → glossatorlaw02_goes.l0 k s endsB i = some true := by
  induction d with
  | zero =>
    intro k i hi hk
    obtain ⟨k, rfl⟩ : ∃ m, k = m + 1 := ⟨k - 1, by omega⟩
    obtain rfl : i = j := by omega
    have hz := (endsB_data i hj).2
    simp only [glossatorlaw02_goes.l0]
    rw [show rdOf ByteArray.empty endsB (i : Int) = endsB.getD i ByteArray.empty from rfl]
    rw [if_pos (show (i : Int) < (endsB.length : Int) by show (i : Int) < 9; omega), if_pos (by omega), if_pos (by omega), check_f _ (by rw [size_app]; omega)]
    simp only [Option.bind_some]
    rw [if_pos hc]
  | succ d ih =>
    intro k i hi hk
    obtain ⟨k, rfl⟩ : ∃ m, k = m + 1 := ⟨k - 1, by omega⟩
    have hz := (endsB_data i (by omega)).2
    simp only [glossatorlaw02_goes.l0]
    rw [show rdOf ByteArray.empty endsB (i : Int) = endsB.getD i ByteArray.empty from rfl]
    rw [if_pos (show (i : Int) < (endsB.length : Int) by show (i : Int) < 9; omega), if_pos (by omega), if_pos (by omega), check_f _ (by rw [size_app]; omega)]
    simp only [Option.bind_some]
    split
    · rfl
    · rw [IntWalk.wrap64_in _ (by omega)]
      have := ih k (i + 1) (by omega) (by omega)
      push_cast at this
      exact this

theorem goes_f (s : ByteArray) (hs : s.size ≤ 140737488351232) (st : St) (h : runL s.data.toList st0 = some st) (k : Nat) (hk : 10 ≤ k) : glossatorlaw02_goes.f k s = some true := by
  obtain ⟨j, hj, st', hr, h0⟩ := good_ends (good_run h (.inl rfl))
  refine goes_l0 s hs j hj ?_ j k 0 (by omega) (by omega)
  have hd := (endsB_data j hj).1
  unfold chk
  rw [app_data, hd]
  have hrun : runL (s.data.toList ++ ends.getD j []) st0 = some st' := by rw [runL_append, h]; exact hr
  rw [chkL_run 0 hrun]
  rw [if_neg (by omega)]

theorem first_f (s more : ByteArray) (hs : s.size ≤ 140737488351232) (hm : more.size ≤ 140737488351232) (k : Nat) (hk : 10 ≤ k) : glossatorlaw02_UtfFirst.f (k + 1) s more = some true := by
  have hl := size_data s
  unfold glossatorlaw02_UtfFirst.f
  rw [check_f s (by omega)]
  simp only [Option.bind_some]
  rcases run_or s.data.toList st0 with ⟨st, hr⟩ | ⟨a, c, b, st, hab, hr, hn⟩
  · have hc : chk s = ((s.size : Int), if st.1 > 0 then 3 else 0) := by
      unfold chk; rw [chkL_run 0 hr, hl]; simp
    rw [hc]
    dsimp only
    by_cases hp : st.1 > 0
    · rw [if_pos hp, if_neg (by decide), if_neg (by omega)]
      simp only [glossatorlaw02_UtfFirst.j0]
      rw [goes_f s hs st hr k hk, awake_f]
      simp
    · rw [if_neg hp, if_pos rfl, if_pos rfl, awake_f]; rfl
  · have hc : chk s = ((a.length : Int), 4) := by
      unfold chk; rw [hab, chkL_err 0 hr hn]; simp
    have hsz : a.length + b.length + 1 = s.size := by rw [← hl, hab]; simp; omega
    have ht : (s.extract 0 a.length).data.toList = a := by rw [take_data, hab]; simp
    have ht2 : (s.extract 0 (a.length + 1)).data.toList = a ++ [c] := by
      rw [take_data, hab, List.take_append, List.take_of_length_le (by omega)]
      simp
    rw [hc]
    dsimp only
    rw [if_neg (by decide), if_neg (by omega)]
    simp only [glossatorlaw02_UtfFirst.j0]
    rw [if_neg (by simp; omega), if_neg (by decide), if_pos trivial, if_neg (by omega), if_pos (by omega), if_pos (by omega)]
    rw [Int.toNat_natCast, goes_f (s.extract 0 a.length) (by rw [size_take _ _ (by omega)]; omega) st (by rw [ht]; exact hr) k hk, Option.bind_some, if_pos rfl]
    rw [IntWalk.wrap64_in _ (by omega), if_pos (by omega), if_pos (by omega)]
    rw [show ((a.length : Int) + 1).toNat = a.length + 1 by omega]
    have hz : (s.extract 0 (a.length + 1)).size = a.length + 1 := size_take _ _ (by omega)
    rw [if_pos (by omega), check_f _ (by rw [size_app]; omega)]
    have hc2 : chk (s.extract 0 (a.length + 1) ++ more) = ((a.length : Int), 4) := by
      unfold chk
      rw [app_data, ht2, List.append_assoc, List.singleton_append, chkL_err 0 hr hn]; simp
    rw [hc2]
    simp

theorem UtfFirst : glossatorlaw02_UtfFirst.Pure := fun s more hs hm => ⟨10 + 1, first_f s more hs hm 10 (by omega)⟩

end Go.Proofs.Ytlbokaekhjjabaa.Pure
