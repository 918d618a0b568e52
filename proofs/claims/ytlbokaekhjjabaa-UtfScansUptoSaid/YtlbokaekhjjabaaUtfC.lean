/-
  What the walked functions of utf tell, as equations; small facts on texts.
-/
import Derived.Test.YtlbokaekhjjabaaUx2
import Derived.Test.YtlbokaekhjjabaaUx3
import Derived.Test.YtlbokaekhjjabaaUx4
import Derived.Test.YtlbokaekhjjabaaUx17
import Derived.Test.YtlbokaekhjjabaaUtfA
import Derived.Lib.Strings
namespace Go.Proofs.Ytlbokaekhjjabaa.Pure
open Go.RowKit Go.Proofs.Ytlbokaekhjjabaa Go.Proofs.Ytlbokaekhjjabaa.U Go.Proofs.YtlbokaekhjjabaaW.PrintWords Go.Proofs.YtlbokaekhjjabaaW.PrintLast Go.Proofs.YtlbokaekhjjabaaW.PrintMore

theorem check_fv (s : ByteArray) (h : s.size ≤ 9223372036854775807) : utf_Check.f s = some (chk s) := by unfold utf_Check.f; rw [if_pos h]
theorem within_fv (s : ByteArray) (n : Int) (h : s.size ≤ 9223372036854775807) (hn : n ≤ 9223372036854775807) : utf_Within.f s n = some (wth s n) := by unfold utf_Within.f; rw [if_pos ⟨h, hn⟩]
theorem point_fv (s : ByteArray) (h : s.size ≤ 9223372036854775807) : utf_Point.f s = some (pt s) := by unfold utf_Point.f; rw [if_pos h]
theorem awake_fv : glossatorlaw02_awake.f = some true := by decide +kernel

theorem app_dat (a b : ByteArray) : (a ++ b).data.toList = a.data.toList ++ b.data.toList := by simp [ByteArray.data_append]
theorem take_dat (s : ByteArray) (n : Nat) : (s.extract 0 n).data.toList = s.data.toList.take n := by
  rw [Go.Lib.extract_data]; simp
theorem size_dat (s : ByteArray) : s.data.toList.length = s.size := data_length s
theorem siz_app (a b : ByteArray) : (a ++ b).size = a.size + b.size := by
  rw [← size_dat, ← size_dat, ← size_dat, app_dat, List.length_append]
theorem siz_take (s : ByteArray) (n : Nat) (h : n ≤ s.size) : (s.extract 0 n).size = n := by
  rw [← size_dat, take_dat, List.length_take, size_dat]; omega
theorem i64_of {n : Int} (h : (Lit.int .i64 n).wf = true) : -9223372036854775808 ≤ n ∧ n ≤ 9223372036854775807 := by
  simpa [Lit.wf, IntKind.min, IntKind.max, IntKind.signed, IntKind.bits] using h
theorem u8_of {n : Int} (h : (Lit.int .u8 n).wf = true) : 0 ≤ n ∧ n ≤ 255 := by
  simpa [Lit.wf, IntKind.min, IntKind.max, IntKind.signed, IntKind.bits] using h

end Go.Proofs.Ytlbokaekhjjabaa.Pure
