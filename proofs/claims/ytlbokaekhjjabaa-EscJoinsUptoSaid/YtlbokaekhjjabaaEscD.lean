/-
  What the walked functions of esc tell, as equations.
-/
import Derived.Test.YtlbokaekhjjabaaFx3
import Derived.Test.YtlbokaekhjjabaaFx9
import Derived.Test.YtlbokaekhjjabaaFx10
import Derived.Lib.Strings
namespace Go.Proofs.Ytlbokaekhjjabaa.PureF
open Go.RowKit Go.Proofs.Ytlbokaekhjjabaa Go.Proofs.Ytlbokaekhjjabaa.F Go.Proofs.YtlbokaekhjjabaaW.PrintWords Go.Proofs.YtlbokaekhjjabaaW.PrintLast Go.Proofs.YtlbokaekhjjabaaW.PrintMore

theorem app_d (a b : ByteArray) : (a ++ b).data.toList = a.data.toList ++ b.data.toList := by simp [ByteArray.data_append]
theorem siz (a b : ByteArray) : (a ++ b).size = a.size + b.size := by
  rw [← data_length, ← data_length, ← data_length, app_d, List.length_append]
theorem quote_fv (s : ByteArray) (h : s.size ≤ 8796093022208) : esc_Quote.f s = if (chk s).2 = 0 then some (quo s, 0) else some (⟨#[]⟩, 4) := by unfold esc_Quote.f; rw [if_pos h]
theorem refQuote_fv (s : ByteArray) (h : s.size ≤ 8796093022208) : glossatorref03_Quote.f s = if (chk s).2 = 0 then some (quo s, 0) else some (⟨#[]⟩, 4) := by unfold glossatorref03_Quote.f; rw [if_pos h]
theorem quo_data (s : ByteArray) : (quo s).data.toList = ([34] ++ quoteL s.data.toList ++ [34]).map fun n : Int => UInt8.ofNat n.toNat := by unfold quo; exact strOfNums_data _
theorem quo_size (s : ByteArray) : (quo s).size = (quoteL s.data.toList).length + 2 := by
  unfold quo; rw [strOfNums_size]; simp
theorem awake3_fv : glossatorlaw03_awake.f = some true := by
  unfold glossatorlaw03_awake.f
  rw [quote_fv _ (by decide), if_pos (by decide)]
  decide

end Go.Proofs.Ytlbokaekhjjabaa.PureF
