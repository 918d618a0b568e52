/-
  Of UtfPoints, without Go: the program's Point and Encode tell what the reference's tell.
-/
import Derived.Test.YtlbokaekhjjabaaUx13
import Derived.Test.YtlbokaekhjjabaaUtfE
import Derived.Test.YtlbokaekhjjabaaUtfC
namespace Go.Proofs.Ytlbokaekhjjabaa.Pure
open Go.RowKit Go.Proofs.Ytlbokaekhjjabaa Go.Proofs.Ytlbokaekhjjabaa.U Go.Proofs.YtlbokaekhjjabaaW.PrintWords Go.Proofs.YtlbokaekhjjabaaW.PrintLast

theorem UtfPoints : glossatorlaw02_UtfPoints.Pure := by
  intro s c hs hc
  obtain ⟨K, h⟩ := refPoint_ev s hs
  have h1 : glossatorref02_Point.f (K + 12) s = some (pt s) := h _ (by omega)
  refine ⟨K + 12, ?_⟩
  unfold glossatorlaw02_UtfPoints.f
  rw [point_fv s (by omega), h1, encode_f c K, refEncode_f c (K + 11), awake_fv]
  simp

end Go.Proofs.Ytlbokaekhjjabaa.Pure
