/-
  Of UtfChecks, without Go: the program's Check and Within tell what the reference's tell.
-/
import Derived.Test.YtlbokaekhjjabaaUx19
import Derived.Test.YtlbokaekhjjabaaUtfB
import Derived.Test.YtlbokaekhjjabaaUtfC
namespace Go.Proofs.Ytlbokaekhjjabaa.Pure
open Go.RowKit Go.Proofs.Ytlbokaekhjjabaa Go.Proofs.Ytlbokaekhjjabaa.U Go.Proofs.YtlbokaekhjjabaaW.PrintWords Go.Proofs.YtlbokaekhjjabaaW.PrintLast

theorem UtfChecks : glossatorlaw02_UtfChecks.Pure := by
  intro s n hs hn
  have hb := i64_of hn
  obtain ⟨K1, h1⟩ := refCheck_ev s hs
  obtain ⟨K2, h2⟩ := refWithin_ev s n hs hb.2
  have h1' : glossatorref02_Check.f (max K1 K2) s = some (chk s) := h1 _ (by omega)
  have h2' : glossatorref02_Within.f (max K1 K2) s n = some (wth s n) := h2 _ (by omega)
  refine ⟨max K1 K2, ?_⟩
  unfold glossatorlaw02_UtfChecks.f
  rw [check_fv s (by omega), within_fv s n (by omega) hb.2, h1', h2', awake_fv]
  simp

end Go.Proofs.Ytlbokaekhjjabaa.Pure
