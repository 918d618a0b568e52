/-
  Of EscQuotes, without Go: both texts write a text within quotes alike.
-/
import Derived.Test.YtlbokaekhjjabaaFx11
import Derived.Test.YtlbokaekhjjabaaEscD
namespace Go.Proofs.Ytlbokaekhjjabaa.PureF
open Go.RowKit Go.Proofs.Ytlbokaekhjjabaa Go.Proofs.Ytlbokaekhjjabaa.F Go.Proofs.YtlbokaekhjjabaaW.PrintWords Go.Proofs.YtlbokaekhjjabaaW.PrintLast

theorem EscQuotes (s : ByteArray) (hs : s.size ≤ 1048576) : glossatorlaw03_EscQuotes.f s = some true := by
  unfold glossatorlaw03_EscQuotes.f
  rw [quote_fv s (by omega), refQuote_fv s (by omega), awake3_fv]
  by_cases h : (chk s).2 = 0
  · rw [if_pos h]; simp
  · rw [if_neg h]; simp

end Go.Proofs.Ytlbokaekhjjabaa.PureF
