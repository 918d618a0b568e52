-- Written by a program of this session (joint.sh) out of the translation. Not trusted: Lean checks it.
import Derived.Test.YtlbokaekhjjabaaFx0
namespace Go.Proofs.Ytlbokaekhjjabaa.F
open Go.RowKit Go.Proofs.YtlbokaekhjjabaaW.PrintWords Go.Proofs.YtlbokaekhjjabaaW.PrintLast Go.Proofs.YtlbokaekhjjabaaW.PrintMore
attribute [local go_sem] max2_int min2_int max_two min_two max_three min_three max_four min_four   -- for this text's walks alone
set_option linter.unusedVariables false
set_option linter.unusedSimpArgs false

/-! ### esc_Quote: function 30 -/
def esc_Quote.f (a0 : ByteArray) : Option (ByteArray × Int) := if a0.size ≤ 8796093022208 then (if (chk a0).2 = 0 then some (quo a0, 0) else some (⟨#[]⟩, 4)) else none
theorem esc_Quote.calls (a0 : ByteArray) (r1 : ByteArray) (r2 : Int) (w : World) (h : esc_Quote.f a0 = some (r1, r2)) :
    Calls Try.prog 30 #[.string a0] w fun e w' => e = .returned (.tuple #[.string r1, .int .i64 r2]) ∧ Below w.heap.size w w' := by
  unfold esc_Quote.f at h
  split at h
  · rename_i hs
    split at h
    · rename_i hc
      cases h
      exact quote_ok a0 w hs hc
    · rename_i hc
      cases h
      exact quote_err a0 w (by omega) hc
  · cases h

end Go.Proofs.Ytlbokaekhjjabaa.F
