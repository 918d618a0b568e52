-- Written by a program of this session (joint.sh) out of the translation. Not trusted: Lean checks it.
import Derived.Test.YtlbokaekhjjabaaEx0
namespace Go.Proofs.Ytlbokaekhjjabaa.E
open Go.RowKit Go.Proofs.YtlbokaekhjjabaaW.PrintWords Go.Proofs.YtlbokaekhjjabaaW.PrintLast Go.Proofs.YtlbokaekhjjabaaW.PrintMore
attribute [local go_sem] max2_int min2_int max_two min_two max_three min_three max_four min_four   -- for this text's walks alone
set_option linter.unusedVariables false
set_option linter.unusedSimpArgs false

/-! ### glossatorref02_Check: function 33 -/
def glossatorref02_Check.f (a0 : ByteArray) : Option (Int × Int) := if a0.size ≤ 140737488351232 then some (chk a0) else none
theorem glossatorref02_Check.calls (a0 : ByteArray) (r1 r2 : Int) (w : World) (h : glossatorref02_Check.f a0 = some (r1, r2)) :
    Calls Try.prog 33 #[.string a0] w fun e w' => e = .returned (.tuple #[.int .i64 r1, .int .i64 r2]) ∧ Drawn0 w w' := by
  unfold glossatorref02_Check.f at h
  split at h
  · rename_i hs
    have h' := Option.some.inj h
    obtain ⟨k, hk⟩ := (Pure.refCheck_ev a0 hs).rounds
    exact U.glossatorref02_Check.calls k a0 r1 r2 w (by rw [← h']; exact hk)
  · cases h

end Go.Proofs.Ytlbokaekhjjabaa.E
