-- Written by a program of this session (joint.sh) out of the translation. Not trusted: Lean checks it.
import Derived.Test.YtlbokaekhjjabaaUx0
namespace Go.Proofs.Ytlbokaekhjjabaa.U
open Go.RowKit Go.Proofs.YtlbokaekhjjabaaW.PrintWords Go.Proofs.YtlbokaekhjjabaaW.PrintLast Go.Proofs.YtlbokaekhjjabaaW.PrintMore
attribute [local go_sem] max2_int min2_int max_two min_two max_three min_three max_four min_four   -- for this text's walks alone
set_option linter.unusedVariables false
set_option linter.unusedSimpArgs false

/-! ### utf_Within: function 34 -/
def utf_Within.f (a0 : ByteArray) (a1 : Int) : Option (Int × Int) := if a0.size ≤ 9223372036854775807 ∧ a1 ≤ 9223372036854775807 then some (wth a0 a1) else none
theorem utf_Within.calls (a0 : ByteArray) (a1 : Int) (r1 r2 : Int) (w : World) (h : utf_Within.f a0 a1 = some (r1, r2)) :
    Calls Try.prog 34 #[.string a0, .int .i64 a1] w fun e w' => e = .returned (.tuple #[.int .i64 r1, .int .i64 r2]) ∧ Below w.heap.size w w' := by
  unfold utf_Within.f at h
  split at h
  · rename_i hs
    have h' := Option.some.inj h
    refine (within_any a0 a1 w hs.1 hs.2).mono ?_
    rintro e w' ⟨he, hw⟩
    rw [h'] at he
    exact ⟨he, hw⟩
  · cases h

end Go.Proofs.Ytlbokaekhjjabaa.U
