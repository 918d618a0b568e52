/-
  No cell of these rows narrows 'for every input' (looked for: loops, veiled, ifaces, maps, wideKeys, modest, calm, conditions, laid).
  DERIVED. THE GIVEN ROWS OF THIS SEAT. 17 by the template 'for every input the law returns true; each argument reads behind the call as it read before'; 0 by the template 'total and deterministic' (their statements: YtlbokaekhjjabaaTotals.lean).
  GIVEN WITH THE SEED: the statements are not yours to turn. If you find one false, say at which input.
  Laid BY PROGRAM, IN A SANDBOX (cutbox-rows.mjs): the forced cells as the released guide's own fill.sh prints them over the translation 020034c301e0dfe4… (all of the seat's roots in one cut). By AI agents, Wed Nov 11 2026. No macro, syntax, notation, axiom, sorry.
-/
import Derived.Test.YtlbokaekhjjabaaChecked
import GoSem.Claim
import GoSem.ClaimJoined
import GoSem.ClaimMapViews
import Derived.JoinedTies
import Derived.KernelRfl
namespace Go.Proofs.Ytlbokaekhjjabaa
/- THE CELL 'sum', in the pinned program and in every row, IS THE sha256 OF THE DUMP (.gsa) THAT YtlbokaekhjjabaaProg.lean LOADS. Nothing in Lean hashes anything: it is a label: what it is worth is what the hold of that sum in a sandbox is worth. -/
noncomputable def Try.pinned : Pinned := { name := "ytlbokaekhjjabaa", sum := "020034c301e0dfe40b7d189d6d19db953134af4a4a07da2adbbbb73b24bb976d", checked := Try.checked }
namespace Rows
def none {H : Type} : Left H := { results := [], args := [] }

/-- 'glossatorlaw02.UtfFirst': WHATEVER THE INPUT: true; the input reads as it did. -/
def utfFirstSpec : ChangeSpec := { name := "utfFirst", fn := fun _ => fun
  | [d1, d2] => { results := [.lit (.bool true)], args := [d1, d2] }
  | _ => none }
def utfFirstRow : OpenClaim := { program := "ytlbokaekhjjabaa", sum := "020034c301e0dfe40b7d189d6d19db953134af4a4a07da2adbbbb73b24bb976d", func := "glossator/glossatorlaw02.UtfFirst", spec := "utfFirst", apart := false }
def UtfFirstSaid : Prop := utfFirstRow.holds Try.pinned (OpenSpec.ofChange utfFirstSpec)

/-- ITS FALSE NEIGHBOUR: 'it returns false'. Refute it at one input. -/
def utfFirstWrong : ChangeSpec := { name := "utfFirst", fn := fun _ => fun
  | [d1, d2] => { results := [.lit (.bool false)], args := [d1, d2] }
  | _ => none }
def UtfFirstWrongFalsely : Prop := utfFirstRow.holds Try.pinned (OpenSpec.ofChange utfFirstWrong)

/-- 'glossatorlaw02.UtfZero': WHATEVER THE INPUT: true; the input reads as it did. -/
def utfZeroSpec : ChangeSpec := { name := "utfZero", fn := fun _ => fun
  | [d] => { results := [.lit (.bool true)], args := [d] }
  | _ => none }
def utfZeroRow : OpenClaim := { program := "ytlbokaekhjjabaa", sum := "020034c301e0dfe40b7d189d6d19db953134af4a4a07da2adbbbb73b24bb976d", func := "glossator/glossatorlaw02.UtfZero", spec := "utfZero", apart := false }
def UtfZeroSaid : Prop := utfZeroRow.holds Try.pinned (OpenSpec.ofChange utfZeroSpec)

/-- ITS FALSE NEIGHBOUR: 'it returns false'. Refute it at one input. -/
def utfZeroWrong : ChangeSpec := { name := "utfZero", fn := fun _ => fun
  | [d] => { results := [.lit (.bool false)], args := [d] }
  | _ => none }
def UtfZeroWrongFalsely : Prop := utfZeroRow.holds Try.pinned (OpenSpec.ofChange utfZeroWrong)

/-- 'glossatorlaw02.UtfPoints': WHATEVER THE INPUT: true; the input reads as it did. -/
def utfPointsSpec : ChangeSpec := { name := "utfPoints", fn := fun _ => fun
  | [d1, d2] => { results := [.lit (.bool true)], args := [d1, d2] }
  | _ => none }
def utfPointsRow : OpenClaim := { program := "ytlbokaekhjjabaa", sum := "020034c301e0dfe40b7d189d6d19db953134af4a4a07da2adbbbb73b24bb976d", func := "glossator/glossatorlaw02.UtfPoints", spec := "utfPoints", apart := false }
def UtfPointsSaid : Prop := utfPointsRow.holds Try.pinned (OpenSpec.ofChange utfPointsSpec)

/-- ITS FALSE NEIGHBOUR: 'it returns false'. Refute it at one input. -/
def utfPointsWrong : ChangeSpec := { name := "utfPoints", fn := fun _ => fun
  | [d1, d2] => { results := [.lit (.bool false)], args := [d1, d2] }
  | _ => none }
def UtfPointsWrongFalsely : Prop := utfPointsRow.holds Try.pinned (OpenSpec.ofChange utfPointsWrong)

/-- 'glossatorlaw02.UtfBack': WHATEVER THE INPUT: true; the input reads as it did. -/
def utfBackSpec : ChangeSpec := { name := "utfBack", fn := fun _ => fun
  | [d1, d2] => { results := [.lit (.bool true)], args := [d1, d2] }
  | _ => none }
def utfBackRow : OpenClaim := { program := "ytlbokaekhjjabaa", sum := "020034c301e0dfe40b7d189d6d19db953134af4a4a07da2adbbbb73b24bb976d", func := "glossator/glossatorlaw02.UtfBack", spec := "utfBack", apart := false }
def UtfBackSaid : Prop := utfBackRow.holds Try.pinned (OpenSpec.ofChange utfBackSpec)

/-- ITS FALSE NEIGHBOUR: 'it returns false'. Refute it at one input. -/
def utfBackWrong : ChangeSpec := { name := "utfBack", fn := fun _ => fun
  | [d1, d2] => { results := [.lit (.bool false)], args := [d1, d2] }
  | _ => none }
def UtfBackWrongFalsely : Prop := utfBackRow.holds Try.pinned (OpenSpec.ofChange utfBackWrong)

/-- 'glossatorlaw03.EscQuotes': WHATEVER THE INPUT: true; the input reads as it did. -/
def escQuotesSpec : ChangeSpec := { name := "escQuotes", fn := fun _ => fun
  | [d] => { results := [.lit (.bool true)], args := [d] }
  | _ => none }
def escQuotesRow : OpenClaim := { program := "ytlbokaekhjjabaa", sum := "020034c301e0dfe40b7d189d6d19db953134af4a4a07da2adbbbb73b24bb976d", func := "glossator/glossatorlaw03.EscQuotes", spec := "escQuotes", unfollowed := true, recurses := true, apart := false }
def EscQuotesSaid : Prop := escQuotesRow.holds Try.pinned (OpenSpec.ofChange escQuotesSpec)

/-- ITS FALSE NEIGHBOUR: 'it returns false'. Refute it at one input. -/
def escQuotesWrong : ChangeSpec := { name := "escQuotes", fn := fun _ => fun
  | [d] => { results := [.lit (.bool false)], args := [d] }
  | _ => none }
def EscQuotesWrongFalsely : Prop := escQuotesRow.holds Try.pinned (OpenSpec.ofChange escQuotesWrong)

/-- 'glossatorlaw03.EscJoins': WHATEVER THE INPUT: true; the input reads as it did. -/
def escJoinsSpec : ChangeSpec := { name := "escJoins", fn := fun _ => fun
  | [d1, d2] => { results := [.lit (.bool true)], args := [d1, d2] }
  | _ => none }
def escJoinsRow : OpenClaim := { program := "ytlbokaekhjjabaa", sum := "020034c301e0dfe40b7d189d6d19db953134af4a4a07da2adbbbb73b24bb976d", func := "glossator/glossatorlaw03.EscJoins", spec := "escJoins", unfollowed := true, recurses := true, apart := false }
def EscJoinsSaid : Prop := escJoinsRow.holds Try.pinned (OpenSpec.ofChange escJoinsSpec)

/-- ITS FALSE NEIGHBOUR: 'it returns false'. Refute it at one input. -/
def escJoinsWrong : ChangeSpec := { name := "escJoins", fn := fun _ => fun
  | [d1, d2] => { results := [.lit (.bool false)], args := [d1, d2] }
  | _ => none }
def EscJoinsWrongFalsely : Prop := escJoinsRow.holds Try.pinned (OpenSpec.ofChange escJoinsWrong)

/-- 'glossatorlaw02.UtfChecks': WHATEVER THE INPUT: true; the input reads as it did. -/
def utfChecksSpec : ChangeSpec := { name := "utfChecks", fn := fun _ => fun
  | [d1, d2] => { results := [.lit (.bool true)], args := [d1, d2] }
  | _ => none }
def utfChecksRow : OpenClaim := { program := "ytlbokaekhjjabaa", sum := "020034c301e0dfe40b7d189d6d19db953134af4a4a07da2adbbbb73b24bb976d", func := "glossator/glossatorlaw02.UtfChecks", spec := "utfChecks", apart := false }
def UtfChecksSaid : Prop := utfChecksRow.holds Try.pinned (OpenSpec.ofChange utfChecksSpec)

/-- ITS FALSE NEIGHBOUR: 'it returns false'. Refute it at one input. -/
def utfChecksWrong : ChangeSpec := { name := "utfChecks", fn := fun _ => fun
  | [d1, d2] => { results := [.lit (.bool false)], args := [d1, d2] }
  | _ => none }
def UtfChecksWrongFalsely : Prop := utfChecksRow.holds Try.pinned (OpenSpec.ofChange utfChecksWrong)

/-- 'glossatorlaw02.UtfWithin': WHATEVER THE INPUT: true; the input reads as it did. -/
def utfWithinSpec : ChangeSpec := { name := "utfWithin", fn := fun _ => fun
  | [d1, d2, d3] => { results := [.lit (.bool true)], args := [d1, d2, d3] }
  | _ => none }
def utfWithinRow : OpenClaim := { program := "ytlbokaekhjjabaa", sum := "020034c301e0dfe40b7d189d6d19db953134af4a4a07da2adbbbb73b24bb976d", func := "glossator/glossatorlaw02.UtfWithin", spec := "utfWithin", apart := false }
def UtfWithinSaid : Prop := utfWithinRow.holds Try.pinned (OpenSpec.ofChange utfWithinSpec)

/-- ITS FALSE NEIGHBOUR: 'it returns false'. Refute it at one input. -/
def utfWithinWrong : ChangeSpec := { name := "utfWithin", fn := fun _ => fun
  | [d1, d2, d3] => { results := [.lit (.bool false)], args := [d1, d2, d3] }
  | _ => none }
def UtfWithinWrongFalsely : Prop := utfWithinRow.holds Try.pinned (OpenSpec.ofChange utfWithinWrong)

/-- 'glossatorlaw02.UtfScans': WHATEVER THE INPUT: true; the input reads as it did. -/
def utfScansSpec : ChangeSpec := { name := "utfScans", fn := fun _ => fun
  | [d] => { results := [.lit (.bool true)], args := [d] }
  | _ => none }
def utfScansRow : OpenClaim := { program := "ytlbokaekhjjabaa", sum := "020034c301e0dfe40b7d189d6d19db953134af4a4a07da2adbbbb73b24bb976d", func := "glossator/glossatorlaw02.UtfScans", spec := "utfScans", apart := false }
def UtfScansSaid : Prop := utfScansRow.holds Try.pinned (OpenSpec.ofChange utfScansSpec)

/-- ITS FALSE NEIGHBOUR: 'it returns false'. Refute it at one input. -/
def utfScansWrong : ChangeSpec := { name := "utfScans", fn := fun _ => fun
  | [d] => { results := [.lit (.bool false)], args := [d] }
  | _ => none }
def UtfScansWrongFalsely : Prop := utfScansRow.holds Try.pinned (OpenSpec.ofChange utfScansWrong)

/-- 'glossatorlaw03.EscScans': WHATEVER THE INPUT: true; the input reads as it did. -/
def escScansSpec : ChangeSpec := { name := "escScans", fn := fun _ => fun
  | [d] => { results := [.lit (.bool true)], args := [d] }
  | _ => none }
def escScansRow : OpenClaim := { program := "ytlbokaekhjjabaa", sum := "020034c301e0dfe40b7d189d6d19db953134af4a4a07da2adbbbb73b24bb976d", func := "glossator/glossatorlaw03.EscScans", spec := "escScans", unfollowed := true, recurses := true, apart := false }
def EscScansSaid : Prop := escScansRow.holds Try.pinned (OpenSpec.ofChange escScansSpec)

/-- ITS FALSE NEIGHBOUR: 'it returns false'. Refute it at one input. -/
def escScansWrong : ChangeSpec := { name := "escScans", fn := fun _ => fun
  | [d] => { results := [.lit (.bool false)], args := [d] }
  | _ => none }
def EscScansWrongFalsely : Prop := escScansRow.holds Try.pinned (OpenSpec.ofChange escScansWrong)

/-- 'glossatorlaw03.EscBack': WHATEVER THE INPUT: true; the input reads as it did. -/
def escBackSpec : ChangeSpec := { name := "escBack", fn := fun _ => fun
  | [d1, d2, d3] => { results := [.lit (.bool true)], args := [d1, d2, d3] }
  | _ => none }
def escBackRow : OpenClaim := { program := "ytlbokaekhjjabaa", sum := "020034c301e0dfe40b7d189d6d19db953134af4a4a07da2adbbbb73b24bb976d", func := "glossator/glossatorlaw03.EscBack", spec := "escBack", unfollowed := true, recurses := true, apart := false }
def EscBackSaid : Prop := escBackRow.holds Try.pinned (OpenSpec.ofChange escBackSpec)

/-- ITS FALSE NEIGHBOUR: 'it returns false'. Refute it at one input. -/
def escBackWrong : ChangeSpec := { name := "escBack", fn := fun _ => fun
  | [d1, d2, d3] => { results := [.lit (.bool false)], args := [d1, d2, d3] }
  | _ => none }
def EscBackWrongFalsely : Prop := escBackRow.holds Try.pinned (OpenSpec.ofChange escBackWrong)

/-- 'glossatorlaw03.EscRight': WHATEVER THE INPUT: true; the input reads as it did. -/
def escRightSpec : ChangeSpec := { name := "escRight", fn := fun _ => fun
  | [d] => { results := [.lit (.bool true)], args := [d] }
  | _ => none }
def escRightRow : OpenClaim := { program := "ytlbokaekhjjabaa", sum := "020034c301e0dfe40b7d189d6d19db953134af4a4a07da2adbbbb73b24bb976d", func := "glossator/glossatorlaw03.EscRight", spec := "escRight", unfollowed := true, recurses := true, apart := false }
def EscRightSaid : Prop := escRightRow.holds Try.pinned (OpenSpec.ofChange escRightSpec)

/-- ITS FALSE NEIGHBOUR: 'it returns false'. Refute it at one input. -/
def escRightWrong : ChangeSpec := { name := "escRight", fn := fun _ => fun
  | [d] => { results := [.lit (.bool false)], args := [d] }
  | _ => none }
def EscRightWrongFalsely : Prop := escRightRow.holds Try.pinned (OpenSpec.ofChange escRightWrong)

/-- 'glossatorlaw03.EscFirst': WHATEVER THE INPUT: true; the input reads as it did. -/
def escFirstSpec : ChangeSpec := { name := "escFirst", fn := fun _ => fun
  | [d1, d2] => { results := [.lit (.bool true)], args := [d1, d2] }
  | _ => none }
def escFirstRow : OpenClaim := { program := "ytlbokaekhjjabaa", sum := "020034c301e0dfe40b7d189d6d19db953134af4a4a07da2adbbbb73b24bb976d", func := "glossator/glossatorlaw03.EscFirst", spec := "escFirst", unfollowed := true, recurses := true, apart := false }
def EscFirstSaid : Prop := escFirstRow.holds Try.pinned (OpenSpec.ofChange escFirstSpec)

/-- ITS FALSE NEIGHBOUR: 'it returns false'. Refute it at one input. -/
def escFirstWrong : ChangeSpec := { name := "escFirst", fn := fun _ => fun
  | [d1, d2] => { results := [.lit (.bool false)], args := [d1, d2] }
  | _ => none }
def EscFirstWrongFalsely : Prop := escFirstRow.holds Try.pinned (OpenSpec.ofChange escFirstWrong)

/-- 'glossatorlaw14.TokenNexts': WHATEVER THE INPUT: true; the input reads as it did. -/
def tokenNextsSpec : ChangeSpec := { name := "tokenNexts", fn := fun _ => fun
  | [d1, d2] => { results := [.lit (.bool true)], args := [d1, d2] }
  | _ => none }
def tokenNextsRow : OpenClaim := { program := "ytlbokaekhjjabaa", sum := "020034c301e0dfe40b7d189d6d19db953134af4a4a07da2adbbbb73b24bb976d", func := "glossator/glossatorlaw14.TokenNexts", spec := "tokenNexts", unfollowed := true, recurses := true, apart := false }
def TokenNextsSaid : Prop := tokenNextsRow.holds Try.pinned (OpenSpec.ofChange tokenNextsSpec)

/-- ITS FALSE NEIGHBOUR: 'it returns false'. Refute it at one input. -/
def tokenNextsWrong : ChangeSpec := { name := "tokenNexts", fn := fun _ => fun
  | [d1, d2] => { results := [.lit (.bool false)], args := [d1, d2] }
  | _ => none }
def TokenNextsWrongFalsely : Prop := tokenNextsRow.holds Try.pinned (OpenSpec.ofChange tokenNextsWrong)

/-- 'glossatorlaw14.TokenLists': WHATEVER THE INPUT: true; the input reads as it did. -/
def tokenListsSpec : ChangeSpec := { name := "tokenLists", fn := fun _ => fun
  | [d] => { results := [.lit (.bool true)], args := [d] }
  | _ => none }
def tokenListsRow : OpenClaim := { program := "ytlbokaekhjjabaa", sum := "020034c301e0dfe40b7d189d6d19db953134af4a4a07da2adbbbb73b24bb976d", func := "glossator/glossatorlaw14.TokenLists", spec := "tokenLists", unfollowed := true, recurses := true, apart := false }
def TokenListsSaid : Prop := tokenListsRow.holds Try.pinned (OpenSpec.ofChange tokenListsSpec)

/-- ITS FALSE NEIGHBOUR: 'it returns false'. Refute it at one input. -/
def tokenListsWrong : ChangeSpec := { name := "tokenLists", fn := fun _ => fun
  | [d] => { results := [.lit (.bool false)], args := [d] }
  | _ => none }
def TokenListsWrongFalsely : Prop := tokenListsRow.holds Try.pinned (OpenSpec.ofChange tokenListsWrong)

/-- 'glossatorlaw14.TokenRow': WHATEVER THE INPUT: true; the input reads as it did. -/
def tokenRowSpec : ChangeSpec := { name := "tokenRow", fn := fun _ => fun
  | [d] => { results := [.lit (.bool true)], args := [d] }
  | _ => none }
def tokenRowRow : OpenClaim := { program := "ytlbokaekhjjabaa", sum := "020034c301e0dfe40b7d189d6d19db953134af4a4a07da2adbbbb73b24bb976d", func := "glossator/glossatorlaw14.TokenRow", spec := "tokenRow", unfollowed := true, recurses := true, apart := false }
def TokenRowSaid : Prop := tokenRowRow.holds Try.pinned (OpenSpec.ofChange tokenRowSpec)

/-- ITS FALSE NEIGHBOUR: 'it returns false'. Refute it at one input. -/
def tokenRowWrong : ChangeSpec := { name := "tokenRow", fn := fun _ => fun
  | [d] => { results := [.lit (.bool false)], args := [d] }
  | _ => none }
def TokenRowWrongFalsely : Prop := tokenRowRow.holds Try.pinned (OpenSpec.ofChange tokenRowWrong)

/-- 'glossatorlaw14.TokenBlanks': WHATEVER THE INPUT: true; the input reads as it did. -/
def tokenBlanksSpec : ChangeSpec := { name := "tokenBlanks", fn := fun _ => fun
  | [d1, d2] => { results := [.lit (.bool true)], args := [d1, d2] }
  | _ => none }
def tokenBlanksRow : OpenClaim := { program := "ytlbokaekhjjabaa", sum := "020034c301e0dfe40b7d189d6d19db953134af4a4a07da2adbbbb73b24bb976d", func := "glossator/glossatorlaw14.TokenBlanks", spec := "tokenBlanks", unfollowed := true, recurses := true, apart := false }
def TokenBlanksSaid : Prop := tokenBlanksRow.holds Try.pinned (OpenSpec.ofChange tokenBlanksSpec)

/-- ITS FALSE NEIGHBOUR: 'it returns false'. Refute it at one input. -/
def tokenBlanksWrong : ChangeSpec := { name := "tokenBlanks", fn := fun _ => fun
  | [d1, d2] => { results := [.lit (.bool false)], args := [d1, d2] }
  | _ => none }
def TokenBlanksWrongFalsely : Prop := tokenBlanksRow.holds Try.pinned (OpenSpec.ofChange tokenBlanksWrong)

/- THE SECOND FORM. 'bulk': how many values and letters a reading holds, each counted each time it is reached (what is shared counts as often as it is met; a slice's spare places count too). A statement '..UptoSaid' is the law's where the arguments, and the package variables that the reading takes, are together of bulk at most 1048576: NARROWER than '..Said'. Prove '..Said' where nothing that the law and all that it calls make is longer than what came in: it says more and counts as full. Else prove '..UptoSaid'. A law counts once. -/
mutual
def uptoBulk {H : Type} : DataW H → Nat
  | .lit (.string bytes) => bytes.length + 1
  | .lit _ => 1
  | .nil => 1
  | .ptr d => uptoBulk d + 1
  | .slice elems spare => uptoBulkAll elems + uptoBulkAll spare + 1
  | .agg parts => uptoBulkAll parts + 1
  | .iface _ d => uptoBulk d + 1
  | .map entries => uptoBulkEntries entries + 1
  | .held _ => 1
def uptoBulkAll {H : Type} : List (DataW H) → Nat
  | [] => 0
  | d :: r => uptoBulk d + uptoBulkAll r
def uptoBulkEntries {H : Type} : List (Lit × DataW H) → Nat
  | [] => 0
  | x :: r => uptoBulkEntry x + uptoBulkEntries r
def uptoBulkEntry {H : Type} : Lit × DataW H → Nat
  | (.string bytes, d) => bytes.length + uptoBulk d + 1
  | (_, d) => uptoBulk d + 1
 end
def uptoSmall : (H : Type) → List (DataW H) → Bool := fun _ ds => decide (uptoBulkAll ds ≤ 1048576)
def OpenSpec.upto (s : _root_.Go.ChangeSpec) : _root_.Go.OpenSpec := { _root_.Go.OpenSpec.ofChange s with cond := some uptoSmall }

/-- 'glossatorlaw02.UtfFirst', WHERE WHAT IT READS IS OF BULK AT MOST 1048576: true; the input reads as it did. -/
def utfFirstUptoRow : OpenClaim := { program := "ytlbokaekhjjabaa", sum := "020034c301e0dfe40b7d189d6d19db953134af4a4a07da2adbbbb73b24bb976d", func := "glossator/glossatorlaw02.UtfFirst", spec := "utfFirst", apart := false, narrowed := true }
def UtfFirstUptoSaid : Prop := utfFirstUptoRow.holds Try.pinned (OpenSpec.upto utfFirstSpec)

/-- 'glossatorlaw02.UtfZero', WHERE WHAT IT READS IS OF BULK AT MOST 1048576: true; the input reads as it did. -/
def utfZeroUptoRow : OpenClaim := { program := "ytlbokaekhjjabaa", sum := "020034c301e0dfe40b7d189d6d19db953134af4a4a07da2adbbbb73b24bb976d", func := "glossator/glossatorlaw02.UtfZero", spec := "utfZero", apart := false, narrowed := true }
def UtfZeroUptoSaid : Prop := utfZeroUptoRow.holds Try.pinned (OpenSpec.upto utfZeroSpec)

/-- 'glossatorlaw02.UtfPoints', WHERE WHAT IT READS IS OF BULK AT MOST 1048576: true; the input reads as it did. -/
def utfPointsUptoRow : OpenClaim := { program := "ytlbokaekhjjabaa", sum := "020034c301e0dfe40b7d189d6d19db953134af4a4a07da2adbbbb73b24bb976d", func := "glossator/glossatorlaw02.UtfPoints", spec := "utfPoints", apart := false, narrowed := true }
def UtfPointsUptoSaid : Prop := utfPointsUptoRow.holds Try.pinned (OpenSpec.upto utfPointsSpec)

/-- 'glossatorlaw02.UtfBack', WHERE WHAT IT READS IS OF BULK AT MOST 1048576: true; the input reads as it did. -/
def utfBackUptoRow : OpenClaim := { program := "ytlbokaekhjjabaa", sum := "020034c301e0dfe40b7d189d6d19db953134af4a4a07da2adbbbb73b24bb976d", func := "glossator/glossatorlaw02.UtfBack", spec := "utfBack", apart := false, narrowed := true }
def UtfBackUptoSaid : Prop := utfBackUptoRow.holds Try.pinned (OpenSpec.upto utfBackSpec)

/-- 'glossatorlaw03.EscQuotes', WHERE WHAT IT READS IS OF BULK AT MOST 1048576: true; the input reads as it did. -/
def escQuotesUptoRow : OpenClaim := { program := "ytlbokaekhjjabaa", sum := "020034c301e0dfe40b7d189d6d19db953134af4a4a07da2adbbbb73b24bb976d", func := "glossator/glossatorlaw03.EscQuotes", spec := "escQuotes", unfollowed := true, recurses := true, apart := false, narrowed := true }
def EscQuotesUptoSaid : Prop := escQuotesUptoRow.holds Try.pinned (OpenSpec.upto escQuotesSpec)

/-- 'glossatorlaw03.EscJoins', WHERE WHAT IT READS IS OF BULK AT MOST 1048576: true; the input reads as it did. -/
def escJoinsUptoRow : OpenClaim := { program := "ytlbokaekhjjabaa", sum := "020034c301e0dfe40b7d189d6d19db953134af4a4a07da2adbbbb73b24bb976d", func := "glossator/glossatorlaw03.EscJoins", spec := "escJoins", unfollowed := true, recurses := true, apart := false, narrowed := true }
def EscJoinsUptoSaid : Prop := escJoinsUptoRow.holds Try.pinned (OpenSpec.upto escJoinsSpec)

/-- 'glossatorlaw02.UtfChecks', WHERE WHAT IT READS IS OF BULK AT MOST 1048576: true; the input reads as it did. -/
def utfChecksUptoRow : OpenClaim := { program := "ytlbokaekhjjabaa", sum := "020034c301e0dfe40b7d189d6d19db953134af4a4a07da2adbbbb73b24bb976d", func := "glossator/glossatorlaw02.UtfChecks", spec := "utfChecks", apart := false, narrowed := true }
def UtfChecksUptoSaid : Prop := utfChecksUptoRow.holds Try.pinned (OpenSpec.upto utfChecksSpec)

/-- 'glossatorlaw02.UtfWithin', WHERE WHAT IT READS IS OF BULK AT MOST 1048576: true; the input reads as it did. -/
def utfWithinUptoRow : OpenClaim := { program := "ytlbokaekhjjabaa", sum := "020034c301e0dfe40b7d189d6d19db953134af4a4a07da2adbbbb73b24bb976d", func := "glossator/glossatorlaw02.UtfWithin", spec := "utfWithin", apart := false, narrowed := true }
def UtfWithinUptoSaid : Prop := utfWithinUptoRow.holds Try.pinned (OpenSpec.upto utfWithinSpec)

/-- 'glossatorlaw02.UtfScans', WHERE WHAT IT READS IS OF BULK AT MOST 1048576: true; the input reads as it did. -/
def utfScansUptoRow : OpenClaim := { program := "ytlbokaekhjjabaa", sum := "020034c301e0dfe40b7d189d6d19db953134af4a4a07da2adbbbb73b24bb976d", func := "glossator/glossatorlaw02.UtfScans", spec := "utfScans", apart := false, narrowed := true }
def UtfScansUptoSaid : Prop := utfScansUptoRow.holds Try.pinned (OpenSpec.upto utfScansSpec)

/-- 'glossatorlaw03.EscScans', WHERE WHAT IT READS IS OF BULK AT MOST 1048576: true; the input reads as it did. -/
def escScansUptoRow : OpenClaim := { program := "ytlbokaekhjjabaa", sum := "020034c301e0dfe40b7d189d6d19db953134af4a4a07da2adbbbb73b24bb976d", func := "glossator/glossatorlaw03.EscScans", spec := "escScans", unfollowed := true, recurses := true, apart := false, narrowed := true }
def EscScansUptoSaid : Prop := escScansUptoRow.holds Try.pinned (OpenSpec.upto escScansSpec)

/-- 'glossatorlaw03.EscBack', WHERE WHAT IT READS IS OF BULK AT MOST 1048576: true; the input reads as it did. -/
def escBackUptoRow : OpenClaim := { program := "ytlbokaekhjjabaa", sum := "020034c301e0dfe40b7d189d6d19db953134af4a4a07da2adbbbb73b24bb976d", func := "glossator/glossatorlaw03.EscBack", spec := "escBack", unfollowed := true, recurses := true, apart := false, narrowed := true }
def EscBackUptoSaid : Prop := escBackUptoRow.holds Try.pinned (OpenSpec.upto escBackSpec)

/-- 'glossatorlaw03.EscRight', WHERE WHAT IT READS IS OF BULK AT MOST 1048576: true; the input reads as it did. -/
def escRightUptoRow : OpenClaim := { program := "ytlbokaekhjjabaa", sum := "020034c301e0dfe40b7d189d6d19db953134af4a4a07da2adbbbb73b24bb976d", func := "glossator/glossatorlaw03.EscRight", spec := "escRight", unfollowed := true, recurses := true, apart := false, narrowed := true }
def EscRightUptoSaid : Prop := escRightUptoRow.holds Try.pinned (OpenSpec.upto escRightSpec)

/-- 'glossatorlaw03.EscFirst', WHERE WHAT IT READS IS OF BULK AT MOST 1048576: true; the input reads as it did. -/
def escFirstUptoRow : OpenClaim := { program := "ytlbokaekhjjabaa", sum := "020034c301e0dfe40b7d189d6d19db953134af4a4a07da2adbbbb73b24bb976d", func := "glossator/glossatorlaw03.EscFirst", spec := "escFirst", unfollowed := true, recurses := true, apart := false, narrowed := true }
def EscFirstUptoSaid : Prop := escFirstUptoRow.holds Try.pinned (OpenSpec.upto escFirstSpec)

/-- 'glossatorlaw14.TokenNexts', WHERE WHAT IT READS IS OF BULK AT MOST 1048576: true; the input reads as it did. -/
def tokenNextsUptoRow : OpenClaim := { program := "ytlbokaekhjjabaa", sum := "020034c301e0dfe40b7d189d6d19db953134af4a4a07da2adbbbb73b24bb976d", func := "glossator/glossatorlaw14.TokenNexts", spec := "tokenNexts", unfollowed := true, recurses := true, apart := false, narrowed := true }
def TokenNextsUptoSaid : Prop := tokenNextsUptoRow.holds Try.pinned (OpenSpec.upto tokenNextsSpec)

/-- 'glossatorlaw14.TokenLists', WHERE WHAT IT READS IS OF BULK AT MOST 1048576: true; the input reads as it did. -/
def tokenListsUptoRow : OpenClaim := { program := "ytlbokaekhjjabaa", sum := "020034c301e0dfe40b7d189d6d19db953134af4a4a07da2adbbbb73b24bb976d", func := "glossator/glossatorlaw14.TokenLists", spec := "tokenLists", unfollowed := true, recurses := true, apart := false, narrowed := true }
def TokenListsUptoSaid : Prop := tokenListsUptoRow.holds Try.pinned (OpenSpec.upto tokenListsSpec)

/-- 'glossatorlaw14.TokenRow', WHERE WHAT IT READS IS OF BULK AT MOST 1048576: true; the input reads as it did. -/
def tokenRowUptoRow : OpenClaim := { program := "ytlbokaekhjjabaa", sum := "020034c301e0dfe40b7d189d6d19db953134af4a4a07da2adbbbb73b24bb976d", func := "glossator/glossatorlaw14.TokenRow", spec := "tokenRow", unfollowed := true, recurses := true, apart := false, narrowed := true }
def TokenRowUptoSaid : Prop := tokenRowUptoRow.holds Try.pinned (OpenSpec.upto tokenRowSpec)

/-- 'glossatorlaw14.TokenBlanks', WHERE WHAT IT READS IS OF BULK AT MOST 1048576: true; the input reads as it did. -/
def tokenBlanksUptoRow : OpenClaim := { program := "ytlbokaekhjjabaa", sum := "020034c301e0dfe40b7d189d6d19db953134af4a4a07da2adbbbb73b24bb976d", func := "glossator/glossatorlaw14.TokenBlanks", spec := "tokenBlanks", unfollowed := true, recurses := true, apart := false, narrowed := true }
def TokenBlanksUptoSaid : Prop := tokenBlanksUptoRow.holds Try.pinned (OpenSpec.upto tokenBlanksSpec)

end Rows
end Go.Proofs.Ytlbokaekhjjabaa
