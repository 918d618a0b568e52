/-
  DERIVED. GIVEN WITH THE SEED: THE CARDS: each row of YtfmceonbejlhlaaGreatDoorRows.lean that lists a variable, with what it lists TIED to the program's text (the seventh form; the later family's looks); each row that meets fmt, with fmt's text TOLD by the authors' own Lean function (tested against real Go, not proved from fmt's source: count such statements apart). THE CARD IS WHAT COUNTS. Prove the row's statement (the work); the ties are given (YtfmceonbejlhlaaGreatDoorTie.lean); close each card by the builder's one call (the guide's Derived/Test/ToyasCard.lean, 'card_holds'). Laid BY PROGRAM, IN A SANDBOX (cutbox-door.mjs). By AI agents, Wed Nov 11 2026. No macro, syntax, notation, axiom, sorry.
-/
import Derived.Test.YtfmceonbejlhlaaGreatDoorRows
import GoSem.ClaimSeven
namespace Go.Proofs.YtfmceonbejlhlaaGreatDoor
namespace Rows

/-- THE TIED CARD OF 'glossatortop.WholeDet'. -/
def wholeDetCard : Claim7 := { stood := { row := wholeDetRow, standIns := [], harness := (true, "a2ae37aaa97d7d3c89025e1b99f163ef579f2cc0e0186a7880cd174fb5a19cde"), looks := true }, kinds := [], alts := [], laidByText := true, laidKinds := [.handle], laidTests := true, laidLooks := .later }
def WholeDetCardSaid : Prop := Claim7.holds Tryz.pinned (.plain (OpenSpec.ofChange wholeDetSpec)) wholeDetCard

/-- THE TIED CARD OF 'glossatortop.WholeChain'. -/
def wholeChainCard : Claim7 := { stood := { row := wholeChainRow, standIns := [], harness := (true, "a2ae37aaa97d7d3c89025e1b99f163ef579f2cc0e0186a7880cd174fb5a19cde"), looks := true }, kinds := [], alts := [], laidByText := true, laidKinds := [.data, .data, .data], laidTests := true, laidLooks := .later }
def WholeChainCardSaid : Prop := Claim7.holds Tryz.pinned (.plain (OpenSpec.ofChange wholeChainSpec)) wholeChainCard

/-- THE SECOND FORM's CARD OF 'glossatortop.WholeDet'. -/
def wholeDetUptoCard : Claim7 := { stood := { row := wholeDetUptoRow, standIns := [], harness := (true, "a2ae37aaa97d7d3c89025e1b99f163ef579f2cc0e0186a7880cd174fb5a19cde"), looks := true }, kinds := [], alts := [], laidByText := true, laidKinds := [.handle], laidTests := true, laidLooks := .later }
def WholeDetUptoCardSaid : Prop := Claim7.holds Tryz.pinned (.plain (OpenSpec.upto wholeDetSpec)) wholeDetUptoCard

/-- THE SECOND FORM's CARD OF 'glossatortop.WholeChain'. -/
def wholeChainUptoCard : Claim7 := { stood := { row := wholeChainUptoRow, standIns := [], harness := (true, "a2ae37aaa97d7d3c89025e1b99f163ef579f2cc0e0186a7880cd174fb5a19cde"), looks := true }, kinds := [], alts := [], laidByText := true, laidKinds := [.data, .data, .data], laidTests := true, laidLooks := .later }
def WholeChainUptoCardSaid : Prop := Claim7.holds Tryz.pinned (.plain (OpenSpec.upto wholeChainSpec)) wholeChainUptoCard
end Rows
end Go.Proofs.YtfmceonbejlhlaaGreatDoor
