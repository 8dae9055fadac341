/-
  DERIVED. GIVEN WITH THE SEED: THE CARDS: each row of YtnilejkfbcnkkaaGreatDoorRows.lean that lists a variable, with what it lists TIED to the program's text (the seventh form; the later family's looks); each row that meets fmt, with fmt's text TOLD by the authors' own Lean function (tested against real Go, not proved from fmt's source: count such statements apart). THE CARD IS WHAT COUNTS. Prove the row's statement (the work); the ties are given (YtnilejkfbcnkkaaGreatDoorTie.lean); close each card by the builder's one call (the guide's Derived/Test/ToyasCard.lean, 'card_holds'). Laid BY PROGRAM, IN A SANDBOX (cutbox-door.mjs). By AI agents, Wed Nov 11 2026. No macro, syntax, notation, axiom, sorry.
-/
import Derived.Test.YtnilejkfbcnkkaaGreatDoorRows
import GoSem.ClaimSeven
namespace Go.Proofs.YtnilejkfbcnkkaaGreatDoor
namespace Rows

/-- THE TIED CARD OF 'ashlartop.WholeBeyond'. -/
def wholeBeyondCard : Claim7 := { stood := { row := wholeBeyondRow, standIns := [], harness := (true, "f954c4b43ca9f38fc8f1f7778a7c2a7cace83c8d51eeb1436fa18223aa8977ac"), looks := true }, kinds := [], alts := [], laidByText := true, laidKinds := [.data], laidTests := true, laidLooks := .later }
def WholeBeyondCardSaid : Prop := Claim7.holds Tryz.pinned (.plain (OpenSpec.ofChange wholeBeyondSpec)) wholeBeyondCard

/-- THE TIED CARD OF 'ashlartop.WholeModel'. -/
def wholeModelCard : Claim7 := { stood := { row := wholeModelRow, standIns := [], harness := (true, "f954c4b43ca9f38fc8f1f7778a7c2a7cace83c8d51eeb1436fa18223aa8977ac"), looks := true }, kinds := [], alts := [], laidByText := true, laidKinds := [.data], laidTests := true, laidLooks := .later }
def WholeModelCardSaid : Prop := Claim7.holds Tryz.pinned (.plain (OpenSpec.ofChange wholeModelSpec)) wholeModelCard

/-- THE SECOND FORM's CARD OF 'ashlartop.WholeBeyond'. -/
def wholeBeyondUptoCard : Claim7 := { stood := { row := wholeBeyondUptoRow, standIns := [], harness := (true, "f954c4b43ca9f38fc8f1f7778a7c2a7cace83c8d51eeb1436fa18223aa8977ac"), looks := true }, kinds := [], alts := [], laidByText := true, laidKinds := [.data], laidTests := true, laidLooks := .later }
def WholeBeyondUptoCardSaid : Prop := Claim7.holds Tryz.pinned (.plain (OpenSpec.upto wholeBeyondSpec)) wholeBeyondUptoCard

/-- THE SECOND FORM's CARD OF 'ashlartop.WholeModel'. -/
def wholeModelUptoCard : Claim7 := { stood := { row := wholeModelUptoRow, standIns := [], harness := (true, "f954c4b43ca9f38fc8f1f7778a7c2a7cace83c8d51eeb1436fa18223aa8977ac"), looks := true }, kinds := [], alts := [], laidByText := true, laidKinds := [.data], laidTests := true, laidLooks := .later }
def WholeModelUptoCardSaid : Prop := Claim7.holds Tryz.pinned (.plain (OpenSpec.upto wholeModelSpec)) wholeModelUptoCard
end Rows
end Go.Proofs.YtnilejkfbcnkkaaGreatDoor
