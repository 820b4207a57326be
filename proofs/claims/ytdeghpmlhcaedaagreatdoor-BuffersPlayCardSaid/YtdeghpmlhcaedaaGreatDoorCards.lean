/-
  DERIVED. GIVEN WITH THE SEED: THE CARDS: each row of YtdeghpmlhcaedaaGreatDoorRows.lean that lists a variable, with what it lists TIED to the program's text (the seventh form; the later family's looks); each row that meets fmt, with fmt's text TOLD by the authors' own Lean function (tested against real Go, not proved from fmt's source: count such statements apart). THE CARD IS WHAT COUNTS. Prove the row's statement (the work); the ties are given (YtdeghpmlhcaedaaGreatDoorTie.lean); close each card by the builder's one call (the guide's Derived/Test/ToyasCard.lean, 'card_holds'). Laid BY PROGRAM, IN A SANDBOX (cutbox-door.mjs). By AI agents, Wed Nov 11 2026. No macro, syntax, notation, axiom, sorry.
-/
import Derived.Test.YtdeghpmlhcaedaaGreatDoorRows
import GoSem.ClaimSeven
namespace Go.Proofs.YtdeghpmlhcaedaaGreatDoor
namespace Rows

/-- THE TIED CARD OF 'ferryhouselaw19.BuffersPlay'. -/
def buffersPlayCard : Claim7 := { stood := { row := buffersPlayRow, standIns := [], harness := (true, "e9b2b041a7d542499d76b053c0766b04e5c79360b50c67bb912a9daa58bbfc44"), looks := true }, kinds := [], alts := [], laidByText := true, laidKinds := [.data], laidTests := true, laidLooks := .later }
def BuffersPlayCardSaid : Prop := Claim7.holds Tryz.pinned (.plain (OpenSpec.ofChange buffersPlaySpec)) buffersPlayCard

/-- THE SECOND FORM's CARD OF 'ferryhouselaw19.BuffersPlay'. -/
def buffersPlayUptoCard : Claim7 := { stood := { row := buffersPlayUptoRow, standIns := [], harness := (true, "e9b2b041a7d542499d76b053c0766b04e5c79360b50c67bb912a9daa58bbfc44"), looks := true }, kinds := [], alts := [], laidByText := true, laidKinds := [.data], laidTests := true, laidLooks := .later }
def BuffersPlayUptoCardSaid : Prop := Claim7.holds Tryz.pinned (.plain (OpenSpec.upto buffersPlaySpec)) buffersPlayUptoCard
end Rows
end Go.Proofs.YtdeghpmlhcaedaaGreatDoor
