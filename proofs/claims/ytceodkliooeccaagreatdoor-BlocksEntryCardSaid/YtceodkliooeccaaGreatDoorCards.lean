/-
  DERIVED. GIVEN WITH THE SEED: THE CARDS: each row of YtceodkliooeccaaGreatDoorRows.lean that lists a variable, with what it lists TIED to the program's text (the seventh form; the later family's looks); each row that meets fmt, with fmt's text TOLD by the authors' own Lean function (tested against real Go, not proved from fmt's source: count such statements apart). THE CARD IS WHAT COUNTS. Prove the row's statement (the work); the ties are given (YtceodkliooeccaaGreatDoorTie.lean); close each card by the builder's one call (the guide's Derived/Test/ToyasCard.lean, 'card_holds'). Laid BY PROGRAM, IN A SANDBOX (cutbox-door.mjs). By AI agents, Wed Nov 11 2026. No macro, syntax, notation, axiom, sorry.
-/
import Derived.Test.YtceodkliooeccaaGreatDoorRows
import GoSem.ClaimSeven
namespace Go.Proofs.YtceodkliooeccaaGreatDoor
namespace Rows

/-- THE TIED CARD OF 'ferryhouselaw27.BlocksEntry'. -/
def blocksEntryCard : Claim7 := { stood := { row := blocksEntryRow, standIns := [], harness := (true, "bea8ed150854403b28a2c90a6e1a46dbf3f90e5c5109739d3c62036387193c00"), looks := true }, kinds := [], alts := [], laidByText := true, laidKinds := [.data, .data], laidTests := true, laidLooks := .later }
def BlocksEntryCardSaid : Prop := Claim7.holds Tryz.pinned (.plain (OpenSpec.ofChange blocksEntrySpec)) blocksEntryCard

/-- THE SECOND FORM's CARD OF 'ferryhouselaw27.BlocksEntry'. -/
def blocksEntryUptoCard : Claim7 := { stood := { row := blocksEntryUptoRow, standIns := [], harness := (true, "bea8ed150854403b28a2c90a6e1a46dbf3f90e5c5109739d3c62036387193c00"), looks := true }, kinds := [], alts := [], laidByText := true, laidKinds := [.data, .data], laidTests := true, laidLooks := .later }
def BlocksEntryUptoCardSaid : Prop := Claim7.holds Tryz.pinned (.plain (OpenSpec.upto blocksEntrySpec)) blocksEntryUptoCard
end Rows
end Go.Proofs.YtceodkliooeccaaGreatDoor
