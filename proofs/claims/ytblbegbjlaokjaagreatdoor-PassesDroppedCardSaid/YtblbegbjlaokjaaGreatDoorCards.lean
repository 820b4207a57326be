/-
  DERIVED. GIVEN WITH THE SEED: THE CARDS: each row of YtblbegbjlaokjaaGreatDoorRows.lean that lists a variable, with what it lists TIED to the program's text (the seventh form; the later family's looks); each row that meets fmt, with fmt's text TOLD by the authors' own Lean function (tested against real Go, not proved from fmt's source: count such statements apart). THE CARD IS WHAT COUNTS. Prove the row's statement (the work); the ties are given (YtblbegbjlaokjaaGreatDoorTie.lean); close each card by the builder's one call (the guide's Derived/Test/ToyasCard.lean, 'card_holds'). Laid BY PROGRAM, IN A SANDBOX (cutbox-door.mjs). By AI agents, Wed Nov 11 2026. No macro, syntax, notation, axiom, sorry.
-/
import Derived.Test.YtblbegbjlaokjaaGreatDoorRows
import GoSem.ClaimSeven
namespace Go.Proofs.YtblbegbjlaokjaaGreatDoor
namespace Rows

/-- THE TIED CARD OF 'ferryhouselaw26.PassesVoid'. -/
def passesVoidCard : Claim7 := { stood := { row := passesVoidRow, standIns := [], harness := (true, "2671179052e59197a4a014fc34334819269d61d59e3b77801efd4ce657873532"), looks := true }, kinds := [], alts := [], laidByText := true, laidKinds := [.data], laidTests := true, laidLooks := .later }
def PassesVoidCardSaid : Prop := Claim7.holds Tryz.pinned (.plain (OpenSpec.ofChange passesVoidSpec)) passesVoidCard

/-- THE TIED CARD OF 'ferryhouselaw26.PassesOrder'. -/
def passesOrderCard : Claim7 := { stood := { row := passesOrderRow, standIns := [], harness := (true, "2671179052e59197a4a014fc34334819269d61d59e3b77801efd4ce657873532"), looks := true }, kinds := [], alts := [], laidByText := true, laidKinds := [.data], laidTests := true, laidLooks := .later }
def PassesOrderCardSaid : Prop := Claim7.holds Tryz.pinned (.plain (OpenSpec.ofChange passesOrderSpec)) passesOrderCard

/-- THE TIED CARD OF 'ferryhouselaw26.PassesDropped'. -/
def passesDroppedCard : Claim7 := { stood := { row := passesDroppedRow, standIns := [], harness := (true, "2671179052e59197a4a014fc34334819269d61d59e3b77801efd4ce657873532"), looks := true }, kinds := [], alts := [], laidByText := true, laidKinds := [.data], laidTests := true, laidLooks := .later }
def PassesDroppedCardSaid : Prop := Claim7.holds Tryz.pinned (.plain (OpenSpec.ofChange passesDroppedSpec)) passesDroppedCard

/-- THE TIED CARD OF 'ferryhouselaw26.PassesFirst'. -/
def passesFirstCard : Claim7 := { stood := { row := passesFirstRow, standIns := [], harness := (true, "2671179052e59197a4a014fc34334819269d61d59e3b77801efd4ce657873532"), looks := true }, kinds := [], alts := [], laidByText := true, laidKinds := [.data], laidTests := true, laidLooks := .later }
def PassesFirstCardSaid : Prop := Claim7.holds Tryz.pinned (.plain (OpenSpec.ofChange passesFirstSpec)) passesFirstCard

/-- THE SECOND FORM's CARD OF 'ferryhouselaw26.PassesVoid'. -/
def passesVoidUptoCard : Claim7 := { stood := { row := passesVoidUptoRow, standIns := [], harness := (true, "2671179052e59197a4a014fc34334819269d61d59e3b77801efd4ce657873532"), looks := true }, kinds := [], alts := [], laidByText := true, laidKinds := [.data], laidTests := true, laidLooks := .later }
def PassesVoidUptoCardSaid : Prop := Claim7.holds Tryz.pinned (.plain (OpenSpec.upto passesVoidSpec)) passesVoidUptoCard

/-- THE SECOND FORM's CARD OF 'ferryhouselaw26.PassesOrder'. -/
def passesOrderUptoCard : Claim7 := { stood := { row := passesOrderUptoRow, standIns := [], harness := (true, "2671179052e59197a4a014fc34334819269d61d59e3b77801efd4ce657873532"), looks := true }, kinds := [], alts := [], laidByText := true, laidKinds := [.data], laidTests := true, laidLooks := .later }
def PassesOrderUptoCardSaid : Prop := Claim7.holds Tryz.pinned (.plain (OpenSpec.upto passesOrderSpec)) passesOrderUptoCard

/-- THE SECOND FORM's CARD OF 'ferryhouselaw26.PassesDropped'. -/
def passesDroppedUptoCard : Claim7 := { stood := { row := passesDroppedUptoRow, standIns := [], harness := (true, "2671179052e59197a4a014fc34334819269d61d59e3b77801efd4ce657873532"), looks := true }, kinds := [], alts := [], laidByText := true, laidKinds := [.data], laidTests := true, laidLooks := .later }
def PassesDroppedUptoCardSaid : Prop := Claim7.holds Tryz.pinned (.plain (OpenSpec.upto passesDroppedSpec)) passesDroppedUptoCard

/-- THE SECOND FORM's CARD OF 'ferryhouselaw26.PassesFirst'. -/
def passesFirstUptoCard : Claim7 := { stood := { row := passesFirstUptoRow, standIns := [], harness := (true, "2671179052e59197a4a014fc34334819269d61d59e3b77801efd4ce657873532"), looks := true }, kinds := [], alts := [], laidByText := true, laidKinds := [.data], laidTests := true, laidLooks := .later }
def PassesFirstUptoCardSaid : Prop := Claim7.holds Tryz.pinned (.plain (OpenSpec.upto passesFirstSpec)) passesFirstUptoCard
end Rows
end Go.Proofs.YtblbegbjlaokjaaGreatDoor
