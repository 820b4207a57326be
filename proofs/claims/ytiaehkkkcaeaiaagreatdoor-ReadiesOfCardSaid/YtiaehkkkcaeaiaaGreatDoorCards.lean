/-
  DERIVED. GIVEN WITH THE SEED: THE CARDS: each row of YtiaehkkkcaeaiaaGreatDoorRows.lean that lists a variable, with what it lists TIED to the program's text (the seventh form; the later family's looks); each row that meets fmt, with fmt's text TOLD by the authors' own Lean function (tested against real Go, not proved from fmt's source: count such statements apart). THE CARD IS WHAT COUNTS. Prove the row's statement (the work); the ties are given (YtiaehkkkcaeaiaaGreatDoorTie.lean); close each card by the builder's one call (the guide's Derived/Test/ToyasCard.lean, 'card_holds'). Laid BY PROGRAM, IN A SANDBOX (cutbox-door.mjs). By AI agents, Wed Nov 11 2026. No macro, syntax, notation, axiom, sorry.
-/
import Derived.Test.YtiaehkkkcaeaiaaGreatDoorRows
import GoSem.ClaimSeven
namespace Go.Proofs.YtiaehkkkcaeaiaaGreatDoor
namespace Rows

/-- THE TIED CARD OF 'ferryhouselaw11.ReadiesNone'. -/
def readiesNoneCard : Claim7 := { stood := { row := readiesNoneRow, standIns := [], harness := (true, "bbcd8e7124cdc2a0cfcdb4469d09a8f7a7de5ed78a35b9507c20d08a7b415d79"), looks := true }, kinds := [], alts := [], laidByText := true, laidKinds := [.data, .data], laidTests := true, laidLooks := .later }
def ReadiesNoneCardSaid : Prop := Claim7.holds Tryz.pinned (.plain (OpenSpec.ofChange readiesNoneSpec)) readiesNoneCard

/-- THE TIED CARD OF 'ferryhouselaw11.ReadiesOf'. -/
def readiesOfCard : Claim7 := { stood := { row := readiesOfRow, standIns := [], harness := (true, "bbcd8e7124cdc2a0cfcdb4469d09a8f7a7de5ed78a35b9507c20d08a7b415d79"), looks := true }, kinds := [], alts := [], laidByText := true, laidKinds := [.data, .data], laidTests := true, laidLooks := .later }
def ReadiesOfCardSaid : Prop := Claim7.holds Tryz.pinned (.plain (OpenSpec.ofChange readiesOfSpec)) readiesOfCard

/-- THE TIED CARD OF 'ferryhouselaw11.ReadiesParts'. -/
def readiesPartsCard : Claim7 := { stood := { row := readiesPartsRow, standIns := [], harness := (true, "bbcd8e7124cdc2a0cfcdb4469d09a8f7a7de5ed78a35b9507c20d08a7b415d79"), looks := true }, kinds := [], alts := [], laidByText := true, laidKinds := [.data, .data], laidTests := true, laidLooks := .later }
def ReadiesPartsCardSaid : Prop := Claim7.holds Tryz.pinned (.plain (OpenSpec.ofChange readiesPartsSpec)) readiesPartsCard

/-- THE TIED CARD OF 'ferryhouselaw11.ReadiesTables'. -/
def readiesTablesCard : Claim7 := { stood := { row := readiesTablesRow, standIns := [], harness := (true, "bbcd8e7124cdc2a0cfcdb4469d09a8f7a7de5ed78a35b9507c20d08a7b415d79"), looks := true }, kinds := [], alts := [], laidByText := true, laidKinds := [.data, .data], laidTests := true, laidLooks := .later }
def ReadiesTablesCardSaid : Prop := Claim7.holds Tryz.pinned (.plain (OpenSpec.ofChange readiesTablesSpec)) readiesTablesCard

/-- THE TIED CARD OF 'ferryhouselaw11.ReadiesKinds'. -/
def readiesKindsCard : Claim7 := { stood := { row := readiesKindsRow, standIns := [], harness := (true, "bbcd8e7124cdc2a0cfcdb4469d09a8f7a7de5ed78a35b9507c20d08a7b415d79"), looks := true }, kinds := [], alts := [], laidByText := true, laidKinds := [.data, .data], laidTests := true, laidLooks := .later }
def ReadiesKindsCardSaid : Prop := Claim7.holds Tryz.pinned (.plain (OpenSpec.ofChange readiesKindsSpec)) readiesKindsCard

/-- THE SECOND FORM's CARD OF 'ferryhouselaw11.ReadiesNone'. -/
def readiesNoneUptoCard : Claim7 := { stood := { row := readiesNoneUptoRow, standIns := [], harness := (true, "bbcd8e7124cdc2a0cfcdb4469d09a8f7a7de5ed78a35b9507c20d08a7b415d79"), looks := true }, kinds := [], alts := [], laidByText := true, laidKinds := [.data, .data], laidTests := true, laidLooks := .later }
def ReadiesNoneUptoCardSaid : Prop := Claim7.holds Tryz.pinned (.plain (OpenSpec.upto readiesNoneSpec)) readiesNoneUptoCard

/-- THE SECOND FORM's CARD OF 'ferryhouselaw11.ReadiesOf'. -/
def readiesOfUptoCard : Claim7 := { stood := { row := readiesOfUptoRow, standIns := [], harness := (true, "bbcd8e7124cdc2a0cfcdb4469d09a8f7a7de5ed78a35b9507c20d08a7b415d79"), looks := true }, kinds := [], alts := [], laidByText := true, laidKinds := [.data, .data], laidTests := true, laidLooks := .later }
def ReadiesOfUptoCardSaid : Prop := Claim7.holds Tryz.pinned (.plain (OpenSpec.upto readiesOfSpec)) readiesOfUptoCard

/-- THE SECOND FORM's CARD OF 'ferryhouselaw11.ReadiesParts'. -/
def readiesPartsUptoCard : Claim7 := { stood := { row := readiesPartsUptoRow, standIns := [], harness := (true, "bbcd8e7124cdc2a0cfcdb4469d09a8f7a7de5ed78a35b9507c20d08a7b415d79"), looks := true }, kinds := [], alts := [], laidByText := true, laidKinds := [.data, .data], laidTests := true, laidLooks := .later }
def ReadiesPartsUptoCardSaid : Prop := Claim7.holds Tryz.pinned (.plain (OpenSpec.upto readiesPartsSpec)) readiesPartsUptoCard

/-- THE SECOND FORM's CARD OF 'ferryhouselaw11.ReadiesTables'. -/
def readiesTablesUptoCard : Claim7 := { stood := { row := readiesTablesUptoRow, standIns := [], harness := (true, "bbcd8e7124cdc2a0cfcdb4469d09a8f7a7de5ed78a35b9507c20d08a7b415d79"), looks := true }, kinds := [], alts := [], laidByText := true, laidKinds := [.data, .data], laidTests := true, laidLooks := .later }
def ReadiesTablesUptoCardSaid : Prop := Claim7.holds Tryz.pinned (.plain (OpenSpec.upto readiesTablesSpec)) readiesTablesUptoCard

/-- THE SECOND FORM's CARD OF 'ferryhouselaw11.ReadiesKinds'. -/
def readiesKindsUptoCard : Claim7 := { stood := { row := readiesKindsUptoRow, standIns := [], harness := (true, "bbcd8e7124cdc2a0cfcdb4469d09a8f7a7de5ed78a35b9507c20d08a7b415d79"), looks := true }, kinds := [], alts := [], laidByText := true, laidKinds := [.data, .data], laidTests := true, laidLooks := .later }
def ReadiesKindsUptoCardSaid : Prop := Claim7.holds Tryz.pinned (.plain (OpenSpec.upto readiesKindsSpec)) readiesKindsUptoCard
end Rows
end Go.Proofs.YtiaehkkkcaeaiaaGreatDoor
