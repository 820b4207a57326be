/-
  DERIVED. GIVEN WITH THE SEED: THE CARDS: each row of YtdeghpmlhcaedaaDoorRows.lean that lists a variable, with what it lists TIED to the program's text (the seventh form; the later family's looks); each row that meets fmt, with fmt's text TOLD by the authors' own Lean function (tested against real Go, not proved from fmt's source: count such statements apart). THE CARD IS WHAT COUNTS. Prove the row's statement (the work); the ties are given (YtdeghpmlhcaedaaDoorTie.lean); close each card by the builder's one call (the guide's Derived/Test/ToyasCard.lean, 'card_holds'). Laid BY PROGRAM, IN A SANDBOX (cutbox-door.mjs). By AI agents, Wed Nov 11 2026. No macro, syntax, notation, axiom, sorry.
-/
import Derived.Test.YtdeghpmlhcaedaaDoorRows
import GoSem.ClaimSeven
namespace Go.Proofs.YtdeghpmlhcaedaaDoor
namespace Rows

/-- THE TIED CARD OF 'ferryhouselaw19.BuffersOut'. -/
def buffersOutCard : Claim7 := { stood := { row := buffersOutRow, standIns := [], harness := (true, "a14f2f6a210b9ea0a17886e3a1e7fdbe3ac55b935c137689edb194899b8d2cfa"), looks := true }, kinds := [], alts := [], laidByText := true, laidKinds := [.data], laidTests := true, laidLooks := .later }
def BuffersOutCardSaid : Prop := Claim7.holds Tryd.pinned (.plain (OpenSpec.ofChange buffersOutSpec)) buffersOutCard

/-- THE TIED CARD OF 'ferryhouselaw19.BuffersRound'. -/
def buffersRoundCard : Claim7 := { stood := { row := buffersRoundRow, standIns := [], harness := (true, "a14f2f6a210b9ea0a17886e3a1e7fdbe3ac55b935c137689edb194899b8d2cfa"), looks := true }, kinds := [], alts := [], laidByText := true, laidKinds := [.data], laidTests := true, laidLooks := .later }
def BuffersRoundCardSaid : Prop := Claim7.holds Tryd.pinned (.plain (OpenSpec.ofChange buffersRoundSpec)) buffersRoundCard

/-- THE TIED CARD OF 'ferryhouselaw19.BuffersOwn'. -/
def buffersOwnCard : Claim7 := { stood := { row := buffersOwnRow, standIns := [], harness := (true, "a14f2f6a210b9ea0a17886e3a1e7fdbe3ac55b935c137689edb194899b8d2cfa"), looks := true }, kinds := [], alts := [], laidByText := true, laidKinds := [.data], laidTests := true, laidLooks := .later }
def BuffersOwnCardSaid : Prop := Claim7.holds Tryd.pinned (.plain (OpenSpec.ofChange buffersOwnSpec)) buffersOwnCard

/-- THE TIED CARD OF 'ferryhouselaw19.BuffersVoid'. -/
def buffersVoidCard : Claim7 := { stood := { row := buffersVoidRow, standIns := [], harness := (true, "a14f2f6a210b9ea0a17886e3a1e7fdbe3ac55b935c137689edb194899b8d2cfa"), looks := true }, kinds := [], alts := [], laidByText := true, laidKinds := [.data], laidTests := true, laidLooks := .later }
def BuffersVoidCardSaid : Prop := Claim7.holds Tryd.pinned (.plain (OpenSpec.ofChange buffersVoidSpec)) buffersVoidCard

/-- THE SECOND FORM's CARD OF 'ferryhouselaw19.BuffersOut'. -/
def buffersOutUptoCard : Claim7 := { stood := { row := buffersOutUptoRow, standIns := [], harness := (true, "a14f2f6a210b9ea0a17886e3a1e7fdbe3ac55b935c137689edb194899b8d2cfa"), looks := true }, kinds := [], alts := [], laidByText := true, laidKinds := [.data], laidTests := true, laidLooks := .later }
def BuffersOutUptoCardSaid : Prop := Claim7.holds Tryd.pinned (.plain (OpenSpec.upto buffersOutSpec)) buffersOutUptoCard

/-- THE SECOND FORM's CARD OF 'ferryhouselaw19.BuffersRound'. -/
def buffersRoundUptoCard : Claim7 := { stood := { row := buffersRoundUptoRow, standIns := [], harness := (true, "a14f2f6a210b9ea0a17886e3a1e7fdbe3ac55b935c137689edb194899b8d2cfa"), looks := true }, kinds := [], alts := [], laidByText := true, laidKinds := [.data], laidTests := true, laidLooks := .later }
def BuffersRoundUptoCardSaid : Prop := Claim7.holds Tryd.pinned (.plain (OpenSpec.upto buffersRoundSpec)) buffersRoundUptoCard

/-- THE SECOND FORM's CARD OF 'ferryhouselaw19.BuffersOwn'. -/
def buffersOwnUptoCard : Claim7 := { stood := { row := buffersOwnUptoRow, standIns := [], harness := (true, "a14f2f6a210b9ea0a17886e3a1e7fdbe3ac55b935c137689edb194899b8d2cfa"), looks := true }, kinds := [], alts := [], laidByText := true, laidKinds := [.data], laidTests := true, laidLooks := .later }
def BuffersOwnUptoCardSaid : Prop := Claim7.holds Tryd.pinned (.plain (OpenSpec.upto buffersOwnSpec)) buffersOwnUptoCard

/-- THE SECOND FORM's CARD OF 'ferryhouselaw19.BuffersVoid'. -/
def buffersVoidUptoCard : Claim7 := { stood := { row := buffersVoidUptoRow, standIns := [], harness := (true, "a14f2f6a210b9ea0a17886e3a1e7fdbe3ac55b935c137689edb194899b8d2cfa"), looks := true }, kinds := [], alts := [], laidByText := true, laidKinds := [.data], laidTests := true, laidLooks := .later }
def BuffersVoidUptoCardSaid : Prop := Claim7.holds Tryd.pinned (.plain (OpenSpec.upto buffersVoidSpec)) buffersVoidUptoCard
end Rows
end Go.Proofs.YtdeghpmlhcaedaaDoor
