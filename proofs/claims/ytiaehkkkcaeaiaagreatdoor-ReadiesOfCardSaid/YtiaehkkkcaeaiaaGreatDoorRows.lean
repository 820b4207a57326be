/-
  NARROWER THAN 'FOR EVERY INPUT', by the rows' own cells (each row's printed sentence says how): ReadiesNone: laid · ReadiesOf: laid · ReadiesParts: laid · ReadiesTables: laid · ReadiesKinds: laid.
  DERIVED. THE GIVEN ROWS OF THIS SEAT. 5 by the template 'for every input the law returns true; each argument reads behind the call as it read before'; 0 by the template 'total and deterministic' (their statements: YtiaehkkkcaeaiaaGreatDoorTotals.lean).
  GIVEN WITH THE SEED: the statements are not yours to turn. If you find one false, say at which input.
  Laid BY PROGRAM, IN A SANDBOX (cutbox-rows.mjs): the forced cells as the released guide's own fill.sh prints them over the translation cbba8f1922974ce0… (all of the seat's roots in one cut). By AI agents, Wed Nov 11 2026. No macro, syntax, notation, axiom, sorry.
-/
import Derived.Test.YtiaehkkkcaeaiaaGreatDoorChecked
import GoSem.Claim
import GoSem.ClaimJoined
import GoSem.ClaimMapViews
import Derived.JoinedTies
import Derived.KernelRfl
namespace Go.Proofs.YtiaehkkkcaeaiaaGreatDoor
/- THE CELL 'sum', in the pinned program and in every row, IS THE sha256 OF THE DUMP (.gsa) THAT YtiaehkkkcaeaiaaGreatDoorProg.lean LOADS. Nothing in Lean hashes anything: it is a label: what it is worth is what the hold of that sum in a sandbox is worth. -/
noncomputable def Tryz.pinned : Pinned := { name := "ytiaehkkkcaeaiaagreatdoor", sum := "cbba8f1922974ce09624175f5b0062c35e86681c9f13c33bb6b1cceb22144cd8", checked := Tryz.checked }
namespace Rows
def none {H : Type} : Left H := { results := [], args := [] }

/- WHAT THE LISTED PACKAGE-LEVEL VARIABLES READ AS WHEN THE CALL BEGINS. Each datum BY PROGRAM (the guide's laid-datum.mjs) off the statement by which the dump's own 'gosem.cut.vars' lays the variable. In a bare row this is a premise. The card (YtiaehkkkcaeaiaaGreatDoorCards.lean) ties it to the program's text. -/
def laid_ferryhouse_budgets_long {H : Type} : DataW H := .agg [.lit (.int .i64 4), .lit (.int .i64 8)]
def laid_ferryhouse_budgets_tags {H : Type} : DataW H := .agg [.lit (.int .u8 2), .lit (.int .u8 3)]

/-- 'ferryhouselaw11.ReadiesNone': WHATEVER THE INPUT: true; the input reads as it did. -/
def readiesNoneSpec : ChangeSpec := { name := "readiesNone", fn := fun _ => fun
  | [d] => { results := [.lit (.bool true)], args := [d] }
  | _ => none }
def readiesNoneRow : OpenClaim := { program := "ytiaehkkkcaeaiaagreatdoor", sum := "cbba8f1922974ce09624175f5b0062c35e86681c9f13c33bb6b1cceb22144cd8", func := "ferryhouse/ferryhouselaw11.ReadiesNone", spec := "readiesNone", inPlace := ["internal/reflectlite.TypeOf", "math/bits.Add64"], unfollowed := true, recurses := true, named := ["ferryhouse/budgets.long", "ferryhouse/budgets.tags", "math/bits.divideError", "math/bits.overflowError"], plainKeys := false, apart := false, laid := [("ferryhouse/budgets.long", laid_ferryhouse_budgets_long), ("ferryhouse/budgets.tags", laid_ferryhouse_budgets_tags)] }
def ReadiesNoneSaid : Prop := readiesNoneRow.holds Tryz.pinned (OpenSpec.ofChange readiesNoneSpec)

/-- ITS FALSE NEIGHBOUR: 'it returns false'. Refute it at one input. -/
def readiesNoneWrong : ChangeSpec := { name := "readiesNone", fn := fun _ => fun
  | [d] => { results := [.lit (.bool false)], args := [d] }
  | _ => none }
def ReadiesNoneWrongFalsely : Prop := readiesNoneRow.holds Tryz.pinned (OpenSpec.ofChange readiesNoneWrong)

/-- 'ferryhouselaw11.ReadiesOf': WHATEVER THE INPUT: true; the input reads as it did. -/
def readiesOfSpec : ChangeSpec := { name := "readiesOf", fn := fun _ => fun
  | [d1, d2] => { results := [.lit (.bool true)], args := [d1, d2] }
  | _ => none }
def readiesOfRow : OpenClaim := { program := "ytiaehkkkcaeaiaagreatdoor", sum := "cbba8f1922974ce09624175f5b0062c35e86681c9f13c33bb6b1cceb22144cd8", func := "ferryhouse/ferryhouselaw11.ReadiesOf", spec := "readiesOf", inPlace := ["internal/reflectlite.TypeOf", "math/bits.Add64"], unfollowed := true, recurses := true, named := ["ferryhouse/budgets.long", "ferryhouse/budgets.tags", "math/bits.divideError", "math/bits.overflowError"], plainKeys := false, apart := false, laid := [("ferryhouse/budgets.long", laid_ferryhouse_budgets_long), ("ferryhouse/budgets.tags", laid_ferryhouse_budgets_tags)] }
def ReadiesOfSaid : Prop := readiesOfRow.holds Tryz.pinned (OpenSpec.ofChange readiesOfSpec)

/-- ITS FALSE NEIGHBOUR: 'it returns false'. Refute it at one input. -/
def readiesOfWrong : ChangeSpec := { name := "readiesOf", fn := fun _ => fun
  | [d1, d2] => { results := [.lit (.bool false)], args := [d1, d2] }
  | _ => none }
def ReadiesOfWrongFalsely : Prop := readiesOfRow.holds Tryz.pinned (OpenSpec.ofChange readiesOfWrong)

/-- 'ferryhouselaw11.ReadiesParts': WHATEVER THE INPUT: true; the input reads as it did. -/
def readiesPartsSpec : ChangeSpec := { name := "readiesParts", fn := fun _ => fun
  | [d1, d2] => { results := [.lit (.bool true)], args := [d1, d2] }
  | _ => none }
def readiesPartsRow : OpenClaim := { program := "ytiaehkkkcaeaiaagreatdoor", sum := "cbba8f1922974ce09624175f5b0062c35e86681c9f13c33bb6b1cceb22144cd8", func := "ferryhouse/ferryhouselaw11.ReadiesParts", spec := "readiesParts", inPlace := ["internal/reflectlite.TypeOf", "math/bits.Add64"], unfollowed := true, recurses := true, named := ["ferryhouse/budgets.long", "ferryhouse/budgets.tags", "math/bits.divideError", "math/bits.overflowError"], plainKeys := false, apart := false, laid := [("ferryhouse/budgets.long", laid_ferryhouse_budgets_long), ("ferryhouse/budgets.tags", laid_ferryhouse_budgets_tags)] }
def ReadiesPartsSaid : Prop := readiesPartsRow.holds Tryz.pinned (OpenSpec.ofChange readiesPartsSpec)

/-- ITS FALSE NEIGHBOUR: 'it returns false'. Refute it at one input. -/
def readiesPartsWrong : ChangeSpec := { name := "readiesParts", fn := fun _ => fun
  | [d1, d2] => { results := [.lit (.bool false)], args := [d1, d2] }
  | _ => none }
def ReadiesPartsWrongFalsely : Prop := readiesPartsRow.holds Tryz.pinned (OpenSpec.ofChange readiesPartsWrong)

/-- 'ferryhouselaw11.ReadiesTables': WHATEVER THE INPUT: true; the input reads as it did. -/
def readiesTablesSpec : ChangeSpec := { name := "readiesTables", fn := fun _ => fun
  | [d1, d2, d3] => { results := [.lit (.bool true)], args := [d1, d2, d3] }
  | _ => none }
def readiesTablesRow : OpenClaim := { program := "ytiaehkkkcaeaiaagreatdoor", sum := "cbba8f1922974ce09624175f5b0062c35e86681c9f13c33bb6b1cceb22144cd8", func := "ferryhouse/ferryhouselaw11.ReadiesTables", spec := "readiesTables", inPlace := ["internal/reflectlite.TypeOf", "math/bits.Add64"], unfollowed := true, recurses := true, named := ["ferryhouse/budgets.long", "ferryhouse/budgets.tags", "math/bits.divideError", "math/bits.overflowError"], plainKeys := false, apart := false, laid := [("ferryhouse/budgets.long", laid_ferryhouse_budgets_long), ("ferryhouse/budgets.tags", laid_ferryhouse_budgets_tags)] }
def ReadiesTablesSaid : Prop := readiesTablesRow.holds Tryz.pinned (OpenSpec.ofChange readiesTablesSpec)

/-- ITS FALSE NEIGHBOUR: 'it returns false'. Refute it at one input. -/
def readiesTablesWrong : ChangeSpec := { name := "readiesTables", fn := fun _ => fun
  | [d1, d2, d3] => { results := [.lit (.bool false)], args := [d1, d2, d3] }
  | _ => none }
def ReadiesTablesWrongFalsely : Prop := readiesTablesRow.holds Tryz.pinned (OpenSpec.ofChange readiesTablesWrong)

/-- 'ferryhouselaw11.ReadiesKinds': WHATEVER THE INPUT: true; the input reads as it did. -/
def readiesKindsSpec : ChangeSpec := { name := "readiesKinds", fn := fun _ => fun
  | [d1, d2] => { results := [.lit (.bool true)], args := [d1, d2] }
  | _ => none }
def readiesKindsRow : OpenClaim := { program := "ytiaehkkkcaeaiaagreatdoor", sum := "cbba8f1922974ce09624175f5b0062c35e86681c9f13c33bb6b1cceb22144cd8", func := "ferryhouse/ferryhouselaw11.ReadiesKinds", spec := "readiesKinds", inPlace := ["internal/reflectlite.TypeOf", "math/bits.Add64"], unfollowed := true, recurses := true, named := ["ferryhouse/budgets.long", "ferryhouse/budgets.tags", "math/bits.divideError", "math/bits.overflowError"], plainKeys := false, apart := false, laid := [("ferryhouse/budgets.long", laid_ferryhouse_budgets_long), ("ferryhouse/budgets.tags", laid_ferryhouse_budgets_tags)] }
def ReadiesKindsSaid : Prop := readiesKindsRow.holds Tryz.pinned (OpenSpec.ofChange readiesKindsSpec)

/-- ITS FALSE NEIGHBOUR: 'it returns false'. Refute it at one input. -/
def readiesKindsWrong : ChangeSpec := { name := "readiesKinds", fn := fun _ => fun
  | [d1, d2] => { results := [.lit (.bool false)], args := [d1, d2] }
  | _ => none }
def ReadiesKindsWrongFalsely : Prop := readiesKindsRow.holds Tryz.pinned (OpenSpec.ofChange readiesKindsWrong)

/- THE SECOND FORM. 'bulk': how many values and letters a reading holds, each counted each time it is reached (what is shared counts as often as it is met; a slice's spare places count too). A statement '..UptoSaid' is the law's where the arguments, and the package variables that the reading takes, are together of bulk at most 1048576: NARROWER than '..Said'. Prove '..Said' where nothing that the law and all that it calls make is longer than what came in: it says more and counts as full. Else prove '..UptoSaid'. A law counts once. -/
mutual
def uptoBulk {H : Type} : DataW H → Nat
  | .lit (.string bytes) => bytes.length + 1
  | .lit _ => 1
  | .nil => 1
  | .ptr d => uptoBulk d + 1
  | .slice elems spare => uptoBulkAll elems + uptoBulkAll spare + 1
  | .agg parts => uptoBulkAll parts + 1
  | .iface _ d => uptoBulk d + 1
  | .map entries => uptoBulkEntries entries + 1
  | .held _ => 1
def uptoBulkAll {H : Type} : List (DataW H) → Nat
  | [] => 0
  | d :: r => uptoBulk d + uptoBulkAll r
def uptoBulkEntries {H : Type} : List (Lit × DataW H) → Nat
  | [] => 0
  | x :: r => uptoBulkEntry x + uptoBulkEntries r
def uptoBulkEntry {H : Type} : Lit × DataW H → Nat
  | (.string bytes, d) => bytes.length + uptoBulk d + 1
  | (_, d) => uptoBulk d + 1
 end
def uptoSmall : (H : Type) → List (DataW H) → Bool := fun _ ds => decide (uptoBulkAll ds ≤ 1048576)
def OpenSpec.upto (s : _root_.Go.ChangeSpec) : _root_.Go.OpenSpec := { _root_.Go.OpenSpec.ofChange s with cond := some uptoSmall }

/-- 'ferryhouselaw11.ReadiesNone', WHERE WHAT IT READS IS OF BULK AT MOST 1048576: true; the input reads as it did. -/
def readiesNoneUptoRow : OpenClaim := { program := "ytiaehkkkcaeaiaagreatdoor", sum := "cbba8f1922974ce09624175f5b0062c35e86681c9f13c33bb6b1cceb22144cd8", func := "ferryhouse/ferryhouselaw11.ReadiesNone", spec := "readiesNone", inPlace := ["internal/reflectlite.TypeOf", "math/bits.Add64"], unfollowed := true, recurses := true, named := ["ferryhouse/budgets.long", "ferryhouse/budgets.tags", "math/bits.divideError", "math/bits.overflowError"], plainKeys := false, apart := false, laid := [("ferryhouse/budgets.long", laid_ferryhouse_budgets_long), ("ferryhouse/budgets.tags", laid_ferryhouse_budgets_tags)], narrowed := true }
def ReadiesNoneUptoSaid : Prop := readiesNoneUptoRow.holds Tryz.pinned (OpenSpec.upto readiesNoneSpec)

/-- 'ferryhouselaw11.ReadiesOf', WHERE WHAT IT READS IS OF BULK AT MOST 1048576: true; the input reads as it did. -/
def readiesOfUptoRow : OpenClaim := { program := "ytiaehkkkcaeaiaagreatdoor", sum := "cbba8f1922974ce09624175f5b0062c35e86681c9f13c33bb6b1cceb22144cd8", func := "ferryhouse/ferryhouselaw11.ReadiesOf", spec := "readiesOf", inPlace := ["internal/reflectlite.TypeOf", "math/bits.Add64"], unfollowed := true, recurses := true, named := ["ferryhouse/budgets.long", "ferryhouse/budgets.tags", "math/bits.divideError", "math/bits.overflowError"], plainKeys := false, apart := false, laid := [("ferryhouse/budgets.long", laid_ferryhouse_budgets_long), ("ferryhouse/budgets.tags", laid_ferryhouse_budgets_tags)], narrowed := true }
def ReadiesOfUptoSaid : Prop := readiesOfUptoRow.holds Tryz.pinned (OpenSpec.upto readiesOfSpec)

/-- 'ferryhouselaw11.ReadiesParts', WHERE WHAT IT READS IS OF BULK AT MOST 1048576: true; the input reads as it did. -/
def readiesPartsUptoRow : OpenClaim := { program := "ytiaehkkkcaeaiaagreatdoor", sum := "cbba8f1922974ce09624175f5b0062c35e86681c9f13c33bb6b1cceb22144cd8", func := "ferryhouse/ferryhouselaw11.ReadiesParts", spec := "readiesParts", inPlace := ["internal/reflectlite.TypeOf", "math/bits.Add64"], unfollowed := true, recurses := true, named := ["ferryhouse/budgets.long", "ferryhouse/budgets.tags", "math/bits.divideError", "math/bits.overflowError"], plainKeys := false, apart := false, laid := [("ferryhouse/budgets.long", laid_ferryhouse_budgets_long), ("ferryhouse/budgets.tags", laid_ferryhouse_budgets_tags)], narrowed := true }
def ReadiesPartsUptoSaid : Prop := readiesPartsUptoRow.holds Tryz.pinned (OpenSpec.upto readiesPartsSpec)

/-- 'ferryhouselaw11.ReadiesTables', WHERE WHAT IT READS IS OF BULK AT MOST 1048576: true; the input reads as it did. -/
def readiesTablesUptoRow : OpenClaim := { program := "ytiaehkkkcaeaiaagreatdoor", sum := "cbba8f1922974ce09624175f5b0062c35e86681c9f13c33bb6b1cceb22144cd8", func := "ferryhouse/ferryhouselaw11.ReadiesTables", spec := "readiesTables", inPlace := ["internal/reflectlite.TypeOf", "math/bits.Add64"], unfollowed := true, recurses := true, named := ["ferryhouse/budgets.long", "ferryhouse/budgets.tags", "math/bits.divideError", "math/bits.overflowError"], plainKeys := false, apart := false, laid := [("ferryhouse/budgets.long", laid_ferryhouse_budgets_long), ("ferryhouse/budgets.tags", laid_ferryhouse_budgets_tags)], narrowed := true }
def ReadiesTablesUptoSaid : Prop := readiesTablesUptoRow.holds Tryz.pinned (OpenSpec.upto readiesTablesSpec)

/-- 'ferryhouselaw11.ReadiesKinds', WHERE WHAT IT READS IS OF BULK AT MOST 1048576: true; the input reads as it did. -/
def readiesKindsUptoRow : OpenClaim := { program := "ytiaehkkkcaeaiaagreatdoor", sum := "cbba8f1922974ce09624175f5b0062c35e86681c9f13c33bb6b1cceb22144cd8", func := "ferryhouse/ferryhouselaw11.ReadiesKinds", spec := "readiesKinds", inPlace := ["internal/reflectlite.TypeOf", "math/bits.Add64"], unfollowed := true, recurses := true, named := ["ferryhouse/budgets.long", "ferryhouse/budgets.tags", "math/bits.divideError", "math/bits.overflowError"], plainKeys := false, apart := false, laid := [("ferryhouse/budgets.long", laid_ferryhouse_budgets_long), ("ferryhouse/budgets.tags", laid_ferryhouse_budgets_tags)], narrowed := true }
def ReadiesKindsUptoSaid : Prop := readiesKindsUptoRow.holds Tryz.pinned (OpenSpec.upto readiesKindsSpec)

end Rows
end Go.Proofs.YtiaehkkkcaeaiaaGreatDoor
