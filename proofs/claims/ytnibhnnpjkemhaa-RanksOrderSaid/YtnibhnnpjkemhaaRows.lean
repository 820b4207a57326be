/-
  No cell of these rows narrows 'for every input' (looked for: loops, veiled, ifaces, maps, wideKeys, modest, calm, conditions, laid).
  DERIVED. THE GIVEN ROWS OF THIS SEAT. 6 by the template 'for every input the law returns true; each argument reads behind the call as it read before'; 0 by the template 'total and deterministic' (their statements: YtnibhnnpjkemhaaTotals.lean).
  GIVEN WITH THE SEED: the statements are not yours to turn. If you find one false, say at which input.
  Laid BY PROGRAM, IN A SANDBOX (cutbox-rows.mjs): the forced cells as the released guide's own fill.sh prints them over the translation 06f27eef8e18c67d… (all of the seat's roots in one cut). By AI agents, Wed Nov 11 2026. No macro, syntax, notation, axiom, sorry.
-/
import Derived.Test.YtnibhnnpjkemhaaChecked
import GoSem.Claim
import GoSem.ClaimJoined
import GoSem.ClaimMapViews
import Derived.JoinedTies
import Derived.KernelRfl
namespace Go.Proofs.Ytnibhnnpjkemhaa
/- THE CELL 'sum', in the pinned program and in every row, IS THE sha256 OF THE DUMP (.gsa) THAT YtnibhnnpjkemhaaProg.lean LOADS. Nothing in Lean hashes anything: it is a label: what it is worth is what the hold of that sum in a sandbox is worth. -/
noncomputable def Try.pinned : Pinned := { name := "ytnibhnnpjkemhaa", sum := "06f27eef8e18c67d63f0d3a1144a6838bdd9fec8cfc9f39dcc0e2e45675e9a8e", checked := Try.checked }
namespace Rows
def none {H : Type} : Left H := { results := [], args := [] }

/-- 'ferryhouselaw18.RanksPlay': WHATEVER THE INPUT: true; the input reads as it did. -/
def ranksPlaySpec : ChangeSpec := { name := "ranksPlay", fn := fun _ => fun
  | [d] => { results := [.lit (.bool true)], args := [d] }
  | _ => none }
def ranksPlayRow : OpenClaim := { program := "ytnibhnnpjkemhaa", sum := "06f27eef8e18c67d63f0d3a1144a6838bdd9fec8cfc9f39dcc0e2e45675e9a8e", func := "ferryhouse/ferryhouselaw18.RanksPlay", spec := "ranksPlay", unfollowed := true, recurses := true, apart := false }
def RanksPlaySaid : Prop := ranksPlayRow.holds Try.pinned (OpenSpec.ofChange ranksPlaySpec)

/-- ITS FALSE NEIGHBOUR: 'it returns false'. Refute it at one input. -/
def ranksPlayWrong : ChangeSpec := { name := "ranksPlay", fn := fun _ => fun
  | [d] => { results := [.lit (.bool false)], args := [d] }
  | _ => none }
def RanksPlayWrongFalsely : Prop := ranksPlayRow.holds Try.pinned (OpenSpec.ofChange ranksPlayWrong)

/-- 'ferryhouselaw18.RanksAhead': WHATEVER THE INPUT: true; the input reads as it did. -/
def ranksAheadSpec : ChangeSpec := { name := "ranksAhead", fn := fun _ => fun
  | [d1, d2] => { results := [.lit (.bool true)], args := [d1, d2] }
  | _ => none }
def ranksAheadRow : OpenClaim := { program := "ytnibhnnpjkemhaa", sum := "06f27eef8e18c67d63f0d3a1144a6838bdd9fec8cfc9f39dcc0e2e45675e9a8e", func := "ferryhouse/ferryhouselaw18.RanksAhead", spec := "ranksAhead", unfollowed := true, recurses := true, apart := false }
def RanksAheadSaid : Prop := ranksAheadRow.holds Try.pinned (OpenSpec.ofChange ranksAheadSpec)

/-- ITS FALSE NEIGHBOUR: 'it returns false'. Refute it at one input. -/
def ranksAheadWrong : ChangeSpec := { name := "ranksAhead", fn := fun _ => fun
  | [d1, d2] => { results := [.lit (.bool false)], args := [d1, d2] }
  | _ => none }
def RanksAheadWrongFalsely : Prop := ranksAheadRow.holds Try.pinned (OpenSpec.ofChange ranksAheadWrong)

/-- 'ferryhouselaw18.RanksVoid': WHATEVER THE INPUT: true; the input reads as it did. -/
def ranksVoidSpec : ChangeSpec := { name := "ranksVoid", fn := fun _ => fun
  | [d1, d2] => { results := [.lit (.bool true)], args := [d1, d2] }
  | _ => none }
def ranksVoidRow : OpenClaim := { program := "ytnibhnnpjkemhaa", sum := "06f27eef8e18c67d63f0d3a1144a6838bdd9fec8cfc9f39dcc0e2e45675e9a8e", func := "ferryhouse/ferryhouselaw18.RanksVoid", spec := "ranksVoid", unfollowed := true, recurses := true, apart := false }
def RanksVoidSaid : Prop := ranksVoidRow.holds Try.pinned (OpenSpec.ofChange ranksVoidSpec)

/-- ITS FALSE NEIGHBOUR: 'it returns false'. Refute it at one input. -/
def ranksVoidWrong : ChangeSpec := { name := "ranksVoid", fn := fun _ => fun
  | [d1, d2] => { results := [.lit (.bool false)], args := [d1, d2] }
  | _ => none }
def RanksVoidWrongFalsely : Prop := ranksVoidRow.holds Try.pinned (OpenSpec.ofChange ranksVoidWrong)

/-- 'ferryhouselaw18.RanksEnds': WHATEVER THE INPUT: true; the input reads as it did. -/
def ranksEndsSpec : ChangeSpec := { name := "ranksEnds", fn := fun _ => fun
  | [d1, d2] => { results := [.lit (.bool true)], args := [d1, d2] }
  | _ => none }
def ranksEndsRow : OpenClaim := { program := "ytnibhnnpjkemhaa", sum := "06f27eef8e18c67d63f0d3a1144a6838bdd9fec8cfc9f39dcc0e2e45675e9a8e", func := "ferryhouse/ferryhouselaw18.RanksEnds", spec := "ranksEnds", unfollowed := true, recurses := true, apart := false }
def RanksEndsSaid : Prop := ranksEndsRow.holds Try.pinned (OpenSpec.ofChange ranksEndsSpec)

/-- ITS FALSE NEIGHBOUR: 'it returns false'. Refute it at one input. -/
def ranksEndsWrong : ChangeSpec := { name := "ranksEnds", fn := fun _ => fun
  | [d1, d2] => { results := [.lit (.bool false)], args := [d1, d2] }
  | _ => none }
def RanksEndsWrongFalsely : Prop := ranksEndsRow.holds Try.pinned (OpenSpec.ofChange ranksEndsWrong)

/-- 'ferryhouselaw18.RanksOrder': WHATEVER THE INPUT: true; the input reads as it did. -/
def ranksOrderSpec : ChangeSpec := { name := "ranksOrder", fn := fun _ => fun
  | [d1, d2, d3] => { results := [.lit (.bool true)], args := [d1, d2, d3] }
  | _ => none }
def ranksOrderRow : OpenClaim := { program := "ytnibhnnpjkemhaa", sum := "06f27eef8e18c67d63f0d3a1144a6838bdd9fec8cfc9f39dcc0e2e45675e9a8e", func := "ferryhouse/ferryhouselaw18.RanksOrder", spec := "ranksOrder", unfollowed := true, recurses := true, apart := false }
def RanksOrderSaid : Prop := ranksOrderRow.holds Try.pinned (OpenSpec.ofChange ranksOrderSpec)

/-- ITS FALSE NEIGHBOUR: 'it returns false'. Refute it at one input. -/
def ranksOrderWrong : ChangeSpec := { name := "ranksOrder", fn := fun _ => fun
  | [d1, d2, d3] => { results := [.lit (.bool false)], args := [d1, d2, d3] }
  | _ => none }
def RanksOrderWrongFalsely : Prop := ranksOrderRow.holds Try.pinned (OpenSpec.ofChange ranksOrderWrong)

/-- 'ferryhouselaw18.RanksOne': WHATEVER THE INPUT: true; the input reads as it did. -/
def ranksOneSpec : ChangeSpec := { name := "ranksOne", fn := fun _ => fun
  | [d1, d2, d3] => { results := [.lit (.bool true)], args := [d1, d2, d3] }
  | _ => none }
def ranksOneRow : OpenClaim := { program := "ytnibhnnpjkemhaa", sum := "06f27eef8e18c67d63f0d3a1144a6838bdd9fec8cfc9f39dcc0e2e45675e9a8e", func := "ferryhouse/ferryhouselaw18.RanksOne", spec := "ranksOne", unfollowed := true, recurses := true, apart := false }
def RanksOneSaid : Prop := ranksOneRow.holds Try.pinned (OpenSpec.ofChange ranksOneSpec)

/-- ITS FALSE NEIGHBOUR: 'it returns false'. Refute it at one input. -/
def ranksOneWrong : ChangeSpec := { name := "ranksOne", fn := fun _ => fun
  | [d1, d2, d3] => { results := [.lit (.bool false)], args := [d1, d2, d3] }
  | _ => none }
def RanksOneWrongFalsely : Prop := ranksOneRow.holds Try.pinned (OpenSpec.ofChange ranksOneWrong)

/- THE SECOND FORM. 'bulk': how many values and letters a reading holds, each counted each time it is reached (what is shared counts as often as it is met; a slice's spare places count too). A statement '..UptoSaid' is the law's where the arguments, and the package variables that the reading takes, are together of bulk at most 1048576: NARROWER than '..Said'. Prove '..Said' where nothing that the law and all that it calls make is longer than what came in: it says more and counts as full. Else prove '..UptoSaid'. A law counts once. -/
mutual
def uptoBulk {H : Type} : DataW H → Nat
  | .lit (.string bytes) => bytes.length + 1
  | .lit _ => 1
  | .nil => 1
  | .ptr d => uptoBulk d + 1
  | .slice elems spare => uptoBulkAll elems + uptoBulkAll spare + 1
  | .agg parts => uptoBulkAll parts + 1
  | .iface _ d => uptoBulk d + 1
  | .map entries => uptoBulkEntries entries + 1
  | .held _ => 1
def uptoBulkAll {H : Type} : List (DataW H) → Nat
  | [] => 0
  | d :: r => uptoBulk d + uptoBulkAll r
def uptoBulkEntries {H : Type} : List (Lit × DataW H) → Nat
  | [] => 0
  | x :: r => uptoBulkEntry x + uptoBulkEntries r
def uptoBulkEntry {H : Type} : Lit × DataW H → Nat
  | (.string bytes, d) => bytes.length + uptoBulk d + 1
  | (_, d) => uptoBulk d + 1
 end
def uptoSmall : (H : Type) → List (DataW H) → Bool := fun _ ds => decide (uptoBulkAll ds ≤ 1048576)
def OpenSpec.upto (s : _root_.Go.ChangeSpec) : _root_.Go.OpenSpec := { _root_.Go.OpenSpec.ofChange s with cond := some uptoSmall }

/-- 'ferryhouselaw18.RanksPlay', WHERE WHAT IT READS IS OF BULK AT MOST 1048576: true; the input reads as it did. -/
def ranksPlayUptoRow : OpenClaim := { program := "ytnibhnnpjkemhaa", sum := "06f27eef8e18c67d63f0d3a1144a6838bdd9fec8cfc9f39dcc0e2e45675e9a8e", func := "ferryhouse/ferryhouselaw18.RanksPlay", spec := "ranksPlay", unfollowed := true, recurses := true, apart := false, narrowed := true }
def RanksPlayUptoSaid : Prop := ranksPlayUptoRow.holds Try.pinned (OpenSpec.upto ranksPlaySpec)

/-- 'ferryhouselaw18.RanksAhead', WHERE WHAT IT READS IS OF BULK AT MOST 1048576: true; the input reads as it did. -/
def ranksAheadUptoRow : OpenClaim := { program := "ytnibhnnpjkemhaa", sum := "06f27eef8e18c67d63f0d3a1144a6838bdd9fec8cfc9f39dcc0e2e45675e9a8e", func := "ferryhouse/ferryhouselaw18.RanksAhead", spec := "ranksAhead", unfollowed := true, recurses := true, apart := false, narrowed := true }
def RanksAheadUptoSaid : Prop := ranksAheadUptoRow.holds Try.pinned (OpenSpec.upto ranksAheadSpec)

/-- 'ferryhouselaw18.RanksVoid', WHERE WHAT IT READS IS OF BULK AT MOST 1048576: true; the input reads as it did. -/
def ranksVoidUptoRow : OpenClaim := { program := "ytnibhnnpjkemhaa", sum := "06f27eef8e18c67d63f0d3a1144a6838bdd9fec8cfc9f39dcc0e2e45675e9a8e", func := "ferryhouse/ferryhouselaw18.RanksVoid", spec := "ranksVoid", unfollowed := true, recurses := true, apart := false, narrowed := true }
def RanksVoidUptoSaid : Prop := ranksVoidUptoRow.holds Try.pinned (OpenSpec.upto ranksVoidSpec)

/-- 'ferryhouselaw18.RanksEnds', WHERE WHAT IT READS IS OF BULK AT MOST 1048576: true; the input reads as it did. -/
def ranksEndsUptoRow : OpenClaim := { program := "ytnibhnnpjkemhaa", sum := "06f27eef8e18c67d63f0d3a1144a6838bdd9fec8cfc9f39dcc0e2e45675e9a8e", func := "ferryhouse/ferryhouselaw18.RanksEnds", spec := "ranksEnds", unfollowed := true, recurses := true, apart := false, narrowed := true }
def RanksEndsUptoSaid : Prop := ranksEndsUptoRow.holds Try.pinned (OpenSpec.upto ranksEndsSpec)

/-- 'ferryhouselaw18.RanksOrder', WHERE WHAT IT READS IS OF BULK AT MOST 1048576: true; the input reads as it did. -/
def ranksOrderUptoRow : OpenClaim := { program := "ytnibhnnpjkemhaa", sum := "06f27eef8e18c67d63f0d3a1144a6838bdd9fec8cfc9f39dcc0e2e45675e9a8e", func := "ferryhouse/ferryhouselaw18.RanksOrder", spec := "ranksOrder", unfollowed := true, recurses := true, apart := false, narrowed := true }
def RanksOrderUptoSaid : Prop := ranksOrderUptoRow.holds Try.pinned (OpenSpec.upto ranksOrderSpec)

/-- 'ferryhouselaw18.RanksOne', WHERE WHAT IT READS IS OF BULK AT MOST 1048576: true; the input reads as it did. -/
def ranksOneUptoRow : OpenClaim := { program := "ytnibhnnpjkemhaa", sum := "06f27eef8e18c67d63f0d3a1144a6838bdd9fec8cfc9f39dcc0e2e45675e9a8e", func := "ferryhouse/ferryhouselaw18.RanksOne", spec := "ranksOne", unfollowed := true, recurses := true, apart := false, narrowed := true }
def RanksOneUptoSaid : Prop := ranksOneUptoRow.holds Try.pinned (OpenSpec.upto ranksOneSpec)

end Rows
end Go.Proofs.Ytnibhnnpjkemhaa
