/-
  No cell of these rows narrows 'for every input' (looked for: loops, veiled, ifaces, maps, wideKeys, modest, calm, conditions, laid).
  DERIVED. THE GIVEN ROWS OF THIS SEAT. 5 by the template 'for every input the law returns true; each argument reads behind the call as it read before'; 0 by the template 'total and deterministic' (their statements: YtffcnnogkpdinaaTotals.lean).
  GIVEN WITH THE SEED: the statements are not yours to turn. If you find one false, say at which input.
  Laid BY PROGRAM, IN A SANDBOX (cutbox-rows.mjs): the forced cells as the released guide's own fill.sh prints them over the translation 796a185414ac2ce0… (all of the seat's roots in one cut). By AI agents, Wed Nov 11 2026. No macro, syntax, notation, axiom, sorry.
-/
import Derived.Test.YtffcnnogkpdinaaChecked
import GoSem.Claim
import GoSem.ClaimJoined
import GoSem.ClaimMapViews
import Derived.JoinedTies
import Derived.KernelRfl
namespace Go.Proofs.Ytffcnnogkpdinaa
/- THE CELL 'sum', in the pinned program and in every row, IS THE sha256 OF THE DUMP (.gsa) THAT YtffcnnogkpdinaaProg.lean LOADS. Nothing in Lean hashes anything: it is a label: what it is worth is what the hold of that sum in a sandbox is worth. -/
noncomputable def Try.pinned : Pinned := { name := "ytffcnnogkpdinaa", sum := "796a185414ac2ce0be25638379f7a8019ba0d96dab1e7c04df601274a407d0a9", checked := Try.checked }
namespace Rows
def none {H : Type} : Left H := { results := [], args := [] }

/-- 'ferryhouselaw22.GraphsChain': WHATEVER THE INPUT: true; the input reads as it did. -/
def graphsChainSpec : ChangeSpec := { name := "graphsChain", fn := fun _ => fun
  | [d1, d2] => { results := [.lit (.bool true)], args := [d1, d2] }
  | _ => none }
def graphsChainRow : OpenClaim := { program := "ytffcnnogkpdinaa", sum := "796a185414ac2ce0be25638379f7a8019ba0d96dab1e7c04df601274a407d0a9", func := "ferryhouse/ferryhouselaw22.GraphsChain", spec := "graphsChain", unfollowed := true, recurses := true, plainKeys := false, apart := false }
def GraphsChainSaid : Prop := graphsChainRow.holds Try.pinned (OpenSpec.ofChange graphsChainSpec)

/-- ITS FALSE NEIGHBOUR: 'it returns false'. Refute it at one input. -/
def graphsChainWrong : ChangeSpec := { name := "graphsChain", fn := fun _ => fun
  | [d1, d2] => { results := [.lit (.bool false)], args := [d1, d2] }
  | _ => none }
def GraphsChainWrongFalsely : Prop := graphsChainRow.holds Try.pinned (OpenSpec.ofChange graphsChainWrong)

/-- 'ferryhouselaw22.GraphsPlay': WHATEVER THE INPUT: true; the input reads as it did. -/
def graphsPlaySpec : ChangeSpec := { name := "graphsPlay", fn := fun _ => fun
  | [d] => { results := [.lit (.bool true)], args := [d] }
  | _ => none }
def graphsPlayRow : OpenClaim := { program := "ytffcnnogkpdinaa", sum := "796a185414ac2ce0be25638379f7a8019ba0d96dab1e7c04df601274a407d0a9", func := "ferryhouse/ferryhouselaw22.GraphsPlay", spec := "graphsPlay", unfollowed := true, recurses := true, plainKeys := false, apart := false }
def GraphsPlaySaid : Prop := graphsPlayRow.holds Try.pinned (OpenSpec.ofChange graphsPlaySpec)

/-- ITS FALSE NEIGHBOUR: 'it returns false'. Refute it at one input. -/
def graphsPlayWrong : ChangeSpec := { name := "graphsPlay", fn := fun _ => fun
  | [d] => { results := [.lit (.bool false)], args := [d] }
  | _ => none }
def GraphsPlayWrongFalsely : Prop := graphsPlayRow.holds Try.pinned (OpenSpec.ofChange graphsPlayWrong)

/-- 'ferryhouselaw22.GraphsVoid': WHATEVER THE INPUT: true; the input reads as it did. -/
def graphsVoidSpec : ChangeSpec := { name := "graphsVoid", fn := fun _ => fun
  | [d] => { results := [.lit (.bool true)], args := [d] }
  | _ => none }
def graphsVoidRow : OpenClaim := { program := "ytffcnnogkpdinaa", sum := "796a185414ac2ce0be25638379f7a8019ba0d96dab1e7c04df601274a407d0a9", func := "ferryhouse/ferryhouselaw22.GraphsVoid", spec := "graphsVoid", unfollowed := true, recurses := true, plainKeys := false, apart := false }
def GraphsVoidSaid : Prop := graphsVoidRow.holds Try.pinned (OpenSpec.ofChange graphsVoidSpec)

/-- ITS FALSE NEIGHBOUR: 'it returns false'. Refute it at one input. -/
def graphsVoidWrong : ChangeSpec := { name := "graphsVoid", fn := fun _ => fun
  | [d] => { results := [.lit (.bool false)], args := [d] }
  | _ => none }
def GraphsVoidWrongFalsely : Prop := graphsVoidRow.holds Try.pinned (OpenSpec.ofChange graphsVoidWrong)

/-- 'ferryhouselaw22.GraphsOrder': WHATEVER THE INPUT: true; the input reads as it did. -/
def graphsOrderSpec : ChangeSpec := { name := "graphsOrder", fn := fun _ => fun
  | [d1, d2] => { results := [.lit (.bool true)], args := [d1, d2] }
  | _ => none }
def graphsOrderRow : OpenClaim := { program := "ytffcnnogkpdinaa", sum := "796a185414ac2ce0be25638379f7a8019ba0d96dab1e7c04df601274a407d0a9", func := "ferryhouse/ferryhouselaw22.GraphsOrder", spec := "graphsOrder", unfollowed := true, recurses := true, plainKeys := false, apart := false }
def GraphsOrderSaid : Prop := graphsOrderRow.holds Try.pinned (OpenSpec.ofChange graphsOrderSpec)

/-- ITS FALSE NEIGHBOUR: 'it returns false'. Refute it at one input. -/
def graphsOrderWrong : ChangeSpec := { name := "graphsOrder", fn := fun _ => fun
  | [d1, d2] => { results := [.lit (.bool false)], args := [d1, d2] }
  | _ => none }
def GraphsOrderWrongFalsely : Prop := graphsOrderRow.holds Try.pinned (OpenSpec.ofChange graphsOrderWrong)

/-- 'ferryhouselaw22.GraphsBehind': WHATEVER THE INPUT: true; the input reads as it did. -/
def graphsBehindSpec : ChangeSpec := { name := "graphsBehind", fn := fun _ => fun
  | [d1, d2] => { results := [.lit (.bool true)], args := [d1, d2] }
  | _ => none }
def graphsBehindRow : OpenClaim := { program := "ytffcnnogkpdinaa", sum := "796a185414ac2ce0be25638379f7a8019ba0d96dab1e7c04df601274a407d0a9", func := "ferryhouse/ferryhouselaw22.GraphsBehind", spec := "graphsBehind", unfollowed := true, recurses := true, plainKeys := false, apart := false }
def GraphsBehindSaid : Prop := graphsBehindRow.holds Try.pinned (OpenSpec.ofChange graphsBehindSpec)

/-- ITS FALSE NEIGHBOUR: 'it returns false'. Refute it at one input. -/
def graphsBehindWrong : ChangeSpec := { name := "graphsBehind", fn := fun _ => fun
  | [d1, d2] => { results := [.lit (.bool false)], args := [d1, d2] }
  | _ => none }
def GraphsBehindWrongFalsely : Prop := graphsBehindRow.holds Try.pinned (OpenSpec.ofChange graphsBehindWrong)

/- THE SECOND FORM. 'bulk': how many values and letters a reading holds, each counted each time it is reached (what is shared counts as often as it is met; a slice's spare places count too). A statement '..UptoSaid' is the law's where the arguments, and the package variables that the reading takes, are together of bulk at most 1048576: NARROWER than '..Said'. Prove '..Said' where nothing that the law and all that it calls make is longer than what came in: it says more and counts as full. Else prove '..UptoSaid'. A law counts once. -/
mutual
def uptoBulk {H : Type} : DataW H → Nat
  | .lit (.string bytes) => bytes.length + 1
  | .lit _ => 1
  | .nil => 1
  | .ptr d => uptoBulk d + 1
  | .slice elems spare => uptoBulkAll elems + uptoBulkAll spare + 1
  | .agg parts => uptoBulkAll parts + 1
  | .iface _ d => uptoBulk d + 1
  | .map entries => uptoBulkEntries entries + 1
  | .held _ => 1
def uptoBulkAll {H : Type} : List (DataW H) → Nat
  | [] => 0
  | d :: r => uptoBulk d + uptoBulkAll r
def uptoBulkEntries {H : Type} : List (Lit × DataW H) → Nat
  | [] => 0
  | x :: r => uptoBulkEntry x + uptoBulkEntries r
def uptoBulkEntry {H : Type} : Lit × DataW H → Nat
  | (.string bytes, d) => bytes.length + uptoBulk d + 1
  | (_, d) => uptoBulk d + 1
 end
def uptoSmall : (H : Type) → List (DataW H) → Bool := fun _ ds => decide (uptoBulkAll ds ≤ 1048576)
def OpenSpec.upto (s : _root_.Go.ChangeSpec) : _root_.Go.OpenSpec := { _root_.Go.OpenSpec.ofChange s with cond := some uptoSmall }

/-- 'ferryhouselaw22.GraphsChain', WHERE WHAT IT READS IS OF BULK AT MOST 1048576: true; the input reads as it did. -/
def graphsChainUptoRow : OpenClaim := { program := "ytffcnnogkpdinaa", sum := "796a185414ac2ce0be25638379f7a8019ba0d96dab1e7c04df601274a407d0a9", func := "ferryhouse/ferryhouselaw22.GraphsChain", spec := "graphsChain", unfollowed := true, recurses := true, plainKeys := false, apart := false, narrowed := true }
def GraphsChainUptoSaid : Prop := graphsChainUptoRow.holds Try.pinned (OpenSpec.upto graphsChainSpec)

/-- 'ferryhouselaw22.GraphsPlay', WHERE WHAT IT READS IS OF BULK AT MOST 1048576: true; the input reads as it did. -/
def graphsPlayUptoRow : OpenClaim := { program := "ytffcnnogkpdinaa", sum := "796a185414ac2ce0be25638379f7a8019ba0d96dab1e7c04df601274a407d0a9", func := "ferryhouse/ferryhouselaw22.GraphsPlay", spec := "graphsPlay", unfollowed := true, recurses := true, plainKeys := false, apart := false, narrowed := true }
def GraphsPlayUptoSaid : Prop := graphsPlayUptoRow.holds Try.pinned (OpenSpec.upto graphsPlaySpec)

/-- 'ferryhouselaw22.GraphsVoid', WHERE WHAT IT READS IS OF BULK AT MOST 1048576: true; the input reads as it did. -/
def graphsVoidUptoRow : OpenClaim := { program := "ytffcnnogkpdinaa", sum := "796a185414ac2ce0be25638379f7a8019ba0d96dab1e7c04df601274a407d0a9", func := "ferryhouse/ferryhouselaw22.GraphsVoid", spec := "graphsVoid", unfollowed := true, recurses := true, plainKeys := false, apart := false, narrowed := true }
def GraphsVoidUptoSaid : Prop := graphsVoidUptoRow.holds Try.pinned (OpenSpec.upto graphsVoidSpec)

/-- 'ferryhouselaw22.GraphsOrder', WHERE WHAT IT READS IS OF BULK AT MOST 1048576: true; the input reads as it did. -/
def graphsOrderUptoRow : OpenClaim := { program := "ytffcnnogkpdinaa", sum := "796a185414ac2ce0be25638379f7a8019ba0d96dab1e7c04df601274a407d0a9", func := "ferryhouse/ferryhouselaw22.GraphsOrder", spec := "graphsOrder", unfollowed := true, recurses := true, plainKeys := false, apart := false, narrowed := true }
def GraphsOrderUptoSaid : Prop := graphsOrderUptoRow.holds Try.pinned (OpenSpec.upto graphsOrderSpec)

/-- 'ferryhouselaw22.GraphsBehind', WHERE WHAT IT READS IS OF BULK AT MOST 1048576: true; the input reads as it did. -/
def graphsBehindUptoRow : OpenClaim := { program := "ytffcnnogkpdinaa", sum := "796a185414ac2ce0be25638379f7a8019ba0d96dab1e7c04df601274a407d0a9", func := "ferryhouse/ferryhouselaw22.GraphsBehind", spec := "graphsBehind", unfollowed := true, recurses := true, plainKeys := false, apart := false, narrowed := true }
def GraphsBehindUptoSaid : Prop := graphsBehindUptoRow.holds Try.pinned (OpenSpec.upto graphsBehindSpec)

end Rows
end Go.Proofs.Ytffcnnogkpdinaa
