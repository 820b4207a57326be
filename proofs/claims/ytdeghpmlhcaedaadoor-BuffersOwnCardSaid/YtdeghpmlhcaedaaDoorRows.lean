/-
  NARROWER THAN 'FOR EVERY INPUT', by the rows' own cells (each row's printed sentence says how): BuffersOut: laid · BuffersRound: laid · BuffersOwn: laid · BuffersVoid: laid.
  DERIVED. THE GIVEN ROWS OF THIS SEAT. 4 by the template 'for every input the law returns true; each argument reads behind the call as it read before'; 0 by the template 'total and deterministic' (their statements: YtdeghpmlhcaedaaDoorTotals.lean).
  GIVEN WITH THE SEED: the statements are not yours to turn. If you find one false, say at which input.
  Laid BY PROGRAM, IN A SANDBOX (cutbox-rows.mjs): the forced cells as the released guide's own fill.sh prints them over the translation db998e2879b881e3… (all of the seat's roots in one cut). By AI agents, Wed Nov 11 2026. No macro, syntax, notation, axiom, sorry.
-/
import Derived.Test.YtdeghpmlhcaedaaDoorChecked
import GoSem.Claim
import GoSem.ClaimJoined
import GoSem.ClaimMapViews
import Derived.JoinedTies
import Derived.KernelRfl
namespace Go.Proofs.YtdeghpmlhcaedaaDoor
/- THE CELL 'sum', in the pinned program and in every row, IS THE sha256 OF THE DUMP (.gsa) THAT YtdeghpmlhcaedaaDoorProg.lean LOADS. Nothing in Lean hashes anything: it is a label: what it is worth is what the hold of that sum in a sandbox is worth. -/
noncomputable def Tryd.pinned : Pinned := { name := "ytdeghpmlhcaedaadoor", sum := "db998e2879b881e3668cfffe179f42cd62bcf551c20d176d97035784dfa950b2", checked := Tryd.checked }
namespace Rows
def none {H : Type} : Left H := { results := [], args := [] }

/- WHAT THE LISTED PACKAGE-LEVEL VARIABLES READ AS WHEN THE CALL BEGINS. Each datum BY PROGRAM (the guide's laid-datum.mjs) off the statement by which the dump's own 'gosem.cut.vars' lays the variable. In a bare row this is a premise. The card (YtdeghpmlhcaedaaDoorCards.lean) ties it to the program's text. -/
def laid_math_bits_deBruijn64tab {H : Type} : DataW H := .agg [.lit (.int .u8 0), .lit (.int .u8 1), .lit (.int .u8 56), .lit (.int .u8 2), .lit (.int .u8 57), .lit (.int .u8 49), .lit (.int .u8 28), .lit (.int .u8 3), .lit (.int .u8 61), .lit (.int .u8 58), .lit (.int .u8 42), .lit (.int .u8 50), .lit (.int .u8 38), .lit (.int .u8 29), .lit (.int .u8 17), .lit (.int .u8 4), .lit (.int .u8 62), .lit (.int .u8 47), .lit (.int .u8 59), .lit (.int .u8 36), .lit (.int .u8 45), .lit (.int .u8 43), .lit (.int .u8 51), .lit (.int .u8 22), .lit (.int .u8 53), .lit (.int .u8 39), .lit (.int .u8 33), .lit (.int .u8 30), .lit (.int .u8 24), .lit (.int .u8 18), .lit (.int .u8 12), .lit (.int .u8 5), .lit (.int .u8 63), .lit (.int .u8 55), .lit (.int .u8 48), .lit (.int .u8 27), .lit (.int .u8 60), .lit (.int .u8 41), .lit (.int .u8 37), .lit (.int .u8 16), .lit (.int .u8 46), .lit (.int .u8 35), .lit (.int .u8 44), .lit (.int .u8 21), .lit (.int .u8 52), .lit (.int .u8 32), .lit (.int .u8 23), .lit (.int .u8 11), .lit (.int .u8 54), .lit (.int .u8 26), .lit (.int .u8 40), .lit (.int .u8 15), .lit (.int .u8 34), .lit (.int .u8 20), .lit (.int .u8 31), .lit (.int .u8 10), .lit (.int .u8 25), .lit (.int .u8 14), .lit (.int .u8 19), .lit (.int .u8 9), .lit (.int .u8 13), .lit (.int .u8 8), .lit (.int .u8 7), .lit (.int .u8 6)]

/-- 'ferryhouselaw19.BuffersOut': WHATEVER THE INPUT: true; the input reads as it did. -/
def buffersOutSpec : ChangeSpec := { name := "buffersOut", fn := fun _ => fun
  | [d1, d2] => { results := [.lit (.bool true)], args := [d1, d2] }
  | _ => none }
def buffersOutRow : OpenClaim := { program := "ytdeghpmlhcaedaadoor", sum := "db998e2879b881e3668cfffe179f42cd62bcf551c20d176d97035784dfa950b2", func := "ferryhouse/ferryhouselaw19.BuffersOut", spec := "buffersOut", unfollowed := true, recurses := true, named := ["math/bits.deBruijn64tab"], apart := false, laid := [("math/bits.deBruijn64tab", laid_math_bits_deBruijn64tab)] }
def BuffersOutSaid : Prop := buffersOutRow.holds Tryd.pinned (OpenSpec.ofChange buffersOutSpec)

/-- ITS FALSE NEIGHBOUR: 'it returns false'. Refute it at one input. -/
def buffersOutWrong : ChangeSpec := { name := "buffersOut", fn := fun _ => fun
  | [d1, d2] => { results := [.lit (.bool false)], args := [d1, d2] }
  | _ => none }
def BuffersOutWrongFalsely : Prop := buffersOutRow.holds Tryd.pinned (OpenSpec.ofChange buffersOutWrong)

/-- 'ferryhouselaw19.BuffersRound': WHATEVER THE INPUT: true; the input reads as it did. -/
def buffersRoundSpec : ChangeSpec := { name := "buffersRound", fn := fun _ => fun
  | [d1, d2, d3] => { results := [.lit (.bool true)], args := [d1, d2, d3] }
  | _ => none }
def buffersRoundRow : OpenClaim := { program := "ytdeghpmlhcaedaadoor", sum := "db998e2879b881e3668cfffe179f42cd62bcf551c20d176d97035784dfa950b2", func := "ferryhouse/ferryhouselaw19.BuffersRound", spec := "buffersRound", unfollowed := true, recurses := true, named := ["math/bits.deBruijn64tab"], apart := false, laid := [("math/bits.deBruijn64tab", laid_math_bits_deBruijn64tab)] }
def BuffersRoundSaid : Prop := buffersRoundRow.holds Tryd.pinned (OpenSpec.ofChange buffersRoundSpec)

/-- ITS FALSE NEIGHBOUR: 'it returns false'. Refute it at one input. -/
def buffersRoundWrong : ChangeSpec := { name := "buffersRound", fn := fun _ => fun
  | [d1, d2, d3] => { results := [.lit (.bool false)], args := [d1, d2, d3] }
  | _ => none }
def BuffersRoundWrongFalsely : Prop := buffersRoundRow.holds Tryd.pinned (OpenSpec.ofChange buffersRoundWrong)

/-- 'ferryhouselaw19.BuffersOwn': WHATEVER THE INPUT: true; the input reads as it did. -/
def buffersOwnSpec : ChangeSpec := { name := "buffersOwn", fn := fun _ => fun
  | [d1, d2, d3] => { results := [.lit (.bool true)], args := [d1, d2, d3] }
  | _ => none }
def buffersOwnRow : OpenClaim := { program := "ytdeghpmlhcaedaadoor", sum := "db998e2879b881e3668cfffe179f42cd62bcf551c20d176d97035784dfa950b2", func := "ferryhouse/ferryhouselaw19.BuffersOwn", spec := "buffersOwn", unfollowed := true, recurses := true, named := ["math/bits.deBruijn64tab"], apart := false, laid := [("math/bits.deBruijn64tab", laid_math_bits_deBruijn64tab)] }
def BuffersOwnSaid : Prop := buffersOwnRow.holds Tryd.pinned (OpenSpec.ofChange buffersOwnSpec)

/-- ITS FALSE NEIGHBOUR: 'it returns false'. Refute it at one input. -/
def buffersOwnWrong : ChangeSpec := { name := "buffersOwn", fn := fun _ => fun
  | [d1, d2, d3] => { results := [.lit (.bool false)], args := [d1, d2, d3] }
  | _ => none }
def BuffersOwnWrongFalsely : Prop := buffersOwnRow.holds Tryd.pinned (OpenSpec.ofChange buffersOwnWrong)

/-- 'ferryhouselaw19.BuffersVoid': WHATEVER THE INPUT: true; the input reads as it did. -/
def buffersVoidSpec : ChangeSpec := { name := "buffersVoid", fn := fun _ => fun
  | [d1, d2] => { results := [.lit (.bool true)], args := [d1, d2] }
  | _ => none }
def buffersVoidRow : OpenClaim := { program := "ytdeghpmlhcaedaadoor", sum := "db998e2879b881e3668cfffe179f42cd62bcf551c20d176d97035784dfa950b2", func := "ferryhouse/ferryhouselaw19.BuffersVoid", spec := "buffersVoid", unfollowed := true, recurses := true, named := ["math/bits.deBruijn64tab"], apart := false, laid := [("math/bits.deBruijn64tab", laid_math_bits_deBruijn64tab)] }
def BuffersVoidSaid : Prop := buffersVoidRow.holds Tryd.pinned (OpenSpec.ofChange buffersVoidSpec)

/-- ITS FALSE NEIGHBOUR: 'it returns false'. Refute it at one input. -/
def buffersVoidWrong : ChangeSpec := { name := "buffersVoid", fn := fun _ => fun
  | [d1, d2] => { results := [.lit (.bool false)], args := [d1, d2] }
  | _ => none }
def BuffersVoidWrongFalsely : Prop := buffersVoidRow.holds Tryd.pinned (OpenSpec.ofChange buffersVoidWrong)

/- THE SECOND FORM. 'bulk': how many values and letters a reading holds, each counted each time it is reached (what is shared counts as often as it is met; a slice's spare places count too). A statement '..UptoSaid' is the law's where the arguments, and the package variables that the reading takes, are together of bulk at most 1048576: NARROWER than '..Said'. Prove '..Said' where nothing that the law and all that it calls make is longer than what came in: it says more and counts as full. Else prove '..UptoSaid'. A law counts once. -/
mutual
def uptoBulk {H : Type} : DataW H → Nat
  | .lit (.string bytes) => bytes.length + 1
  | .lit _ => 1
  | .nil => 1
  | .ptr d => uptoBulk d + 1
  | .slice elems spare => uptoBulkAll elems + uptoBulkAll spare + 1
  | .agg parts => uptoBulkAll parts + 1
  | .iface _ d => uptoBulk d + 1
  | .map entries => uptoBulkEntries entries + 1
  | .held _ => 1
def uptoBulkAll {H : Type} : List (DataW H) → Nat
  | [] => 0
  | d :: r => uptoBulk d + uptoBulkAll r
def uptoBulkEntries {H : Type} : List (Lit × DataW H) → Nat
  | [] => 0
  | x :: r => uptoBulkEntry x + uptoBulkEntries r
def uptoBulkEntry {H : Type} : Lit × DataW H → Nat
  | (.string bytes, d) => bytes.length + uptoBulk d + 1
  | (_, d) => uptoBulk d + 1
 end
def uptoSmall : (H : Type) → List (DataW H) → Bool := fun _ ds => decide (uptoBulkAll ds ≤ 1048576)
def OpenSpec.upto (s : _root_.Go.ChangeSpec) : _root_.Go.OpenSpec := { _root_.Go.OpenSpec.ofChange s with cond := some uptoSmall }

/-- 'ferryhouselaw19.BuffersOut', WHERE WHAT IT READS IS OF BULK AT MOST 1048576: true; the input reads as it did. -/
def buffersOutUptoRow : OpenClaim := { program := "ytdeghpmlhcaedaadoor", sum := "db998e2879b881e3668cfffe179f42cd62bcf551c20d176d97035784dfa950b2", func := "ferryhouse/ferryhouselaw19.BuffersOut", spec := "buffersOut", unfollowed := true, recurses := true, named := ["math/bits.deBruijn64tab"], apart := false, laid := [("math/bits.deBruijn64tab", laid_math_bits_deBruijn64tab)], narrowed := true }
def BuffersOutUptoSaid : Prop := buffersOutUptoRow.holds Tryd.pinned (OpenSpec.upto buffersOutSpec)

/-- 'ferryhouselaw19.BuffersRound', WHERE WHAT IT READS IS OF BULK AT MOST 1048576: true; the input reads as it did. -/
def buffersRoundUptoRow : OpenClaim := { program := "ytdeghpmlhcaedaadoor", sum := "db998e2879b881e3668cfffe179f42cd62bcf551c20d176d97035784dfa950b2", func := "ferryhouse/ferryhouselaw19.BuffersRound", spec := "buffersRound", unfollowed := true, recurses := true, named := ["math/bits.deBruijn64tab"], apart := false, laid := [("math/bits.deBruijn64tab", laid_math_bits_deBruijn64tab)], narrowed := true }
def BuffersRoundUptoSaid : Prop := buffersRoundUptoRow.holds Tryd.pinned (OpenSpec.upto buffersRoundSpec)

/-- 'ferryhouselaw19.BuffersOwn', WHERE WHAT IT READS IS OF BULK AT MOST 1048576: true; the input reads as it did. -/
def buffersOwnUptoRow : OpenClaim := { program := "ytdeghpmlhcaedaadoor", sum := "db998e2879b881e3668cfffe179f42cd62bcf551c20d176d97035784dfa950b2", func := "ferryhouse/ferryhouselaw19.BuffersOwn", spec := "buffersOwn", unfollowed := true, recurses := true, named := ["math/bits.deBruijn64tab"], apart := false, laid := [("math/bits.deBruijn64tab", laid_math_bits_deBruijn64tab)], narrowed := true }
def BuffersOwnUptoSaid : Prop := buffersOwnUptoRow.holds Tryd.pinned (OpenSpec.upto buffersOwnSpec)

/-- 'ferryhouselaw19.BuffersVoid', WHERE WHAT IT READS IS OF BULK AT MOST 1048576: true; the input reads as it did. -/
def buffersVoidUptoRow : OpenClaim := { program := "ytdeghpmlhcaedaadoor", sum := "db998e2879b881e3668cfffe179f42cd62bcf551c20d176d97035784dfa950b2", func := "ferryhouse/ferryhouselaw19.BuffersVoid", spec := "buffersVoid", unfollowed := true, recurses := true, named := ["math/bits.deBruijn64tab"], apart := false, laid := [("math/bits.deBruijn64tab", laid_math_bits_deBruijn64tab)], narrowed := true }
def BuffersVoidUptoSaid : Prop := buffersVoidUptoRow.holds Tryd.pinned (OpenSpec.upto buffersVoidSpec)

end Rows
end Go.Proofs.YtdeghpmlhcaedaaDoor
