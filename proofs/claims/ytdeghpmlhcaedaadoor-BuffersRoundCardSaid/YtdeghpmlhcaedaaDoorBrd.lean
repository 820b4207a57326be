/- What is handed in: lists of bools. -/
import Derived.Test.YtdeghpmlhcaedaaDoorBrz
import Derived.Test.YtdeghpmlhcaedaaDoorRw
namespace Go.Proofs.YtdeghpmlhcaedaaDoor
set_option linter.unusedVariables false
set_option linter.unusedSimpArgs false
open Go.ChangeShapes Go.WideShapes Go.ChangeAt Go.RowKit
section
variable {H : Type} {enc : TypeId × Value → H}
theorem bo_reads : Reads enc Tryd.prog 4 boc (fun _ _ => True) := fun w base sp held fuel cs x h hfit => by
  obtain ⟨b, hb, _⟩ := DataW.trod_bool Tryd.underlying4 h
  exact ⟨b, by rw [hb]; rfl, trivial⟩
theorem bos_reads : Reads enc Tryd.prog 62 (slv (α := Bool)) (SlOk boc 1 1 (fun _ _ => True)) :=
  slice_reads Tryd.underlying62 (by kernel_rfl) (by kernel_rfl) (by omega) bo_reads false
end
end Go.Proofs.YtdeghpmlhcaedaaDoor
