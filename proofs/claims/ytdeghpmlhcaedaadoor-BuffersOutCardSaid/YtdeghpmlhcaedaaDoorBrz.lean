/- What is handed in: lists of numbers. -/
import Derived.Test.YtdeghpmlhcaedaaDoorLd
import Derived.Test.YtdeghpmlhcaedaaDoorMP
namespace Go.Proofs.YtdeghpmlhcaedaaDoor
set_option linter.unusedVariables false
set_option linter.unusedSimpArgs false
open Go.ChangeShapes Go.WideShapes Go.ChangeAt Go.RowKit
section
variable {H : Type} {enc : TypeId × Value → H}
theorem nu_reads : Reads enc Tryd.prog 30 nc (fun _ _ => True) := fun w base sp held fuel cs x h hfit => by
  obtain ⟨n, hn, _, hw⟩ := DataW.trod_int Tryd.underlying30 h
  obtain ⟨y, rfl⟩ := u64_of (bounds_u64 hw)
  exact ⟨y, by rw [hn]; rfl, trivial⟩
theorem nus_reads : Reads enc Tryd.prog 22 (slv (α := UInt64)) (SlOk nc 1 8 (fun _ _ => True)) :=
  slice_reads Tryd.underlying22 (by kernel_rfl) (by kernel_rfl) (by omega) nu_reads 0
end
end Go.Proofs.YtdeghpmlhcaedaaDoor
