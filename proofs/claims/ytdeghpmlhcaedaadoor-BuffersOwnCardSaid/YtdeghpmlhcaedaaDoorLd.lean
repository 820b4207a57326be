/- The table of math/bits, as the row lists it and as the walks read it; the door's own heap meets the row's condition. -/
import Derived.Test.YtdeghpmlhcaedaaDoorRows
import Derived.Test.YtdeghpmlhcaedaaDoorTz
import Derived.ProofKit
import Derived.LaidMore
import Derived.OpenShut
import Derived.Stop.Joined
import Derived.Lib.LaidTab
namespace Go.Proofs.YtdeghpmlhcaedaaDoor
open Go.ChangeShapes Go.WideShapes Go.ChangeAt Go.WideMaps Go.WideElems Go.RowKit
theorem u64_of {n : Int} (h : 0 ≤ n ∧ n ≤ 18446744073709551615) : ∃ x : UInt64, n = (x.toNat : Int) := ⟨UInt64.ofNat n.toNat, by
  rw [UInt64.toNat_ofNat']
  omega⟩
theorem u8_of {n : Int} (h : 0 ≤ n ∧ n ≤ 255) : ∃ x : UInt8, n = (x.toNat : Int) := ⟨UInt8.ofNat n.toNat, by
  rw [UInt8.toNat_ofNat']
  omega⟩
theorem i64_of {n : Int} (h : -9223372036854775808 ≤ n ∧ n ≤ 9223372036854775807) : ∃ x : Int64, n = x.toInt := ⟨Int64.ofInt n, by
  rw [Int64.toInt_ofInt_of_le (by simpa using h.1) (by omega)]⟩
def LD : List (String × DataW Unit) := [("math/bits.deBruijn64tab", Rows.laid_math_bits_deBruijn64tab)]
theorem door_met (os : Os) (args : Array Value) : laidMetH Tryd.prog LD ((World.doorLaid Tryd.prog 400 os).forCall (fun _ _ => 0) ⟨#[], args, []⟩).memory :=
  laidMetH_of_parts3 (fuel := 8) (laidMet_of_run' 8 (by kernel_rfl) (by kernel_rfl)) (by kernel_rfl) (by kernel_rfl)
def zs64 : List Int := tz64.map Int.ofNat
theorem LD_eq : LD = [("math/bits.deBruijn64tab", Lib.tabData .u8 zs64)] := by rfl
theorem cell_block {w : World} {b i : Nat} {v : Value} (h : w.cell? ⟨b, i, none⟩ = some v) : ∃ C U fr, w.heap[b]? = some (.cells C U fr) ∧ C[i]? = some v := by
  unfold World.cell? at h
  split at h
  · rename_i C U fr hb
    exact ⟨C, U, fr, hb, h⟩
  · cases h
theorem zs_at : ∀ i, i < 64 → zs64.getD i 0 = (tz64.getD i 0 : Nat) := by decide +kernel
theorem tabW_of_laid {W : World} (h : laidMetH Tryd.prog LD W) : TabW W := by
  rw [MakeChecks.laidMetH_plain _ _ _ (by kernel_rfl), LD_eq] at h
  have hg : Tryd.prog.globalNamed "math/bits.deBruijn64tab" = some 0 := by kernel_rfl
  have ht := Lib.tabIs_of_head (g := 0) (n := 64) hg (by kernel_rfl) Tryd.underlying76 Tryd.underlying5 (by kernel_rfl) (by kernel_rfl) h
  obtain ⟨C, U, fr, hb, _⟩ := cell_block (ht.cell hg 0 (by decide))
  refine ⟨C, U, fr, hb, fun i hi => ?_⟩
  obtain ⟨C2, U2, fr2, hb2, hc⟩ := cell_block (ht.cell hg i (by show i < 64; exact hi))
  rw [hb] at hb2
  cases hb2
  rw [hc, zs_at i hi]
end Go.Proofs.YtdeghpmlhcaedaaDoor
