/- math/bits.TrailingZeros64. -/
import Derived.Test.YtdeghpmlhcaedaaDoorBz
import Derived.Test.YtdeghpmlhcaedaaDoorGen2
import Derived.Test.YtdeghpmlhcaedaaDoorTg
import Derived.Test.YtdeghpmlhcaedaaDoorProg
import Derived.BigQuiet
import Derived.WalkLawsBesides
import Derived.Lib.Hide
namespace Go.Proofs.YtdeghpmlhcaedaaDoor
open Go.RowKit
open Go.ChangeMaps (setBlock)
set_option linter.unusedSimpArgs false
set_option linter.unusedVariables false
attribute [local go_sem] cell_blk frozen_blk one_int one_bool one_ptr one_slice one_map Value.cells
def tz64 : List Nat := [0, 1, 56, 2, 57, 49, 28, 3, 61, 58, 42, 50, 38, 29, 17, 4, 62, 47, 59, 36, 45, 43, 51, 22, 53, 39, 33, 30, 24, 18, 12, 5, 63, 55, 48, 27, 60, 41, 37, 16, 46, 35, 44, 21, 52, 32, 23, 11, 54, 26, 40, 15, 34, 20, 31, 10, 25, 14, 19, 9, 13, 8, 7, 6]
/-- The table of math/bits lies where the program laid it. -/
def TabW (w : World) : Prop := ∃ C U fr, w.heap[0]? = some (.cells C U fr) ∧ ∀ i, i < 64 → C[i]? = some (.int .u8 (tz64.getD i 0 : Nat))
theorem TabW.mod {w w' : World} {S : Nat → Prop} (h : TabW w) (hm : Mod S w w') (hS : ¬ S 0) : TabW w' := by
  obtain ⟨C, U, fr, h1, h2⟩ := h
  exact ⟨C, U, fr, hm.at h1 hS, h2⟩
theorem TabW.mod0 {w w' : World} (h : TabW w) (hm : Mod (fun _ => False) w w') : TabW w' := h.mod hm (fun h => h)
theorem tz_tab : ∀ k, k < 64 → 2 ^ k * 285870213051353865 % 18446744073709551616 / 288230376151711744 < 64 ∧ tz64.getD (2 ^ k * 285870213051353865 % 18446744073709551616 / 288230376151711744) 0 = k := by decide +kernel
theorem ret_int {k : IntKind} {a b : Int} (h : a = b) : Ending.returned (.int k a) = .returned (.int k b) := by rw [h]
theorem u64_nat {n : Nat} {z : Int} (h : z = (n : Int)) (hn : n < 18446744073709551616) : IntKind.u64.wrap z = (n : Int) := by
  subst h
  rw [IntKind.wrap_u64]
  omega
set_option maxRecDepth 20000 in
set_option maxHeartbeats 1600000 in
theorem tz0_c (w : World) : Calls Tryd.prog 53 #[.int .u64 0] w fun e w' => e = .returned (.int .i64 64) ∧ w' = w := by
  go_enter Tryd.func53, Tryd.ntmps53
  go_wp2_with fail
  go_ret
  exact ⟨rfl, rfl⟩
theorem tz_facts {x k : Nat} (hx : x < 2 ^ 64) (h1 : x.testBit k = true) (h0 : ∀ i, i < k → x.testBit i = false) : ∃ y p m ix : Nat, IntKind.u64.wrap (-(x : Int)) = (y : Int) ∧ bits .and .u64 (x : Int) (y : Int) = (p : Int) ∧ IntKind.u64.wrap ((p : Int) * 285870213051353865) = (m : Int) ∧ (m : Int) / 288230376151711744 = (ix : Int) ∧ ix < 64 ∧ tz64.getD ix 0 = k := by
  have hk := bit_lt hx h1
  have hpos : 0 < x := by
    rcases Nat.eq_zero_or_pos x with rfl | h
    · simp at h1
    · exact h
  obtain ⟨hi, ht⟩ := tz_tab k hk
  refine ⟨2 ^ 64 - x, 2 ^ k, 2 ^ k * 285870213051353865 % 18446744073709551616, _, ?_, ?_, ?_, ?_, hi, ht⟩
  · rw [IntKind.wrap_u64]
    omega
  · rw [u64_and_nat x (2 ^ 64 - x) (by omega) (by omega), neg_and hx h1 h0]
  · rw [IntKind.wrap_u64]
    omega
  · omega
set_option maxRecDepth 20000 in
set_option maxHeartbeats 1600000 in
theorem tz_c {x k : Nat} (hx : x < 2 ^ 64) (h1 : x.testBit k = true) (h0 : ∀ i, i < k → x.testBit i = false) {w : World} (hw : TabW w) : Calls Tryd.prog 53 #[.int .u64 (x : Int)] w fun e w' => e = .returned (.int .i64 (k : Int)) ∧ w' = w := by
  obtain ⟨y, p, m, ix, q1, q2, q3, q4, hi, ht⟩ := tz_facts hx h1 h0
  have hk := bit_lt hx h1
  have hne : ((x : Int) == 0) = false := by
    rw [beq_eq_false_iff_ne]
    intro e
    have : x = 0 := by omega
    subst this
    simp at h1
  obtain ⟨C, U, fr, hb, hc⟩ := hw
  have hci := hc ix hi
  rw [ht] at hci
  have hcv : IntKind.i64.wrap (k : Int) = (k : Int) := IntWalk.i64_in _ (by omega)
  clear h1 h0 hc ht hx
  go_enter Tryd.func53, Tryd.ntmps53
  go_wp2_with fail
  go_ret
  exact ⟨rfl, rfl⟩
end Go.Proofs.YtdeghpmlhcaedaaDoor
