/- The law's own 'great' and 'conflict'. -/
import Derived.Test.YtleenmldlbccmaaLives
import Derived.Test.YtleenmldlbccmaaSl
namespace Go.Proofs.Ytleenmldlbccmaa
open Go.RowKit
set_option linter.unusedSimpArgs false
set_option linter.unusedVariables false
/-- How many acts and roles are gone through, at the least. -/
def sizeOfActs (l : List Act') : Nat := l.length + (l.map fun x => x.s.l.length).sum
attribute [local go_sem] cell_blk frozen_blk one_int one_bool one_ptr one_slice one_map Value.cells
theorem sum_take (l : List Act') (j : Nat) (x : Act') (hx : l[j]? = some x) : ((l.take (j + 1)).map fun x => x.s.l.length).sum = ((l.take j).map fun x => x.s.l.length).sum + x.s.l.length := by
  rw [List.take_add_one, hx]
  simp
theorem len_small {w : World} {x : Act'} (h : ActOk' w x) : x.s.l.length ≤ 140737488355328 := reach_small h.1.2.2.1 (by omega)
set_option maxHeartbeats 1600000 in
set_option maxRecDepth 20000 in
theorem great_c (a : Option Addr) (l : List Act') (c : Nat) (w : World) (hl : SlAt acv 3 w a l) (hlm : l.length ≤ 140737488355328) (hok : ∀ x ∈ l, x.s.l.length ≤ 140737488355328) :
    Calls Try.prog 9 #[.slice a l.length c] w fun e w' => ∃ b : Bool, e = .returned (.bool b) ∧ (b = false → sizeOfActs l ≤ 400) ∧ w = w' := by
  have Hok := Lib.hid hok
  clear hok
  go_enter Try.func9, Try.ntmps9
  go_wp2_with fail
  go_loopw [3, 4] (fun s3 s4 wr => ∃ (j N : Nat), j ≤ l.length ∧ s4 = .int .i64 j ∧ s3 = .int .i64 N ∧ Hid (N = l.length + ((l.take j).map fun x => x.s.l.length).sum) ∧ Hid (N ≤ 2000 + 140737488355328 + 140737488355328) ∧ wr = w) (fun _ s4 _ => l.length - (intOf s4).toNat)
  case atStart => exact ⟨0, l.length, by omega, rfl, rfl, Lib.hid (by simp), Lib.hid (by omega), rfl⟩
  case round =>
    obtain ⟨j, N, hj, rfl, rfl, HN, HB, rfl⟩ := hrel
    by_cases hlt : j < l.length
    · by_cases h2 : N < 2000
      · obtain ⟨x, hx⟩ : ∃ x, l[j]? = some x := ⟨_, List.getElem?_eq_getElem hlt⟩
        obtain ⟨b, o, C, U, fr, rfl, kl, he, hle⟩ := hl.block hx
        have hC : C[o + j * 3 + 1]? = some x.s.v := cellC he (j := 1) rfl
        have hw : IntKind.i64.wrap ((N : Int) + (x.s.l.length : Int)) = (N : Int) + x.s.l.length := IntWalk.i64_in _ (by have := Hok.out x (List.mem_of_getElem? hx); omega)
        have HS := Lib.hid (sum_take l j x hx)
        have HX := Lib.hid (Hok.out x (List.mem_of_getElem? hx))
        unfold Sl.v at hC
        obtain ⟨cb, ⟨xa, xl, xc⟩, xn⟩ := x
        generalize hm : xl.length = m at *
        clear he hx
        go_wp2_with fail
        go_roundw
        case rel => exact ⟨j + 1, N + m, by omega, by go_num, by go_num, Lib.hid (by rw [HS.out, HN.out]; omega), Lib.hid (by have := HX.out; omega), trivial⟩
        case measure => (simp [intOf]; try omega)
      · have h3 : (400 : Int) < N := by omega
        go_wp2_with fail
        go_ret
        exact ⟨_, rfl, fun h => by simp at h, rfl⟩
    · obtain rfl : j = l.length := by omega
      go_wp2_with fail
      go_ret
      refine ⟨_, rfl, fun h => ?_, rfl⟩
      have hN := HN.out
      rw [List.take_length] at hN
      unfold sizeOfActs
      simp at h
      omega
end Go.Proofs.Ytleenmldlbccmaa
