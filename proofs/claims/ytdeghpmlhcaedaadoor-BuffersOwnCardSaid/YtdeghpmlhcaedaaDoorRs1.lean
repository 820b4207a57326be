/- Sorting a row of at most one node. -/
import Derived.Test.YtdeghpmlhcaedaaDoorRd2
namespace Go.Proofs.YtdeghpmlhcaedaaDoor
open Go.RowKit
set_option linter.unusedSimpArgs false
set_option linter.unusedVariables false
set_option maxRecDepth 40000 in
theorem len64_a (w : World) : Calls Tryd.prog 92 #[.int .u64 0] w fun e w' => (∃ z : Int, e = .returned (.int .i64 z)) ∧ w' = w := by
  go_enter Tryd.func92, Tryd.ntmps92
  go_wp2_with fail
  go_ret
  exact ⟨⟨_, rfl⟩, rfl⟩
set_option maxRecDepth 40000 in
theorem lenB_a (w : World) : Calls Tryd.prog 82 #[.int .u64 0] w fun e w' => (∃ z : Int, e = .returned (.int .i64 z)) ∧ w' = w := by
  go_enter Tryd.func82, Tryd.ntmps82
  go_wp2_with fail
  go_at_call 92
  refine (len64_a w).mono ?_
  rintro e w2 ⟨⟨z, rfl⟩, rfl⟩
  go_wp2_with fail
  go_ret
  exact ⟨⟨_, rfl⟩, rfl⟩
set_option maxRecDepth 40000 in
theorem len64_b (w : World) : Calls Tryd.prog 92 #[.int .u64 1] w fun e w' => (∃ z : Int, e = .returned (.int .i64 z)) ∧ w' = w := by
  go_enter Tryd.func92, Tryd.ntmps92
  go_wp2_with fail
  go_ret
  exact ⟨⟨_, rfl⟩, rfl⟩
set_option maxRecDepth 40000 in
theorem lenB_b (w : World) : Calls Tryd.prog 82 #[.int .u64 1] w fun e w' => (∃ z : Int, e = .returned (.int .i64 z)) ∧ w' = w := by
  go_enter Tryd.func82, Tryd.ntmps82
  go_wp2_with fail
  go_at_call 92
  refine (len64_b w).mono ?_
  rintro e w2 ⟨⟨z, rfl⟩, rfl⟩
  go_wp2_with fail
  go_ret
  exact ⟨⟨_, rfl⟩, rfl⟩
theorem lenB_c (n : Nat) (hn : n ≤ 1) (w : World) : Calls Tryd.prog 82 #[.int .u64 ((n : Nat) : Int)] w fun e w' => (∃ z : Int, e = .returned (.int .i64 z)) ∧ w' = w := by
  rcases (by omega : n = 0 ∨ n = 1) with rfl | rfl
  · exact lenB_a w
  · exact lenB_b w
abbrev insF := 83
abbrev pdqF := 81
abbrev sortF := 78
theorem ins_1 (s c : Value) (n : Nat) (hn : n ≤ 1) (z : Value) (w : World) : Calls Tryd.prog 83 #[s, .int .i64 0, .int .i64 (n : Int), c] w fun e w' => e = .returned (.tuple #[]) ∧ w' = w := by
  go_enter Tryd.func83, Tryd.ntmps83
  go_wp2_with fail
  go_loopw [8] (fun s8 ws => s8 = .int .i64 1 ∧ ws = w) (fun _ _ => 0)
  case atStart => exact ⟨rfl, rfl⟩
  case round =>
    obtain ⟨rfl, rfl⟩ := hrel
    have hd : decide ((1 : Int) < (n : Int)) = false := decide_eq_false (by omega)
    go_wp2_with fail
    go_end0
    exact ⟨rfl, rfl⟩
theorem pdq_1 (s c : Value) (n : Nat) (hn : n ≤ 1) (z : Value) (w : World) : Calls Tryd.prog 81 #[s, .int .i64 0, .int .i64 (n : Int), z, c] w fun e w' => e = .returned (.tuple #[]) ∧ w' = w := by
  go_enter Tryd.func81, Tryd.ntmps81
  go_wp2_with fail
  go_loopw [1, 2] (fun s1 s2 ws => s1 = .int .i64 0 ∧ s2 = .int .i64 (n : Int) ∧ ws = w) (fun _ _ _ => 0)
  case atStart => exact ⟨rfl, rfl, rfl⟩
  case round =>
    obtain ⟨rfl, rfl, rfl⟩ := hrel
    have hw : IntKind.i64.wrap ((n : Int) - 0) = (n : Int) := by
      rw [IntKind.wrap_i64]
      omega
    have hd : decide ((n : Int) ≤ 12) = true := decide_eq_true (by omega)
    go_wp2_with fail
    go_at_call 83
    refine (ins_1 _ _ n hn z _).mono ?_
    rintro e w2 ⟨rfl, rfl⟩
    go_wp2_with fail
    exact bodyPost_ret (v := .tuple #[]) (results_none rfl _ _ _) rfl ⟨rfl, rfl⟩
theorem sort_1 (s c : Value) (a : Option Addr) (n cp : Nat) (hn : n ≤ 1) (w : World) : Calls Tryd.prog 78 #[.slice a n cp, c] w fun e w' => e = .returned (.tuple #[]) ∧ w' = w := by
  go_enter Tryd.func78, Tryd.ntmps78
  have hw : IntKind.u64.wrap (n : Int) = (n : Int) := by
    rw [IntKind.wrap_u64]
    omega
  go_wp2_with fail
  go_at_call 82
  refine (lenB_c n hn _).mono ?_
  rintro e w2 ⟨⟨z, rfl⟩, rfl⟩
  go_wp2_with fail
  go_at_call 81
  refine (pdq_1 _ _ n hn (.int .i64 z) _).mono ?_
  rintro e w2 ⟨rfl, rfl⟩
  go_wp2_with fail
  go_end0
  exact ⟨rfl, rfl⟩
end Go.Proofs.YtdeghpmlhcaedaaDoor
