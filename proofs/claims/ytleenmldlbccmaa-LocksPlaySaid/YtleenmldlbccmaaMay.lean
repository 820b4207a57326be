/- The walks of locks.may, Free, Threads. -/
import Derived.Test.YtleenmldlbccmaaBits
import Derived.Test.YtleenmldlbccmaaTurn
namespace Go.Proofs.Ytleenmldlbccmaa
open Go.RowKit
open Go.ChangeMaps (setBlock)
set_option linter.unusedSimpArgs false
set_option linter.unusedVariables false
theorem eqHeld (w : World) (r : Option Nat) : (binOp .eql 46 (.map r) (.map none)).run Try.prog w = .ok (.bool r.isNone) w := run_eql_map_nil w _ _ _ _ Try.underlying46
attribute [local go_sem ↓] wlKey wlRole wlSpot wlCounts wlBits ldKey ldRole ldSpot ldCounts ldBits stKey stRole stSpot stCounts stBits eqCounts eqBits
attribute [local go_sem] eqHeld cell_blk frozen_blk kc_ext rc_size rc_key rc_all rc_s rc_w rc_s' rc_w' rc_one sc_size sc_key sc_all sc_n sc_n' sc_one one_int one_bool one_ptr one_slice one_map zSpot_size kc_one kc_one0 Value.cells

set_option maxHeartbeats 800000 in
theorem may_ok (t hb wb : Nat) (n i : Int) (w : World) (kt : w.heap[t]? = some (.cells #[.int .i64 n, .map (some hb), .map (some wb)] 49 (0, 0))) (h0 : 0 ≤ i) (h1 : i < n) :
    Calls Try.prog 27 #[.pointer (some ⟨t, 0, none⟩), .int .i64 i] w fun e w' => e = .returned (.int .i64 0) ∧ w = w' := by
  go_enter Try.func27, Try.ntmps27
  go_wp2
  go_ret
  exact ⟨rfl, rfl⟩
set_option maxHeartbeats 800000 in
theorem may_neg (t hb wb : Nat) (n i : Int) (w : World) (kt : w.heap[t]? = some (.cells #[.int .i64 n, .map (some hb), .map (some wb)] 49 (0, 0))) (h0 : i < 0) :
    Calls Try.prog 27 #[.pointer (some ⟨t, 0, none⟩), .int .i64 i] w fun e w' => e = .returned (.int .i64 1) ∧ w = w' := by
  go_enter Try.func27, Try.ntmps27
  go_wp2
  go_ret
  exact ⟨rfl, rfl⟩
set_option maxHeartbeats 800000 in
theorem may_big (t hb wb : Nat) (n i : Int) (w : World) (kt : w.heap[t]? = some (.cells #[.int .i64 n, .map (some hb), .map (some wb)] 49 (0, 0))) (h0 : 0 ≤ i) (h1 : n ≤ i) :
    Calls Try.prog 27 #[.pointer (some ⟨t, 0, none⟩), .int .i64 i] w fun e w' => e = .returned (.int .i64 1) ∧ w = w' := by
  go_enter Try.func27, Try.ntmps27
  go_wp2
  go_ret
  exact ⟨rfl, rfl⟩
theorem may_nil (i : Int) (w : World) : Calls Try.prog 27 #[.pointer none, .int .i64 i] w fun e w' => e = .returned (.int .i64 2) ∧ w = w' := by
  go_enter Try.func27, Try.ntmps27
  go_wp2
  go_ret
  exact ⟨rfl, rfl⟩
theorem may_void (t : Nat) (i : Int) (w : World) (kt : w.heap[t]? = some (.cells #[.int .i64 0, .map none, .map none] 49 (0, 0))) :
    Calls Try.prog 27 #[.pointer (some ⟨t, 0, none⟩), .int .i64 i] w fun e w' => e = .returned (.int .i64 2) ∧ w = w' := by
  go_enter Try.func27, Try.ntmps27
  go_wp2
  go_ret
  exact ⟨rfl, rfl⟩
theorem free_nil (w : World) : Calls Try.prog 19 #[.pointer none] w fun e w' => e = .returned (.bool true) ∧ w = w' := by
  go_enter Try.func19, Try.ntmps19
  go_wp2
  go_ret
  exact ⟨rfl, rfl⟩
theorem free_void (t : Nat) (w : World) (kt : w.heap[t]? = some (.cells #[.int .i64 0, .map none, .map none] 49 (0, 0))) :
    Calls Try.prog 19 #[.pointer (some ⟨t, 0, none⟩)] w fun e w' => e = .returned (.bool true) ∧ w = w' := by
  go_enter Try.func19, Try.ntmps19
  go_wp2
  go_ret
  exact ⟨rfl, rfl⟩
theorem free_c (t hb wb : Nat) (n : Int) (w : World) (eh : Array MapEntry) (ch : Nat) (mh : List (Spot × (Int × Int))) (kt : w.heap[t]? = some (.cells #[.int .i64 n, .map (some hb), .map (some wb)] 49 (0, 0)))
    (kh : w.heap[hb]? = some (.map eh ch)) (Mh : MapIs pv cv eh ch mh) :
    Calls Try.prog 19 #[.pointer (some ⟨t, 0, none⟩)] w fun e w' => e = .returned (.bool (mh.length == 0)) ∧ w = w' := by
  have hl := fun ty => Mh.len (P := Try.prog) (ty := ty) Try.underlying46 w kh
  have h0 : (((mh.length : Int)) == 0) = (mh.length == 0) := by rw [Bool.eq_iff_iff]; simp
  generalize mh.length = m at *
  cases hm : (m == 0) with
  | true =>
    rw [hm] at h0
    clear hm
    go_enter Try.func19, Try.ntmps19
    go_wp2
    go_ret
    exact ⟨rfl, rfl⟩
  | false =>
    rw [hm] at h0
    clear hm
    go_enter Try.func19, Try.ntmps19
    go_wp2
    go_ret
    exact ⟨rfl, rfl⟩
theorem threads_nil (w : World) (a : Option Addr) (l c : Nat) : Calls Try.prog 13 #[.pointer none, .slice a l c] w fun e w' => e = .returned (.int .u64 0) ∧ w = w' := by
  go_enter Try.func13, Try.ntmps13
  go_wp2
  go_ret
  exact ⟨rfl, rfl⟩
theorem threads_void (t : Nat) (w : World) (a : Option Addr) (l c : Nat) (kt : w.heap[t]? = some (.cells #[.int .i64 0, .map none, .map none] 49 (0, 0))) :
    Calls Try.prog 13 #[.pointer (some ⟨t, 0, none⟩), .slice a l c] w fun e w' => e = .returned (.int .u64 0) ∧ w = w' := by
  go_enter Try.func13, Try.ntmps13
  go_wp2
  go_ret
  exact ⟨rfl, rfl⟩
end Go.Proofs.Ytleenmldlbccmaa
