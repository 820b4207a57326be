/- Blocks: the chapter's answers (lives). -/
import Derived.Test.YtofpnmoeimjnnaaBv6
namespace Go.Proofs.Ytofpnmoeimjnnaa
open Go.RowKit
open Go.ChangeMaps (setBlock)
set_option linter.unusedSimpArgs false
set_option linter.unusedVariables false
attribute [local go_sem ↓] wlKey ldKey stKey wlAcct ldAcct stAcct wlHold ldHold stHold wlHash ldHash stHash wlSig ldSig stSig wlLim ldLim stLim wlRdy ldRdy stRdy wlOut ldOut stOut wlTd ldTd stTd wlTx ldTx stTx eqKey1
attribute [local go_sem] eqMap neMap av_size av_all av_one hd_size hd_key hd_acct hd_all hd_one zKey_size zAcct_size zHold_size zHash_size zSg_size zLim_size zRdy_size zOut_size zTried_size zTx_size cell_blk frozen_blk kc_ext one_int one_bool one_ptr one_slice one_map kc_one kc_one0 kc_size sgc_size sgc_ext sgc_one0 sgc_one' rdr_size rdr_all rdr_one rdr_tx rdr_rec rdr0 rdr1 rdr41 rdr0' rdr1' rdr41' ocr_size ocr_all ocr_one ocr2 ocr3 ocr4 ocr5 ocr2' ocr3' ocr4' ocr5' tdr_size tdr_all tdr_one tdr_r tdr_o tdr_tx tdr_rec tdr0 tdr1 tdr41 tdr50 tdr51 tdr52 tdr53 tdr0' tdr1' tdr41' tdr50' tdr51' tdr52' tdr53' txr_size txr_all txr_one txr0 txr38 txr39 txr0' txr38' txr39' Value.cells

def zb8 : Array Value := #[.int .u8 0, .int .u8 0, .int .u8 0, .int .u8 0, .int .u8 0, .int .u8 0, .int .u8 0, .int .u8 0]
set_option maxRecDepth 20000 in
set_option maxHeartbeats 1600000 in
theorem get0_c (g : Nat) (w : World) (kg : w.heap[g]? = some (.cells zb8 5 (0, 0))) : Calls Try.prog 51 #[.slice (some ⟨g, 0, none⟩) 8 8, .int .i64 8] w fun e w' => e = .returned (.tuple #[.int .u64 0, .int .i64 0]) ∧ Mod (fun _ => False) w w' := by
  unfold zb8 at kg
  go_enter Try.func51, Try.ntmps51
  go_wp2_with fail
  go_loopw [4, 20] (fun s4 s20 ws => ∃ i : Nat, i ≤ 8 ∧ s4 = .int .u64 0 ∧ s20 = .int .i64 (i : Int) ∧ Mod (fun _ => False) w ws) (fun _ s20 _ => 8 - (intOf s20).toNat)
  case atStart => exact ⟨0, by omega, rfl, rfl, Mod.refl _ _⟩
  case round =>
    obtain ⟨i, hi, rfl, rfl, hm⟩ := hrel
    have kg := hm.at0 kg
    by_cases hlt : i < 8
    · have hc : i = 0 ∨ i = 1 ∨ i = 2 ∨ i = 3 ∨ i = 4 ∨ i = 5 ∨ i = 6 ∨ i = 7 := by omega
      rcases hc with rfl | rfl | rfl | rfl | rfl | rfl | rfl | rfl
      all_goals
        go_wp2_with fail
        go_roundw
        case rel => first | exact ⟨1, by omega, rfl, by go_num, hm⟩ | exact ⟨2, by omega, rfl, by go_num, hm⟩ | exact ⟨3, by omega, rfl, by go_num, hm⟩ | exact ⟨4, by omega, rfl, by go_num, hm⟩ | exact ⟨5, by omega, rfl, by go_num, hm⟩ | exact ⟨6, by omega, rfl, by go_num, hm⟩ | exact ⟨7, by omega, rfl, by go_num, hm⟩ | exact ⟨8, by omega, rfl, by go_num, hm⟩
        case measure => simp [intOf]
    · obtain rfl : i = 8 := by omega
      go_wp2_with fail
      go_ret2
      exact ⟨rfl, hm⟩
set_option maxRecDepth 20000 in
theorem decode0_c (g : Nat) (w : World) (kg : w.heap[g]? = some (.cells zb8 5 (0, 0))) : Calls Try.prog 25 #[.slice (some ⟨g, 0, none⟩) 8 8] w fun e w' => e = .returned (.tuple #[.slice none 0 0, .int .i64 4]) ∧ Mod (fun _ => False) w w' := by
  go_enter Try.func25, Try.ntmps25
  go_wp2_with fail
  go_at_call 51
  refine (get0_c g _ kg).mono ?_
  rintro e w1 ⟨rfl, m1⟩
  go_wp2_with fail
  go_ret2
  exact ⟨rfl, m1⟩
theorem mkBytes (n : Nat) (hn : n ≤ 1000000) (w : World) : (Instr.makeSlice 45 (.int .i64 (n : Int)) (.int .i64 (n : Int))).run Try.prog w = .ok (.slice (some ⟨w.heap.size, 0, none⟩) n n) (w.alloc (.cells (List.replicate n (Value.int .u8 0)).toArray 5)) := by
  obtain ⟨i0, hi, hz0, hz1, hz2⟩ := info_parts (show (Try.prog.info? 5).map (fun i => (i.zero, i.size, i.bytes)) = some (some (.int .u8 0), 1, 1) by kernel_rfl)
  have := run_make (P := Try.prog) w 45 5 i0 _ Try.underlying45 hi hz0 .i64 .i64 (n : Int) (n : Int) (by omega) (by omega) (by rw [hz2]; omega) (by omega)
  rw [hz1, Nat.mul_one] at this
  have hc : madeCells #[Value.int .u8 0] n = (List.replicate n (Value.int .u8 0)).toArray := by
    apply Array.toList_inj.1
    rw [toList_madeCells_one]
  simpa [Value.cells, hc] using this
theorem mkB8 (w : World) : (Instr.makeSlice 45 (.int .i64 8) (.int .i64 8)).run Try.prog w = .ok (.slice (some ⟨w.heap.size, 0, none⟩) 8 8) (w.alloc (.cells zb8 5)) := mkBytes 8 (by omega) w
theorem bldTd0 (w : World) : (Instr.build 66 #[]).run Try.prog w = .ok (.agg (tdr td0)) w := by
  refine run_build_struct (z := .agg zTried) (places := #[(0, 48), (48, 6)]) Try.underlying66 (fun w => by kernel_rfl) (fun w => by kernel_rfl) ?_ w
  rfl
theorem bsTd (x : TdR) (w : World) : (Instr.buildSlice 30 1 #[(0, .agg (tdr x))]).run Try.prog w = .ok (.slice (some ⟨w.heap.size, 0, none⟩) 1 1) (w.alloc (.cells (tdr x) 66)) := by
  obtain ⟨i0, hi, hz0, hz1, hz2⟩ := info_parts (show (Try.prog.info? 66).map (fun i => (i.zero, i.size, i.bytes)) = some (some (.agg zTried), 54, 296) by kernel_rfl)
  refine run_buildSlice w _ _ 1 _ _ i0 _ Try.underlying30 hi hz0 (by rw [hz1]; omega) (by rw [hz1]; omega) ?_
  rw [hz1]
  show Instr.fill _ _ [(0, _)] = _
  rw [fill_cons (off := 0) (n := 54) rfl (by simp [Value.cells, tdr_size]) (by simp [Value.cells, zTried_size, size_madeCells])]
  show some (wr _ 0 (tdr x).toList) = _
  rw [wr_whole (tdr x) _ (by simp [Value.cells, zTried_size, tdr_size, size_madeCells])]
theorem bsEr (v : Nat) (w : World) : (Instr.buildSlice 41 1 #[(0, .int .i64 (v : Int))]).run Try.prog w = .ok (.slice (some ⟨w.heap.size, 0, none⟩) 1 1) (w.alloc (.cells (errC [v]) 62)) := by kernel_rfl
end Go.Proofs.Ytofpnmoeimjnnaa
