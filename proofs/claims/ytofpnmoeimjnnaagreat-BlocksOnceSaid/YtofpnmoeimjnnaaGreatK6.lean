/- The lemmas of the proof, part 6: how the program and its data lie in memory, and what its functions do. -/
import Derived.Test.YtofpnmoeimjnnaaGreatK5
namespace Go.Proofs.YtofpnmoeimjnnaaGreat
open Go.RowKit
open Go.ChangeMaps (setBlock)
set_option linter.unusedSimpArgs false
set_option linter.unusedVariables false
attribute [local go_sem ↓] wlKey ldKey stKey wlAcct ldAcct stAcct wlHold ldHold stHold wlHash ldHash stHash wlSig ldSig stSig wlLim ldLim stLim wlRdy ldRdy stRdy wlOut ldOut stOut wlTd ldTd stTd wlTx ldTx stTx eqKey1
attribute [local go_sem] eqMap neMap av_size av_all av_one hd_size hd_key hd_acct hd_all hd_one zKey_size zAcct_size zHold_size zHash_size zSg_size zLim_size zRdy_size zOut_size zTried_size zTx_size cell_blk frozen_blk kc_ext one_int one_bool one_ptr one_slice one_map kc_one kc_one0 kc_size sgc_size sgc_ext sgc_one0 sgc_one' rdr_size rdr_all rdr_one rdr_tx rdr_rec rdr0 rdr1 rdr41 rdr0' rdr1' rdr41' ocr_size ocr_all ocr_one ocr2 ocr3 ocr4 ocr5 ocr2' ocr3' ocr4' ocr5' tdr_size tdr_all tdr_one tdr_r tdr_o tdr_tx tdr_rec tdr0 tdr1 tdr41 tdr50 tdr51 tdr52 tdr53 tdr0' tdr1' tdr41' tdr50' tdr51' tdr52' tdr53' txr_size txr_all txr_one txr0 txr38 txr39 txr0' txr38' txr39' Value.cells
def zb8 : Array Value := #[.int .u8 0, .int .u8 0, .int .u8 0, .int .u8 0, .int .u8 0, .int .u8 0, .int .u8 0, .int .u8 0]
set_option maxRecDepth 20000 in
set_option maxHeartbeats 1600000 in
theorem get0_c (g : Nat) (w : World) (kg : w.heap[g]? = some (.cells zb8 5 (0, 0))) : Calls Tryz.prog 27 #[.slice (some ⟨g, 0, none⟩) 8 8, .int .i64 8] w fun e w' => e = .returned (.tuple #[.int .u64 0, .int .i64 0]) ∧ Mod (fun _ => False) w w' := by
  unfold zb8 at kg
  go_enter Tryz.func27, Tryz.ntmps27
  go_wp2_with fail
  go_loopw [4, 20] (fun s4 s20 ws => ∃ i : Nat, i ≤ 8 ∧ s4 = .int .u64 0 ∧ s20 = .int .i64 (i : Int) ∧ Mod (fun _ => False) w ws) (fun _ s20 _ => 8 - (intOf s20).toNat)
  case atStart => exact ⟨0, by omega, rfl, rfl, Mod.refl _ _⟩
  case round =>
    obtain ⟨i, hi, rfl, rfl, hm⟩ := hrel
    have kg := hm.at0 kg
    by_cases hlt : i < 8
    · have hc : i = 0 ∨ i = 1 ∨ i = 2 ∨ i = 3 ∨ i = 4 ∨ i = 5 ∨ i = 6 ∨ i = 7 := by omega
      rcases hc with rfl | rfl | rfl | rfl | rfl | rfl | rfl | rfl
      all_goals
        go_wp2_with fail
        go_roundw
        case rel => first | exact ⟨1, by omega, rfl, by go_num, hm⟩ | exact ⟨2, by omega, rfl, by go_num, hm⟩ | exact ⟨3, by omega, rfl, by go_num, hm⟩ | exact ⟨4, by omega, rfl, by go_num, hm⟩ | exact ⟨5, by omega, rfl, by go_num, hm⟩ | exact ⟨6, by omega, rfl, by go_num, hm⟩ | exact ⟨7, by omega, rfl, by go_num, hm⟩ | exact ⟨8, by omega, rfl, by go_num, hm⟩
        case measure => simp [intOf]
    · obtain rfl : i = 8 := by omega
      go_wp2_with fail
      go_ret2
      exact ⟨rfl, hm⟩
set_option maxRecDepth 20000 in
theorem decode0_c (g : Nat) (w : World) (kg : w.heap[g]? = some (.cells zb8 5 (0, 0))) : Calls Tryz.prog 7 #[.slice (some ⟨g, 0, none⟩) 8 8] w fun e w' => e = .returned (.tuple #[.slice none 0 0, .int .i64 4]) ∧ Mod (fun _ => False) w w' := by
  go_enter Tryz.func7, Tryz.ntmps7
  go_wp2_with fail
  go_at_call 27
  refine (get0_c g _ kg).mono ?_
  rintro e w1 ⟨rfl, m1⟩
  go_wp2_with fail
  go_ret2
  exact ⟨rfl, m1⟩
theorem mkBytes (n : Nat) (hn : n ≤ 1000000) (w : World) : (Instr.makeSlice 22 (.int .i64 (n : Int)) (.int .i64 (n : Int))).run Tryz.prog w = .ok (.slice (some ⟨w.heap.size, 0, none⟩) n n) (w.alloc (.cells (List.replicate n (Value.int .u8 0)).toArray 5)) := by
  obtain ⟨i0, hi, hz0, hz1, hz2⟩ := info_parts (show (Tryz.prog.info? 5).map (fun i => (i.zero, i.size, i.bytes)) = some (some (.int .u8 0), 1, 1) by kernel_rfl)
  have := run_make (P := Tryz.prog) w 22 5 i0 _ Tryz.underlying22 hi hz0 .i64 .i64 (n : Int) (n : Int) (by omega) (by omega) (by rw [hz2]; omega) (by omega)
  rw [hz1, Nat.mul_one] at this
  have hc : madeCells #[Value.int .u8 0] n = (List.replicate n (Value.int .u8 0)).toArray := by
    apply Array.toList_inj.1
    rw [toList_madeCells_one]
  simpa [Value.cells, hc] using this
theorem mkB8 (w : World) : (Instr.makeSlice 22 (.int .i64 8) (.int .i64 8)).run Tryz.prog w = .ok (.slice (some ⟨w.heap.size, 0, none⟩) 8 8) (w.alloc (.cells zb8 5)) := mkBytes 8 (by omega) w
theorem bldTd0 (w : World) : (Instr.build 79 #[]).run Tryz.prog w = .ok (.agg (tdr td0)) w := by
  refine run_build_struct (z := .agg zTried) (places := #[(0, 48), (48, 6)]) Tryz.underlying79 (fun w => by kernel_rfl) (fun w => by kernel_rfl) ?_ w
  rfl
theorem bsTd (x : TdR) (w : World) : (Instr.buildSlice 55 1 #[(0, .agg (tdr x))]).run Tryz.prog w = .ok (.slice (some ⟨w.heap.size, 0, none⟩) 1 1) (w.alloc (.cells (tdr x) 79)) := by
  obtain ⟨i0, hi, hz0, hz1, hz2⟩ := info_parts (show (Tryz.prog.info? 79).map (fun i => (i.zero, i.size, i.bytes)) = some (some (.agg zTried), 54, 296) by kernel_rfl)
  refine run_buildSlice w _ _ 1 _ _ i0 _ Tryz.underlying55 hi hz0 (by rw [hz1]; omega) (by rw [hz1]; omega) ?_
  rw [hz1]
  show Instr.fill _ _ [(0, _)] = _
  rw [fill_cons (off := 0) (n := 54) rfl (by simp [Value.cells, tdr_size]) (by simp [Value.cells, zTried_size, size_madeCells])]
  show some (wr _ 0 (tdr x).toList) = _
  rw [wr_whole (tdr x) _ (by simp [Value.cells, zTried_size, tdr_size, size_madeCells])]
theorem bsEr (v : Nat) (w : World) : (Instr.buildSlice 68 1 #[(0, .int .i64 (v : Int))]).run Tryz.prog w = .ok (.slice (some ⟨w.heap.size, 0, none⟩) 1 1) (w.alloc (.cells (errC [v]) 26)) := by kernel_rfl
end Go.Proofs.YtofpnmoeimjnnaaGreat
namespace Go.Proofs.YtofpnmoeimjnnaaGreat
open Go.RowKit
open Go.ChangeMaps (setBlock)
set_option linter.unusedSimpArgs false
set_option linter.unusedVariables false
attribute [local go_sem ↓] wlKey ldKey stKey wlAcct ldAcct stAcct wlHold ldHold stHold wlHash ldHash stHash wlSig ldSig stSig wlLim ldLim stLim wlRdy ldRdy stRdy wlOut ldOut stOut wlTd ldTd stTd wlTx ldTx stTx eqKey1
attribute [local go_sem] eqMap neMap av_size av_all av_one hd_size hd_key hd_acct hd_all hd_one zKey_size zAcct_size zHold_size zHash_size zSg_size zLim_size zRdy_size zOut_size zTried_size zTx_size cell_blk frozen_blk kc_ext one_int one_bool one_ptr one_slice one_map kc_one kc_one0 kc_size sgc_size sgc_ext sgc_one0 sgc_one' rdr_size rdr_all rdr_one rdr_tx rdr_rec rdr0 rdr1 rdr41 rdr0' rdr1' rdr41' ocr_size ocr_all ocr_one ocr2 ocr3 ocr4 ocr5 ocr2' ocr3' ocr4' ocr5' tdr_size tdr_all tdr_one tdr_r tdr_o tdr_tx tdr_rec tdr0 tdr1 tdr41 tdr50 tdr51 tdr52 tdr53 tdr0' tdr1' tdr41' tdr50' tdr51' tdr52' tdr53' txr_size txr_all txr_one txr0 txr38 txr39 txr0' txr38' txr39' Value.cells
theorem td0_at {w : World} {g : Nat} {U : TypeId} {fr : Nat × Nat} (h : w.heap[g]? = some (.cells (tdr td0) U fr)) : SlAt tdr 54 w (some ⟨g, 0, none⟩) [td0] := SlAt.one h td0 rfl (tdr_size td0)
theorem errors1_c {a : Option Addr} {g v u : Nat} {w : World} (ha : SlAt ern 1 w a [v]) (hg : w.heap[g]? = some (.cells #[.int .i64 (u : Int)] 26 (0, 0))) : Calls Tryz.prog 24 #[.slice a 1 1, .slice (some ⟨g, 0, none⟩) 1 1] w fun e w' => e = .returned (.bool (decide (v = u))) ∧ Mod (fun _ => False) w w' := by
  refine (errors_c a (some ⟨g, 0, none⟩) [v] [u] 1 1 w ha (errC_at (l := [u]) hg) (by simp) (by simp)).mono ?_
  rintro e w' ⟨rfl, hm⟩
  exact ⟨by simp, hm⟩
theorem openL_c (s q n : Nat) (w : World) : Calls Tryz.prog 19 #[ptrV s, ptrV q, ptrV n, .agg #[.int .u64 1000, .int .u64 1000, .int .u64 1000]] w fun e w' => ∃ b t m, e = .returned (.tuple #[ptrV b, .int .i64 0]) ∧ w.heap.size ≤ b ∧ w.heap.size ≤ t ∧ w.heap.size ≤ m ∧ w'.heap[b]? = some (.cells (blkC s q n t false none 0 0 none 0 0 0) 125 (0, 0)) ∧ TrAt w' t m ⟨1000, 1000, 1000⟩ 0 0 [] ∧ Mod (fun _ => False) w w' := open_c s q n ⟨1000, 1000, 1000⟩ w
set_option maxRecDepth 20000 in
set_option maxHeartbeats 3200000 in
theorem lives_c (w : World) : Calls Tryz.prog 5 #[] w fun e w' => e = .returned (.bool true) ∧ Mod (fun _ => False) w w' := by
  go_enter Tryz.func5, Tryz.ntmps5
  go_wp2_with fail
  go_at_call 20
  refine (newS_c _).mono ?_
  rintro e w1 ⟨s, sb, rfl, -, -, -, m1⟩
  go_wp2_with fail
  go_at_call 21
  refine (newQ_c _).mono ?_
  rintro e w2 ⟨q, rfl, -, -, m2⟩
  have m2 := m1.trans m2
  clear m1
  go_wp2_with fail
  go_at_call 22
  refine (newN_c _).mono ?_
  rintro e w3 ⟨n, rfl, -, -, -, m3⟩
  have m3 := m2.trans m3
  clear m2
  go_wp2_with fail
  go_at_call 19
  refine (openL_c s q n _).mono ?_
  rintro e w4 ⟨b, t, m, rfl, hb, -, -, kb, -, m4⟩
  have hb0 := Nat.le_trans m3.size hb
  have m4 := m3.trans m4
  clear m3 hb
  go_wp2_with fail
  go_at_call 23
  refine (ended_c _ kb).mono ?_
  rintro e w5 ⟨rfl, m5⟩
  have kb := m5.at0 kb
  have m5 := m4.trans m5
  clear m4
  go_wp2_with fail
  go_at_call 15
  refine (end_c _ kb).mono ?_
  rintro e w6 ⟨rfl, kb, m6⟩
  have m6 := m5.thenB m6 (.inl hb0)
  clear m5
  go_wp2_with fail
  go_at_call 15
  refine (end2_c _ kb).mono ?_
  rintro e w7 ⟨rfl, m7⟩
  have kb := m7.at0 kb
  have m7 := m6.trans m7
  clear m6
  go_wp2_with fail
  go_at_call 23
  refine (ended_c _ kb).mono ?_
  rintro e w8 ⟨rfl, m8⟩
  have kb := m8.at0 kb
  have m8 := m7.trans m8
  clear m7
  have hmk := mkB8
  go_wp2_with fail
  go_at_call 7
  refine (decode0_c w8.heap.size _ (heap_alloc_new _ _)).mono ?_
  rintro e w9 ⟨rfl, m9⟩
  have m9 := (((Mod.refl (fun _ => False) w8).alloc (.cells zb8 5)).trans m9)
  have kb := m9.at0 kb
  have m9 := m8.trans m9
  clear m8 hmk
  have hbt := bldTd0
  have hbs := bsTd td0
  go_upto_region 5 with fail
  go_wp2_with fail
  go_at_call 16
  refine (recordE_c _ [td0] 1 _ (heap_alloc_old _ _ (lt_size kb) ▸ kb) (td0_at (heap_alloc_new _ _)) (by simp)).mono ?_
  rintro e w10 ⟨g, rfl, hg, hE, m10⟩
  have m10 := ((Mod.refl (fun _ => False) w9).alloc (.cells (tdr td0) 79)).trans m10
  have kb := m10.at0 kb
  have m10 := m9.trans m10
  clear m9 hbt hbs
  have hbe := bsEr 23
  go_wp2_with fail
  go_at_call 24
  refine (errors1_c (v := 23) (u := 23) (hE.mod0 ((Mod.refl _ _).alloc _)) (heap_alloc_new _ _)).mono ?_
  rintro e w11 ⟨rfl, m11⟩
  have m11 := ((Mod.refl (fun _ => False) w10).alloc (.cells #[Value.int IntKind.i64 23] 26)).trans m11
  have kb := m11.at0 kb
  have m11 := m10.trans m11
  clear m10 hbe hE
  go_wp2_with fail
  go_at_call 25
  refine (entries0_c _ kb).mono ?_
  rintro e w12 ⟨⟨a, c, rfl⟩, m12⟩
  have m12 := m11.trans m12
  go_wp2_with fail
  go_ret
  exact ⟨rfl, m12⟩
end Go.Proofs.YtofpnmoeimjnnaaGreat
namespace Go.Proofs.YtofpnmoeimjnnaaGreat
open Go.RowKit
open Go.ChangeMaps (setBlock)
set_option linter.unusedSimpArgs false
set_option linter.unusedVariables false
attribute [local go_sem ↓] wlKey ldKey stKey wlAcct ldAcct stAcct wlHold ldHold stHold wlHash ldHash stHash wlSig ldSig stSig wlLim ldLim stLim wlRdy ldRdy stRdy wlOut ldOut stOut wlTd ldTd stTd wlTx ldTx stTx eqKey1
attribute [local go_sem] eqMap neMap av_size av_all av_one hd_size hd_key hd_acct hd_all hd_one zKey_size zAcct_size zHold_size zHash_size zSg_size zLim_size zRdy_size zOut_size zTried_size zTx_size cell_blk frozen_blk kc_ext one_int one_bool one_ptr one_slice one_map kc_one kc_one0 kc_size sgc_size sgc_ext sgc_one0 sgc_one' rdr_size rdr_all rdr_one rdr_tx rdr_rec rdr0 rdr1 rdr6 rdr39 rdr40 rdr41 rdr0' rdr1' rdr6' rdr39' rdr40' rdr41' ocr_size ocr_all ocr_one ocr2 ocr3 ocr4 ocr5 ocr2' ocr3' ocr4' ocr5' tdr_size tdr_all tdr_one tdr_r tdr_o tdr_tx tdr_rec tdr0 tdr1 tdr41 tdr50 tdr51 tdr52 tdr53 tdr0' tdr1' tdr41' tdr50' tdr51' tdr52' tdr53' txr_size txr_all txr_one txr0 txr38 txr39 txr0' txr38' txr39' Value.cells
attribute [local go_sem ↓] eqHash eqSig eqAcct eqHold wlGnd ldGnd stGnd
attribute [local go_sem] zHash_ext zHash_one0 eqMapS neMapS eqMapU neMapU grc_size grc_all grc_lim grc_one grc0 grc1 grc2 grc3 grc4 grc5 grc0' grc1' grc2' grc3' grc4' grc5'
theorem td_lk {w : World} {x : TdR} (h : TdOk w x) : TdLk w x :=
  ⟨h.1.2.1.2.2.1.1, h.1.2.1.2.2.2.1, reach_small h.1.2.1.2.2.1.2.2.1 (by omega), reach_small h.1.2.1.2.2.2.2.2.1 (by omega), reach_small h.1.1.2.2.1 (by omega)⟩
theorem td_rc {w : World} {x : TdR} (h : TdOk w x) (hs : TdSm x) : RcOk w x :=
  ⟨⟨h.1.2.1.1.1, h.1.2.2.1, h.1.2.1.2.2.1.1, hs.2.1, reach_small h.1.2.1.2.2.1.2.2.1 (by omega), reach_small h.1.2.1.1.2.2.1 (by omega), fun y hy => reach_small (h.1.2.1.2.2.1.2.1 y hy).2.2.2.1 (by omega)⟩, h.2.1, by have := hs.2.2; omega, h.1.1.1⟩
theorem bldAct (a : Option Addr) (n c : Nat) (w : World) : (Instr.build 58 #[(1, .slice a n c)]).run Tryz.prog w = .ok (.agg #[.int .u8 0, .slice a n c]) w := by kernel_rfl
theorem bsAct (a : Option Addr) (n c : Nat) (w : World) : (Instr.buildSlice 59 1 #[(0, .agg #[.int .u8 0, .slice a n c])]).run Tryz.prog w = .ok (.slice (some ⟨w.heap.size, 0, none⟩) 1 1) (w.alloc (.cells #[.int .u8 0, .slice a n c] 58)) := by kernel_rfl
theorem slOk_mod0 {α : Type} {f : α → Array Value} {n B : Nat} {w w' : World} {s : Sl α} (h : SlOk f n B (fun _ _ => True) w s) (hm : Mod (fun _ => False) w w') : SlOk f n B (fun _ _ => True) w' s := ⟨h.1.mod0 hm, fun _ _ => trivial, h.2.2.1, fun y hy => (h.2.2.2.1 y hy).imp (fun q => Nat.lt_of_lt_of_le q hm.size) id, h.2.2.2.2⟩
theorem grOk_mod0 {w w' : World} {g : GrR'} (h : GrOk w g) (hm : Mod (fun _ => False) w w') : GrOk w' g := ⟨slOk_mod0 h.1 hm, slOk_mod0 h.2.1 hm, slOk_mod0 h.2.2 hm⟩
end Go.Proofs.YtofpnmoeimjnnaaGreat
namespace Go.Proofs.YtofpnmoeimjnnaaGreat
open Go.RowKit
open Go.ChangeMaps (setBlock)
set_option linter.unusedSimpArgs false
set_option linter.unusedVariables false
attribute [local go_sem ↓] wlKey ldKey stKey wlAcct ldAcct stAcct wlHold ldHold stHold wlHash ldHash stHash wlSig ldSig stSig wlLim ldLim stLim wlRdy ldRdy stRdy wlOut ldOut stOut wlTd ldTd stTd wlTx ldTx stTx eqKey1
attribute [local go_sem] eqMap neMap av_size av_all av_one hd_size hd_key hd_acct hd_all hd_one zKey_size zAcct_size zHold_size zHash_size zSg_size zLim_size zRdy_size zOut_size zTried_size zTx_size cell_blk frozen_blk kc_ext one_int one_bool one_ptr one_slice one_map kc_one kc_one0 kc_size sgc_size sgc_ext sgc_one0 sgc_one' rdr_size rdr_all rdr_one rdr_tx rdr_rec rdr0 rdr1 rdr6 rdr39 rdr40 rdr41 rdr0' rdr1' rdr6' rdr39' rdr40' rdr41' ocr_size ocr_all ocr_one ocr2 ocr3 ocr4 ocr5 ocr2' ocr3' ocr4' ocr5' tdr_size tdr_all tdr_one tdr_r tdr_o tdr_tx tdr_rec tdr0 tdr1 tdr41 tdr50 tdr51 tdr52 tdr53 tdr0' tdr1' tdr41' tdr50' tdr51' tdr52' tdr53' txr_size txr_all txr_one txr0 txr38 txr39 txr0' txr38' txr39' Value.cells
attribute [local go_sem ↓] eqHash eqSig eqAcct eqHold wlGnd ldGnd stGnd
attribute [local go_sem] zHash_ext zHash_one0 eqMapS neMapS eqMapU neMapU grc_size grc_all grc_lim grc_one grc0 grc1 grc2 grc3 grc4 grc5 grc0' grc1' grc2' grc3' grc4' grc5'
theorem sum_mem {l : List Nat} {x : Nat} (h : x ∈ l) : x ≤ l.sum := by
  induction l with
  | nil => cases h
  | cons y r ih =>
    rw [List.sum_cons]
    rcases List.mem_cons.1 h with rfl | h
    · omega
    · have := ih h
      omega
def OnS (S : BS) (L : List Sg) (n0 : Nat) (e : Bool) (H : List Key) (i : Nat) : Prop := OnI S L n0 ∧ S.en = e ∧ S.H = quL H ∧ S.N.length ≤ 100 + i ∧ S.os.length ≤ i ∧ S.es.length ≤ i ∧ ∀ o ∈ S.os, o.ch.length ≤ 1000000
theorem on_step {S2 S3 : BS} {x : TdR} {vs : List Nat} {ent : List UInt8} {k n0 i en : Nat} {L : List Sg} {H : List Key} (hS : OnS S2 L n0 (decide (en ≤ i)) H i) (hrun : RRun S2 [x] vs ent k S3) (hch : x.o.ch.l.length ≤ 1000000) :
    ∃ n, vs = [n] ∧ (n = 23 ↔ en ≤ i) ∧ (n = 0 → firstS x.r.sg.l ∉ L ∧ x.r.rc ∈ H ∧ OnS (if k = 0 then S3 else { S3 with es := S3.es ++ [leB k.toUInt64 ++ ent] }) (L ++ [firstS x.r.sg.l]) n0 (decide (en < i + 1)) H (i + 1)) ∧ (n = 28 → firstS x.r.sg.l ∈ L) ∧
      (n ≠ 0 → OnS (if k = 0 then S3 else { S3 with es := S3.es ++ [leB k.toUInt64 ++ ent] }) L n0 (decide (en < i + 1)) H (i + 1)) := by
  obtain ⟨n, hvs, hst⟩ : ∃ n, vs = [n] ∧ RStep S2 x n S3 := by
    have h := hrun.steps
    cases h with
    | cons hx' ht =>
      cases ht
      exact ⟨_, rfl, hx'⟩
  obtain ⟨h1, h2, h3, h4⟩ := once_step hS.1 hst
  obtain ⟨_, _, l3, l4, _, l6, l7, l8, _⟩ := hrun.len
  have hos : ∀ o ∈ S3.os, o.ch.length ≤ 1000000 := by
    rcases hst.2 with ⟨_, rfl⟩ | ⟨_, done, _, rfl⟩
    · exact hS.2.2.2.2.2.2
    · intro o ho
      rcases List.mem_append.1 ho with h | h
      · exact hS.2.2.2.2.2.2 o h
      · rw [List.mem_singleton.1 h]
        exact hch
  simp only [List.length_singleton] at l3 l4
  have b1 := hS.2.2.2.1
  have b2 := hS.2.2.2.2.1
  have b3 := hS.2.2.2.2.2.1
  have key : ∀ L', OnI S3 L' n0 → OnS (if k = 0 then S3 else { S3 with es := S3.es ++ [leB k.toUInt64 ++ ent] }) L' n0 (decide (en < i + 1)) H (i + 1) := fun L' hL' => by
    have he : S3.en = decide (en < i + 1) := by rw [l7, hS.2.1, decide_eq_decide]; omega
    have hh : S3.H = quL H := by rw [l8, hS.2.2.1]
    split
    · exact ⟨hL', he, hh, by omega, by omega, by rw [l6]; omega, hos⟩
    · exact ⟨hL', he, hh, by show S3.N.length ≤ _; omega, by show S3.os.length ≤ _; omega, by show (S3.es ++ [_]).length ≤ _; rw [List.length_append, l6, List.length_singleton]; omega, hos⟩
  refine ⟨n, hvs, ?_, fun h => ?_, h3, fun h => key L (h4 h)⟩
  · rw [h1, hS.2.1, decide_eq_true_iff]
  · obtain ⟨g1, g2, g3⟩ := h2 h
    exact ⟨g1, by rw [hS.2.2.1] at g2; exact quL_mem g2, key _ g3⟩
set_option maxRecDepth 20000 in
set_option maxHeartbeats 12800000 in
theorem onceLaw_c (g : GrR') (a : Option Addr) (l : List TdR) (c : Nat) (at_ : UInt8) (w : World) (hok : GrOk w g) (hl : SlAt tdr 54 w a l) (hx : ∀ x ∈ l, TdOk w x) (hn : l.length ≤ 140737488355328) (hc : l.length ≤ c) :
    Calls Tryz.prog 4 #[.agg (grc g), .slice a l.length c, .int .u8 (at_.toNat : Int)] w fun e w' => e = .returned (.bool true) ∧ Mod (fun _ => False) w w' := by
  have HL := Lib.hid (And.intro hl (And.intro hx (And.intro hn hok)))
  clear hl hx hn hok
  obtain ⟨ll, hll⟩ : ∃ ll, l.length = ll := ⟨_, rfl⟩
  have HLL := Lib.hid hll
  have hba := bldAct a ll c
  have hbs := bsAct a ll c
  rw [hll] at hc ⊢
  clear hll
  go_enter Tryz.func4, Tryz.ntmps4
  go_upto_region 0 with fail
  refine wp_pass0 (C := fun _ _ _ => False) (κ := fun i => [3, 0].getD i 0) [0, 1] (by kernel_rfl) (by kernel_rfl) (fun _ _ d _ _ h => by cases d <;> first | exact h | exact absurd h (hP _ _ _)) ?_
  (refine TD.box (v := ?v1) (by simp only [zA, zB, zC]; rfl) rfl ?hw1 rfl rfl ?hx1 (fun p2 hp2 => ?hn1); (case hw1 => rfl); (case hx1 => (simp only [Act.eval, zD, zA, zB, zC, zE]; (try rfl))); (try simp only [Act.put, zF, zG, zH]))
  (refine TD.val0 (v := ?v2) (by simp only [zA, zB, zC]; rfl) rfl ?hw2 (fun w1 => ?hy2) ?hn2; (case hw2 => rfl); (case hy2 => (go_simp; (try with_reducible rfl))); (try simp only [Act.put, zF, zG, zH]))
  refine TD.nil (fun w1 hr => ?_)
  have kp2 := hr.box p2 _ (by first | exact Bx.set_same _ _ _ | (simp only [Bx.set_same]; rfl)); dsimp only [Value.cells] at kp2; obtain ⟨gp2, kp2⟩ := kp2
  have m1 := hr.mod
  clear hr
  go_upto_region 1 with fail
  go_wp2_with fail
  go_at_call 13
  obtain ⟨w2, pA, hpA, kA, m2, e2⟩ : ∃ w2 pA, w1.heap.size = pA ∧ w2.heap[pA]? = some (.cells #[.int .u8 0, .slice a ll c] 58 (0, 0)) ∧ Mod (fun _ => False) w1 w2 ∧ w1.alloc (.cells #[.int .u8 0, .slice a ll c] 58) = w2 := ⟨_, _, rfl, heap_alloc_new _ _, (Mod.refl _ _).alloc _, rfl⟩
  rw [e2, hpA]
  have m12 := m1.trans m2
  refine (great_c g a l c pA w2 (by rw [HLL.out]; exact kA) (HL.out.1.mod0 m12) (fun x hx => (td_lk (HL.out.2.1 x hx)).mod0 m12) HL.out.2.2.1).mono ?_
  rintro e w3 ⟨bz, rfl, hz, m3⟩
  have kp2 := m3.at0 (m2.at0 kp2)
  have mm := m12.trans m3
  clear e2 hpA kA m12 m1 m2 m3 hba hbs
  by_cases hl100 : ll > 100
  · have hd : decide ((ll : Int) > 100) = true := decide_eq_true (by omega)
    clear hz
    cases bz
    · go_upto_region 2 with fail
      go_wp2_with fail
      go_at_call 5
      refine (lives_c _).mono ?_
      rintro e wl ⟨rfl, ml⟩
      go_wp2_with fail
      go_ret
      exact ⟨rfl, mm.trans ml⟩
    · go_upto_region 2 with fail
      go_wp2_with fail
      go_at_call 5
      refine (lives_c _).mono ?_
      rintro e wl ⟨rfl, ml⟩
      go_wp2_with fail
      go_ret
      exact ⟨rfl, mm.trans ml⟩
  have hd : decide ((ll : Int) > 100) = false := decide_eq_false (by omega)
  cases bz
  case true =>
    clear hz
    go_upto_region 2 with fail
    go_wp2_with fail
    go_at_call 5
    refine (lives_c _).mono ?_
    rintro e wl ⟨rfl, ml⟩
    go_wp2_with fail
    go_ret
    exact ⟨rfl, mm.trans ml⟩
  case false =>
  have hz := hz rfl
  have HZ := Lib.hid (And.intro hz.1 (hz.2 (by rw [HLL.out]; omega)))
  clear hz hd
  go_upto_region 3 with fail
  go_wp2_with fail
  go_at_call 14
  have HP2 := Lib.hid (lt_size kp2)
  have KP3 := Lib.hid kp2
  refine (opened_c g _ (grOk_mod0 HL.out.2.2.2 mm) HZ.out.1.1 HZ.out.1.2.1 HZ.out.1.2.2).mono ?_
  rintro e w4 ⟨b, s, r, sb, Tn, Tr, rfl, hbk, hlo, -, m4⟩
  have kp2 := m4.at0 kp2
  have HBK := Lib.hid (And.intro hbk (And.intro hlo (And.intro m4 mm)))
  clear hbk hlo m4 mm
  obtain ⟨en, hen⟩ : ∃ en, at_.toNat % (ll + 1) = en := ⟨_, rfl⟩
  have hat := at_.toNat_lt
  have henl : en ≤ ll := by
    have := Nat.mod_lt at_.toNat (show 0 < ll + 1 by omega)
    omega
  have hwb : IntKind.i64.wrap (at_.toNat : Int) = (at_.toNat : Int) := by
    rw [IntKind.wrap_i64]
    omega
  have hw4 : (at_.toNat : Int).tmod ((ll : Int) + 1) = (en : Int) := by
    rw [Int.tmod_eq_emod_of_nonneg (by omega), ← hen]
    push_cast
    rfl
  clear hen
  go_upto_region 5 with fail
  clear hwb hw4
  have KP2 := Lib.hid kp2
  have HGM : Hid (SlAt sgc 64 w4 g.M.a g.M.l ∧ g.M.l.length ≤ 100) := Lib.hid ⟨HL.out.2.2.2.2.2.1.mod0 (HBK.out.2.2.2.trans HBK.out.2.2.1), HZ.out.1.2.2⟩
  go_wp2_with fail
  go_loopw [11, 12] (fun s11 s12 ws => ∃ (i : Nat) (aH : Option Addr) (cH : Nat), i ≤ g.M.l.length ∧ s12 = .int .i64 (i : Int) ∧ s11 = .slice aH i cH ∧ Hid (SlOwn sgc 64 66 ws 0 (.slice aH i cH) (g.M.l.take i) ∧ ∀ q, (Value.slice aH i cH).ownBlock = some q → w4.heap.size ≤ q) ∧ Hid (Mod (fun _ => False) w4 ws)) (fun _ s12 _ => g.M.l.length - (intOf s12).toNat)
  case atStart => exact ⟨0, none, 0, by omega, rfl, rfl, Lib.hid ⟨by rw [List.take_zero]; exact SlOwn.nil _ _, fun q h => by cases h⟩, Lib.hid (Mod.refl _ _)⟩
  case round =>
    obtain ⟨i, aH, cH, hi, rfl, rfl, HO, HM⟩ := hrel
    have kp2 := HM.out.at0 kp2
    have hnm := HGM.out.2
    by_cases hlt : i < g.M.l.length
    ·
      as_aux_lemma =>
      have hd := decide_eq_true hlt
      obtain ⟨x, hx⟩ : ∃ x, g.M.l[i]? = some x := ⟨_, List.getElem?_eq_getElem hlt⟩
      obtain ⟨gg, o, C, U, fr, hga, kg, he, hle⟩ := sig_at (HGM.out.1.mod0 HM.out) hx
      have HX : Hid (g.M.l.take (i + 1) = g.M.l.take i ++ [x]) := Lib.hid (by rw [List.take_add_one, hx]; rfl)
      have HTL : Hid ((g.M.l.take i).length = i) := Lib.hid (by rw [List.length_take]; omega)
      obtain ⟨W, hW⟩ : ∃ W : Nat → Prop, (fun q => (Value.slice aH i cH).ownBlock = some q) = W := ⟨_, rfl⟩
      have HKK : Hid (OwnL sgc 64 66 0 (g.M.l.take i) (.slice aH i cH) W wr) := Lib.hid ⟨HO.out.1, fun q hq => by rw [← hW]; exact hq⟩
      have hWT : ∀ j, W j → j < wr.heap.size := by
        rw [← hW]
        intro j hj
        exact (HO.out.1.lt j hj).2
      have hWw : Hid (∀ j, W j → w4.heap.size ≤ j) := Lib.hid (by
        rw [← hW]
        intro j hj
        exact HO.out.2 j hj)
      have hlen : (g.M.l.take i).length + 1 ≤ 1000000 := by rw [HTL.out]; omega
      have nWp : ¬ W p2 := fun h => by
        have h1 := hWw.out p2 h
        have h2 := lt_size KP2.out
        omega
      have nWg : ¬ W gg := fun h => by
        have h1 := hWw.out gg h
        have h3 := SlAt.block HGM.out.1 hx
        obtain ⟨g', o', _, _, _, e2, hk, _⟩ := h3
        rw [hga] at e2
        cases e2
        have := lt_size hk
        omega
      clear hW hx
      go_upto_region 9 with fail
      have Lkp2 := lt_size kp2
      have Lkg := lt_size kg
      refine wp_gpass0 (T0 := W) (K := OwnL sgc 64 66 0 (g.M.l.take i) (.slice aH i cH)) (κ := fun i => [0, 0, 0, 0, 0, 0, 3, 6, 0].getD i 0) (υ := fun i => [[], [], [], [], [], [], [], [56], []].getD i []) [0, 1, 2, 3, 4, 5, 6, 7, 8] (by kernel_rfl) (by kernel_rfl) (goodOL sgc 64 66 0 (g.M.l.take i) (.slice aH i cH)).cl (HKK.out) (hWT) ?_
      have gK := goodOL sgc 64 66 0 (g.M.l.take i) (.slice aH i cH)
      (refine TG.v0 (v := ?v3) (by simp only [zA, zB, zC]; rfl) rfl ?hw3 (fun w1 => ?hy3) ?hn3; (case hw3 => rfl); (case hy3 => (go_simp; (try with_reducible rfl))); (try simp only [Act.put, zF, zG, zH]))
      (refine TG.v0 (v := ?v4) (by simp only [zA, zB, zC]; rfl) rfl ?hw4 (fun w1 => ?hy4) ?hn4; (case hw4 => rfl); (case hy4 => (go_simp; (try with_reducible rfl))); (try simp only [Act.put, zF, zG, zH]))
      (refine TG.load (v := ?v5) (p := ?p5) (by simp only [zA, zB, zC]; rfl) rfl ?hw5 rfl ?hx5 (fun wq hSq => ?hy5) ?hn5; (case hw5 => rfl); (case hx5 => (simp only [Act.eval, zD, zA, zB, zC, zE]; (try rfl))); (case hy5 => (have kp2q := hSq.at kp2 (by intro hT; first | exact hT | exact absurd hT (by assumption) | omega | (simp only at hT; omega)); have kgq := hSq.at kg (by intro hT; first | exact hT | exact absurd hT (by assumption) | omega | (simp only at hT; omega)); go_simp; (try with_reducible rfl))); (try simp only [Act.put, zF, zG, zH]))
      (refine TG.v0 (v := ?v6) (by simp only [zA, zB, zC]; rfl) rfl ?hw6 (fun w1 => ?hy6) ?hn6; (case hw6 => rfl); (case hy6 => (go_simp; (try with_reducible rfl))); (try simp only [Act.put, zF, zG, zH]))
      (refine TG.v0 (v := ?v7) (by simp only [zA, zB, zC]; rfl) rfl ?hw7 (fun w1 => ?hy7) ?hn7; (case hw7 => rfl); (case hy7 => (go_simp; (try with_reducible rfl))); (try simp only [Act.put, zF, zG, zH]))
      (refine TG.load (v := ?v8) (p := ?p8) (by simp only [zA, zB, zC]; rfl) rfl ?hw8 rfl ?hx8 (fun wq hSq => ?hy8) ?hn8; (case hw8 => rfl); (case hx8 => (simp only [Act.eval, zD, zA, zB, zC, zE]; (try rfl))); (case hy8 => (have kp2q := hSq.at kp2 (by intro hT; first | exact hT | exact absurd hT (by assumption) | omega | (simp only at hT; omega)); have kgq := hSq.at kg (by intro hT; first | exact hT | exact absurd hT (by assumption) | omega | (simp only at hT; omega)); go_simp; (try with_reducible rfl))); (try simp only [Act.put, zF, zG, zH]))
      (refine TG.bslice (by simp only [zA, zB, zC]; rfl) rfl ?hw9 rfl rfl ?hx9 (bsSig x) (fun p56 hp56 _ => ?hn9); (case hw9 => rfl); (case hx9 => (simp only [List.map_toArray, List.map_cons, List.map_nil, Act.eval, zD, zA, zB, zC, zE]; (try rfl))); (try simp only [Act.put, zF, zG, zH]))
      (refine TG.appK (X := ?X10) (Y := ?Y10) (OwnL sgc 64 66 0 (g.M.l.take i ++ [x])) (goodOL sgc 64 66 0 (g.M.l.take i ++ [x])) (by simp only [zA, zB, zC]; rfl) rfl ?hw10 rfl ?hx10 ?hz10 (fun T wq kq ltq hSq ub => ?hy10) ?hn10; (case hw10 => rfl); (case hx10 => (simp only [Act.eval, zD, zA, zB, zC, zE]; (try rfl))); (case hz10 => (simp only [Act.eval, zD, zA, zB, zC, zE]; (try rfl))); (case hy10 => (have kp2q := hSq.at kp2 (by intro hT; first | exact hT | exact absurd hT (by assumption) | omega | (simp only at hT; omega)); have kgq := hSq.at kg (by intro hT; first | exact hT | exact absurd hT (by assumption) | omega | (simp only at hT; omega)); have kp56 := ub.box (p := p56) (by first | exact Bx.set_same _ _ _ | (simp only [Bx.set_same]; rfl)) (by first | decide | exact List.mem_singleton.2 rfl | simp); dsimp only [Value.cells] at kp56; have nUp56 := (ub p56 _ (by first | exact Bx.set_same _ _ _ | (simp only [Bx.set_same]; rfl)) (by first | decide | exact List.mem_singleton.2 rfl | simp)).1; exact app_sig kq kp56 hlen _)); rintro v10 ⟨wI, TI, hI⟩; replace gK := (goodOL sgc 64 66 0 (g.M.l.take i ++ [x])) v10; skip; (try clear hI TI wI); (try simp only [Act.put, zF, zG, zH]))
      (refine TG.v0 (v := ?v11) (by simp only [zA, zB, zC]; rfl) rfl ?hw11 (fun w1 => ?hy11) ?hn11; (case hw11 => rfl); (case hy11 => (go_simp; (try with_reducible rfl))); (try simp only [Act.put, zF, zG, zH]))
      refine TG.nil (fun w5 ⟨TR, hr⟩ => ?_)
      replace kp2 := hr.mod.at kp2 (by intro hT; first | exact hT | exact absurd hT (by assumption) | omega | (simp only at hT; omega))
      replace kg := hr.mod.at kg (by intro hT; first | exact hT | exact absurd hT (by assumption) | omega | (simp only at hT; omega))
      have kp56 := hr.box p56 _ (by first | exact Bx.set_same _ _ _ | (simp only [Bx.set_same]; rfl)); dsimp only [Value.cells] at kp56; obtain ⟨gp56, nTp56, kp56⟩ := kp56
      clear gK
      have hOL := hr.k
      obtain ⟨a3, c3, rfl, -⟩ := hOL.1.at sgT
      have hlo : (g.M.l.take i ++ [x]).length = i + 1 := by rw [List.length_append, HTL.out]; rfl
      have HN : Hid (SlOwn sgc 64 66 w5 0 (.slice a3 (i + 1) c3) (g.M.l.take (i + 1)) ∧ ∀ q, (Value.slice a3 (i + 1) c3).ownBlock = some q → w4.heap.size ≤ q) := Lib.hid ⟨by rw [HX.out, ← hlo]; exact hOL.1, fun q hg => by
        by_cases h : q < wr.heap.size
        · exact hWw.out q (hr.old q h (hOL.2 q (by rw [hlo]; exact hg)))
        · have := HM.out.size
          omega⟩
      have HM5 := Lib.hid (HM.out.then hr.mod (fun j hj h => by have := hWw.out j h; omega))
      rw [hlo]
      clear hr hOL hlo hWT hlen nWp nWg
      go_wp2_with fail
      go_roundw
      case rel => exact ⟨i + 1, a3, c3, by omega, by go_num, rfl, HN, HM5⟩
      case measure => simp [intOf]; omega
    · have hd := decide_eq_false hlt
      obtain rfl : i = g.M.l.length := by omega
      rw [List.take_length] at HO
      have HML : Hid (OnS ⟨false, quL g.H.l, seL g.M.l, g.lim, 0, 0, [], [], [], 0⟩ g.M.l g.M.l.length false g.H.l 0 ∧ SlAt tdr 54 w3 a l ∧ ∀ x ∈ l, RcOk w3 x) := Lib.hid ⟨⟨⟨fun s => seL_has s _, by simp⟩, rfl, rfl, by
        have := seL_len g.M.l
        have := HGM.out.2
        show (seL g.M.l).length ≤ 100 + 0
        omega, Nat.le_refl _, Nat.le_refl _, fun o ho => by cases ho⟩, HL.out.1.mod0 HBK.out.2.2.2, fun x hx => (td_rc (HL.out.2.1 x hx) (HZ.out.2.1 x hx)).mod0 HBK.out.2.2.2⟩
      have HB0 : Hid (BkAt Tn Tr wr b s ⟨false, quL g.H.l, seL g.M.l, g.lim, 0, 0, [], [], [], 0⟩ ∧ (∀ j, Tn j ∨ Tr j → w3.heap.size ≤ j ∧ j < wr.heap.size)) := Lib.hid ⟨HBK.out.1.mod0 HM.out, fun j hj => ⟨(HBK.out.2.1 j hj).1, Nat.lt_of_lt_of_le (HBK.out.2.1 j hj).2 HM.out.size⟩⟩
      have HO0 : Hid (SlOwn sgc 64 66 wr 0 (.slice aH g.M.l.length cH) g.M.l ∧ ∀ q, (Value.slice aH g.M.l.length cH).ownBlock = some q → w3.heap.size ≤ q ∧ ¬ (Tn q ∨ Tr q)) := Lib.hid ⟨HO.out.1, fun q hq => ⟨Nat.le_trans HBK.out.2.2.1.size (HO.out.2 q hq), fun h => by
        have h1 := (HBK.out.2.1 q h).2
        have h2 := HO.out.2 q hq
        omega⟩⟩
      have HW3 := Lib.hid (HBK.out.2.2.1.trans HM.out)
      have KP4 : Hid (∀ wq, Mod (fun _ => False) w3 wq → wq.heap[p2]? = some (.cells (grc g) 54 (0, 0))) := Lib.hid fun wq hq => hq.at0 (KP3.out)
      clear HO HM hnm
      go_wp2_with fail
      clear kp2
      go_loopw [11, 13] (fun s11 s13 ws => ∃ (i : Nat) (L : List Sg) (S : BS) (Tn Tr : Nat → Prop) (aH : Option Addr) (nH cH : Nat), i ≤ ll ∧ s13 = .int .i64 (i : Int) ∧ s11 = .slice aH nH cH ∧ nH ≤ 100 + i ∧ Hid (L.length = nH) ∧ Hid (SlOwn sgc 64 66 ws 0 (.slice aH nH cH) L ∧ ∀ q, (Value.slice aH nH cH).ownBlock = some q → w3.heap.size ≤ q ∧ ¬ (Tn q ∨ Tr q)) ∧ Hid (BkAt Tn Tr ws b s S ∧ (∀ j, Tn j ∨ Tr j → w3.heap.size ≤ j ∧ j < ws.heap.size)) ∧ Hid (OnS S L g.M.l.length (decide (en < i)) g.H.l i) ∧ Hid (Mod (fun _ => False) w3 ws)) (fun _ s13 _ => ll - (intOf s13).toNat)
      case atStart => exact ⟨0, g.M.l, _, Tn, Tr, aH, _, cH, by omega, rfl, rfl, by have := HGM.out.2; omega, Lib.hid rfl, HO0, HB0, Lib.hid HML.out.1, HW3⟩
      case round =>
        obtain ⟨i, L, S, Tn, Tr, aH, nH, cH, hi, rfl, rfl, hnH, HLn, HO, HB, HS, HM⟩ := hrel
        have kp2 := KP4.out _ HM.out
        by_cases hlt : i < ll
        · have hdl := decide_eq_true hlt
          go_upto_region 13 with fail
          go_cut [71] from 58 to 167 (fun s71 wx => s71 = .bool false ∧ ∃ S2 : BS, Hid (SlOwn sgc 64 66 wx 0 (.slice aH nH cH) L) ∧ Hid (BkAt Tn Tr wx b s S2 ∧ (∀ j, Tn j ∨ Tr j → w3.heap.size ≤ j ∧ j < wx.heap.size)) ∧ Hid (OnS S2 L g.M.l.length (decide (en ≤ i)) g.H.l i) ∧ Hid (Mod (fun _ => False) w3 wx))
          case first =>
            as_aux_lemma =>
            by_cases hie : i = en
            · have hde : ((i : Int) == (en : Int)) = true := by rw [beq_iff_eq]; omega
              have HSE : Hid (S.en = false) := Lib.hid (by rw [HS.out.2.1]; exact decide_eq_false (by omega))
              have HIE : Hid (decide (en ≤ i) = true) := Lib.hid (decide_eq_true (by omega))
              clear hie
              go_wp2_with fail
              go_at_call 15
              refine (bend_c _ HB.out.1 HSE.out).mono ?_
              rintro e w5 ⟨rfl, hbk5, m5⟩
              have HB5 := Lib.hid (And.intro hbk5 m5)
              clear hbk5 m5
              go_wp2_with fail
              go_meet
              case rel => exact ⟨rfl, { S with en := true }, Lib.hid (HO.out.1.mod HB5.out.2 (fun q hq e => by
                  obtain ⟨q1, n1, t1, m1, ea1, en1, ec1, oa1, on1, oc1, er1, or1, kb, _⟩ := HB.out.1
                  exact ownE_ne HO.out.1 kb (by decide) q hq e)), Lib.hid ⟨HB5.out.1, fun j hj => ⟨(HB.out.2 j hj).1, Nat.lt_of_lt_of_le (HB.out.2 j hj).2 HB5.out.2.size⟩⟩, Lib.hid ⟨HS.out.1, HIE.out.symm, HS.out.2.2⟩, Lib.hid (HM.out.then HB5.out.2 (fun j hj e => by
                  obtain ⟨q1, n1, t1, m1, ea1, en1, ec1, oa1, on1, oc1, er1, or1, kb, _, _, _, ht, _⟩ := HB.out.1
                  have := (HB.out.2 b (.inr ht.1)).1
                  omega))⟩
            · have hde : ((i : Int) == (en : Int)) = false := by rw [beq_eq_false_iff_ne]; omega
              have HIE : Hid (decide (en ≤ i) = decide (en < i)) := Lib.hid (by rw [decide_eq_decide]; omega)
              clear hie
              go_wp2_with fail
              go_meet
              case rel => exact ⟨rfl, S, Lib.hid HO.out.1, Lib.hid HB.out, Lib.hid ⟨HS.out.1, by rw [HIE.out]; exact HS.out.2.1, HS.out.2.2⟩, Lib.hid HM.out⟩
          case rest =>
          obtain ⟨rfl, S2, HO2, HB2, HS2, HM2⟩ := hcut
          obtain ⟨w5, rfl⟩ : ∃ w5 : World, w5 = wc := ⟨_, rfl⟩
          have kp2 := KP4.out _ HM2.out
          obtain ⟨x, hx⟩ : ∃ x, l[i]? = some x := ⟨_, List.getElem?_eq_getElem (by rw [HLL.out]; exact hlt)⟩
          obtain ⟨gg, o, C, U, fr, rfl, kl3, he, hle⟩ := td_at HML.out.2.1 hx
          have hsl : ∀ w2, (Instr.sliceAt 55 (.slice (some ⟨gg, o, none⟩) ll c) (some (.int .i64 (i : Int))) (some (.int .i64 ((i : Int) + 1))) none).run Tryz.prog w2 = .ok (.slice (some ⟨gg, o + i * 54, none⟩) 1 (c - i)) w2 := fun w2 => by
            have h := sl_sub (P := Tryz.prog) tdT (g := gg) (o := o) (cap := c) (len := ll) (k := i) (m := i + 1) (by omega) (by omega) w2
            rw [show i + 1 - i = 1 by omega] at h
            exact h
          have hxm := List.mem_of_getElem? hx
          have HSX : Hid (SlAt tdr 54 w3 (some ⟨gg, o + i * 54, none⟩) [x]) := Lib.hid (.inr ⟨gg, o + i * 54, C, U, fr, rfl, kl3, fun j y hj => by
            cases j with
            | zero =>
              cases hj
              simpa using And.intro he hle
            | succ j => cases hj⟩)
          have HXS : Hid (TdSm x ∧ RcOk w3 x ∧ x.r.b.l.length ≤ 900000) := Lib.hid ⟨HZ.out.2.1 x hxm, HML.out.2.2 x hxm, by
            have h1 : wtT x ≤ (l.map wtT).sum := sum_mem (List.mem_map_of_mem hxm)
            have h2 := HZ.out.2.2
            have h3 : x.r.b.l.length / 50 ≤ wtT x := by unfold wtT; omega
            omega⟩
          have HREC : Hid (Calls Tryz.prog 16 #[ptrV b, .slice (some ⟨gg, o + i * 54, none⟩) 1 (c - i)] w5 fun e w' => RecP Tn Tr b s S2 [x] w5 e w') := Lib.hid (record_c (S := S2) (some ⟨gg, o + i * 54, none⟩) [x] (c - i) w3 w5 HB2.out.1 HSX.out (fun y hy => by rw [List.mem_singleton.1 hy]; exact HXS.out.2.1) HM2.out HB2.out.2 (by
            have := HS2.out.2.2.2.1
            simp only [List.length_singleton]
            omega) (by
            have := HS2.out.2.2.2.2.1
            simp only [List.length_singleton]
            omega) (by
            have := HXS.out.2.2
            simpa using this) (by
            have := HS2.out.2.2.2.2.2.1
            omega) (by simp))
          have HE : Hid (C.extract (o + i * 54) (o + i * 54 + 54) = tdr x) := Lib.hid he
          have HXI := Lib.hid hx
          have KL3 := Lib.hid kl3
          clear he hx hxm kl3
          go_upto_region 15 with fail
          go_wp2_with fail
          go_at_call 16
          refine HREC.out.mono ?_
          rintro e w6 ⟨gv, vs, S3, ent, k, Tn1, Tr1, rfl, hgv, kv, hrun, hbk1, hb1, m5⟩
          obtain ⟨n, rfl, h23, h0, h28, hne⟩ := on_step HS2.out hrun (by have := HXS.out.1.2.2; omega)
          obtain ⟨S4, hS4⟩ : ∃ S4, (if k = 0 then S3 else { S3 with es := S3.es ++ [leB k.toUInt64 ++ ent] }) = S4 := ⟨_, rfl⟩
          rw [hS4] at hbk1 h0 hne
          have HON := Lib.hid (And.intro h0 (And.intro h28 hne))
          have HB4 : Hid (BkAt Tn1 Tr1 w6 b s S4 ∧ (∀ j, Tn1 j ∨ Tr1 j → w3.heap.size ≤ j ∧ j < w6.heap.size)) := Lib.hid ⟨hbk1, fun j hj => ⟨by
            have h1 := (hb1 j hj).2.1
            have h2 := HM2.out.size
            rcases h1 with h1 | h1 | h1
            · exact (HB2.out.2 j (.inl h1)).1
            · exact (HB2.out.2 j (.inr h1)).1
            · omega, (hb1 j hj).2.2⟩⟩
          have HO4 : Hid (SlOwn sgc 64 66 w6 0 (.slice aH nH cH) L ∧ ∀ q, (Value.slice aH nH cH).ownBlock = some q → w3.heap.size ≤ q ∧ ¬ (Tn1 q ∨ Tr1 q)) := Lib.hid ⟨HO2.out.mod m5 (fun q hq h => (HO.out.2 q hq).2 h), fun q hq => ⟨(HO.out.2 q hq).1, fun h => by
            have h1 := (hb1 q h).2.1
            have h2 := (HO.out.2 q hq).2
            have h3 := (HO2.out.lt q hq).2
            rcases h1 with h1 | h1 | h1
            · exact h2 (.inl h1)
            · exact h2 (.inr h1)
            · omega⟩⟩
          have HM4 : Hid (Mod (fun _ => False) w3 w6) := Lib.hid (HM2.out.then m5 (fun j hj e => by
            have := (HB2.out.2 j e).1
            omega))
          obtain ⟨z, hz⟩ : ∃ z, decide (en ≤ i) = z := ⟨_, rfl⟩
          have hz1 : ((n : Int) == 23) = z := by
            rw [← hz]
            by_cases h : en ≤ i
            · rw [decide_eq_true h, beq_iff_eq]
              have := h23.2 h
              omega
            · rw [decide_eq_false h, beq_eq_false_iff_ne]
              intro h'
              exact h (h23.1 (by omega))
          have hz2 : decide ((en : Int) ≤ (i : Int)) = z := by rw [← hz, decide_eq_decide]; omega
          have hz3 : (z != z) = false := by simp
          have hz4 : decide ((i : Int) ≥ (en : Int)) = z := hz2
          obtain ⟨Cv, hCv⟩ : ∃ Cv, errC [n] = Cv := ⟨_, rfl⟩
          have hv0 : Cv[0]? = some (.int .i64 (n : Int)) := by rw [← hCv]; exact errC_get rfl
          have hvs : Cv.size = 1 := by rw [← hCv, errC_size]; rfl
          have hv1 : ∀ h, Cv[0]'h = .int .i64 (n : Int) := fun h => by
            rw [Array.getElem?_eq_getElem h] at hv0
            exact Option.some.inj hv0
          rw [hCv] at kv
          clear hrun hbk1 hb1 m5 hgv h23 h0 h28 hne hS4 hCv HREC hsl
          go_upto_region 18 with fail
          clear hz hz1 hz2 hz3 hz4 kp2
          have kl := HM4.out.at0 KL3.out
          have het : C.extract (o + i * 54 + 1) (o + i * 54 + 1 + 40) = txr x.r := by
            rw [← tdr_tx, ← HE.out, Array.extract_extract]
            congr 1
            omega
          have hes : o + i * 54 + 1 + 40 ≤ C.size := by omega
          have Lkl := lt_size kl
          have Lkv := lt_size kv
          refine wp_gpass0 (T0 := fun _ => False) (K := fun _ _ => True) (κ := fun i => [0, 0, 0, 0, 0, 0, 6, 3, 4].getD i 0) (υ := fun i => [[], [], [], [], [], [], [], [], []].getD i []) [0, 1, 2, 3, 4, 5, 6, 7, 8] (by kernel_rfl) (by kernel_rfl) (Good.true).cl (trivial) (fun _ h => h.elim) ?_
          have gK := Good.true
          (refine TG.v0 (v := ?v12) (by simp only [zA, zB, zC]; rfl) rfl ?hw12 (fun w1 => ?hy12) ?hn12; (case hw12 => rfl); (case hy12 => (go_simp; (try with_reducible rfl))); (try simp only [Act.put, zF, zG, zH]))
          (refine TG.v0 (v := ?v13) (by simp only [zA, zB, zC]; rfl) rfl ?hw13 (fun w1 => ?hy13) ?hn13; (case hw13 => rfl); (case hy13 => (go_simp; (try with_reducible rfl))); (try simp only [Act.put, zF, zG, zH]))
          (refine TG.v0 (v := ?v14) (by simp only [zA, zB, zC]; rfl) rfl ?hw14 (fun w1 => ?hy14) ?hn14; (case hw14 => rfl); (case hy14 => (go_simp; (try with_reducible rfl))); (try simp only [Act.put, zF, zG, zH]))
          (refine TG.v0 (v := ?v15) (by simp only [zA, zB, zC]; rfl) rfl ?hw15 (fun w1 => ?hy15) ?hn15; (case hw15 => rfl); (case hy15 => (go_simp; (try with_reducible rfl))); (try simp only [Act.put, zF, zG, zH]))
          (refine TG.v0 (v := ?v16) (by simp only [zA, zB, zC]; rfl) rfl ?hw16 (fun w1 => ?hy16) ?hn16; (case hw16 => rfl); (case hy16 => (go_simp; (try with_reducible rfl))); (try simp only [Act.put, zF, zG, zH]))
          (refine TG.load (v := ?v17) (p := ?p17) (by simp only [zA, zB, zC]; rfl) rfl ?hw17 rfl ?hx17 (fun wq hSq => ?hy17) ?hn17; (case hw17 => rfl); (case hx17 => (simp only [Act.eval, zD, zA, zB, zC, zE]; (try rfl))); (case hy17 => (have klq := hSq.at kl (by intro hT; first | exact hT | exact absurd hT (by assumption) | omega | (simp only at hT; omega)); have kvq := hSq.at kv (by intro hT; first | exact hT | exact absurd hT (by assumption) | omega | (simp only at hT; omega)); go_simp; (try with_reducible rfl))); (try simp only [Act.put, zF, zG, zH]))
          (refine TG.callN (f := ?f18) (args := ?r18) (fun v => v = .agg (sgc (firstS x.r.sg.l))) gK (by simp only [zA, zB, zC]; rfl) rfl ?hw18 (fun w1 => ?hy18) (fun T wq kq ltq hSq ub => ?hsp18) ?hn18; (case hw18 => rfl); (case hy18 => (go_simp; (first | with_reducible rfl | (constructor <;> with_reducible rfl)))); (case hsp18 => (have klq := hSq.at kl (by intro hT; first | exact hT | exact absurd hT (by assumption) | omega | (simp only at hT; omega)); have kvq := hSq.at kv (by intro hT; first | exact hT | exact absurd hT (by assumption) | omega | (simp only at hT; omega)); exact (lfirst_c x.r wq (HXS.out.2.1.1.1.mod0 (HM4.out.trans hSq))).mono (fun e w' h => ⟨_, h.1, rfl, h.2⟩))); rintro v18 hC; subst hC; (try simp only [Act.put, zF, zG, zH]))
          (refine TG.allocB (by simp only [zA, zB, zC]; rfl) rfl ?hw19 rfl rfl alSig (fun p15 hp15 _ => ?hn19); (case hw19 => rfl); (try simp only [Act.put, zF, zG, zH]))
          (refine TG.storeB (d := ?d20) (T := ?T20) (y := ?y20) (p := ?p20) (b := ?b20) (v := ?v20) (by simp only [zA, zB, zC]; rfl) rfl ?hw20 ?hd20 ?hop20 ?hev20 ?hx20 ?hb20 ?htag20 (fun w1 hb1 => ?hy20) ?hn20; (case hw20 => rfl); (case hd20 => rfl); (case hop20 => rfl); (case hev20 => (simp only [Act.eval, zD, zA, zB, zC, zE]; (try rfl))); (case hx20 => (simp only [Act.eval, zD, zA, zB, zC, zE]; (try rfl))); (case hb20 => first | exact Bx.set_same _ _ _ | (simp only [Bx.set_same]; rfl)); (case htag20 => rfl); (case hy20 => (go_simp; (try first | with_reducible rfl | (rw [setCell_blk hb1]; rfl)))); (try simp only [Act.put, zF, zG, zH]))
          refine TG.nil (fun w9 ⟨TR, hr⟩ => ?_)
          replace kl := hr.mod.at kl (by intro hT; first | exact hT | exact absurd hT (by assumption) | omega | (simp only at hT; omega))
          replace kv := hr.mod.at kv (by intro hT; first | exact hT | exact absurd hT (by assumption) | omega | (simp only at hT; omega))
          have kp15 := hr.box p15 _ (by first | exact Bx.set_same _ _ _ | (simp only [Bx.set_same]; rfl)); dsimp only [Value.cells] at kp15; obtain ⟨gp15, nTp15, kp15⟩ := kp15
          clear gK
          have hm9 := hr.mod
          have HM9 := Lib.hid (HM4.out.then0 hm9)
          have HO9 := Lib.hid (HO4.out.1.mod0 hm9)
          have HB9 := Lib.hid (HB4.out.1.mod0 hm9)
          have HR9 := Lib.hid hm9
          obtain ⟨f, hf⟩ : ∃ f, firstS x.r.sg.l = f := ⟨_, rfl⟩
          rw [hf] at HON
          rw [hf] at kp15
          have HSA : Hid (SlAt sgc 64 w9 aH L) := Lib.hid (by
            obtain ⟨a7, c7, e7, h7, _⟩ := HO9.out.at sgT
            injection e7 with e8 _ _
            rw [e8]
            exact h7)
          have K9 := Lib.hid (And.intro kp15 (And.intro kv kl))
          have GP15 := Lib.hid gp15
          clear hr hm9 het hes kv kl hf kp15
          go_wp2_with fail
          go_loopw [16, 17] (fun s16 s17 wx => ∃ j : Nat, j ≤ nH ∧ s17 = .int .i64 (j : Int) ∧ s16 = .bool ((L.take j).any (fun q => decide (q = f))) ∧ Hid (Mod (fun _ => False) w9 wx)) (fun _ s17 _ => nH - (intOf s17).toNat)
          case atStart => exact ⟨0, by omega, rfl, by simp, Lib.hid (Mod.refl _ _)⟩
          case round =>
            obtain ⟨j, hj, rfl, rfl, HJ⟩ := hrel
            by_cases hjl : j < nH
            ·
              as_aux_lemma =>
              have kp15 := HJ.out.at0 K9.out.1
              have hjd := decide_eq_true hjl
              obtain ⟨y, hy⟩ : ∃ y, L[j]? = some y := ⟨_, List.getElem?_eq_getElem (by rw [HLn.out]; exact hjl)⟩
              obtain ⟨g8, o8, C8, U8, fr8, rfl, k8, he8, hle8⟩ := sig_at (HSA.out.mod0 HJ.out) hy
              have HTK : Hid (L.take (j + 1) = L.take j ++ [y]) := Lib.hid (by rw [List.take_add_one, hy]; rfl)
              clear hy
              obtain ⟨zt, hzt⟩ : ∃ zt, (L.take j).any (fun q => decide (q = f)) = zt := ⟨_, rfl⟩
              rw [hzt]
              have HZT : Hid ((L.take (j + 1)).any (fun q => decide (q = f)) = (zt || decide (y = f))) := Lib.hid (by rw [HTK.out, List.any_append, hzt]; simp)
              clear hzt
              cases zt with
              | true =>
                go_upto_region 23 with fail
                have Lkp15 := lt_size kp15
                refine wp_pass (C := fun _ _ _ => False) (κ := fun i => [0, 0, 0, 0, 0, 1, 1, 0, 0, 0].getD i 0) [0, 1, 2, 3, 4, 5, 6, 7, 8, 9] (by kernel_rfl) (by kernel_rfl) (fun _ _ d _ _ h => by cases d <;> first | exact h | exact absurd h (hP _ _ _)) ?_
                (refine TD.val0 (v := ?v21) (by simp only [zA, zB, zC]; rfl) rfl ?hw21 (fun w1 => ?hy21) ?hn21; (case hw21 => rfl); (case hy21 => (go_simp; (try with_reducible rfl))); (try simp only [Act.put, zF, zG, zH]))
                (refine TD.val0 (v := ?v22) (by simp only [zA, zB, zC]; rfl) rfl ?hw22 (fun w1 => ?hy22) ?hn22; (case hw22 => rfl); (case hy22 => (go_simp; (try with_reducible rfl))); (try simp only [Act.put, zF, zG, zH]))
                (refine TD.pass (by simp only [zA, zB, zC]; rfl) rfl ?hw23 ?hn23; (case hw23 => rfl); (try simp only [Act.put, zF, zG, zH]))
                (refine TD.pass (by simp only [zA, zB, zC]; rfl) rfl ?hw24 ?hn24; (case hw24 => rfl); (try simp only [Act.put, zF, zG, zH]))
                (refine TD.pass (by simp only [zA, zB, zC]; rfl) rfl ?hw25 ?hn25; (case hw25 => rfl); (try simp only [Act.put, zF, zG, zH]))
                (refine TD.pass1 (by simp only [zA, zB, zC]; rfl) rfl ?hw26 ?hn26; (case hw26 => rfl); (try simp only [Act.put, zF, zG, zH]))
                (refine TD.pass1 (by simp only [zA, zB, zC]; rfl) rfl ?hw27 ?hn27; (case hw27 => rfl); (try simp only [Act.put, zF, zG, zH]))
                (refine TD.pass (by simp only [zA, zB, zC]; rfl) rfl ?hw28 ?hn28; (case hw28 => rfl); (try simp only [Act.put, zF, zG, zH]))
                (refine TD.val0 (v := ?v29) (by simp only [zA, zB, zC]; rfl) rfl ?hw29 (fun w1 => ?hy29) ?hn29; (case hw29 => rfl); (case hy29 => (go_simp; (try with_reducible rfl))); (try simp only [Act.put, zF, zG, zH]))
                (refine TD.val0 (v := ?v30) (by simp only [zA, zB, zC]; rfl) rfl ?hw30 (fun w1 => ?hy30) ?hn30; (case hw30 => rfl); (case hy30 => (go_simp; (try with_reducible rfl))); (try simp only [Act.put, zF, zG, zH]))
                refine TD.nil (fun w10 hr => ?_)
                replace kp15 := hr.mod.at kp15 (fun h => h)
                have m10 := hr.mod
                clear hr
                go_wp2_with fail
                go_roundw
                case rel => exact ⟨j + 1, by omega, by go_num, by rw [HZT.out]; rfl, Lib.hid (HJ.out.then0 m10)⟩
                case measure => simp [intOf]; omega
              | false =>
                go_upto_region 23 with fail
                have Lk8 := lt_size k8
                have Lkp15 := lt_size kp15
                refine wp_pass (C := fun _ _ _ => False) (κ := fun i => [0, 0, 0, 0, 0, 1, 1, 0, 0, 0].getD i 0) [0, 1, 2, 3, 4, 5, 6, 7, 8, 9] (by kernel_rfl) (by kernel_rfl) (fun _ _ d _ _ h => by cases d <;> first | exact h | exact absurd h (hP _ _ _)) ?_
                (refine TD.val0 (v := ?v31) (by simp only [zA, zB, zC]; rfl) rfl ?hw31 (fun w1 => ?hy31) ?hn31; (case hw31 => rfl); (case hy31 => (go_simp; (try with_reducible rfl))); (try simp only [Act.put, zF, zG, zH]))
                (refine TD.val0 (v := ?v32) (by simp only [zA, zB, zC]; rfl) rfl ?hw32 (fun w1 => ?hy32) ?hn32; (case hw32 => rfl); (case hy32 => (go_simp; (try with_reducible rfl))); (try simp only [Act.put, zF, zG, zH]))
                (refine TD.val0 (v := ?v33) (by simp only [zA, zB, zC]; rfl) rfl ?hw33 (fun w1 => ?hy33) ?hn33; (case hw33 => rfl); (case hy33 => (go_simp; (try with_reducible rfl))); (try simp only [Act.put, zF, zG, zH]))
                (refine TD.val0 (v := ?v34) (by simp only [zA, zB, zC]; rfl) rfl ?hw34 (fun w1 => ?hy34) ?hn34; (case hw34 => rfl); (case hy34 => (go_simp; (try with_reducible rfl))); (try simp only [Act.put, zF, zG, zH]))
                (refine TD.val0 (v := ?v35) (by simp only [zA, zB, zC]; rfl) rfl ?hw35 (fun w1 => ?hy35) ?hn35; (case hw35 => rfl); (case hy35 => (go_simp; (try with_reducible rfl))); (try simp only [Act.put, zF, zG, zH]))
                (refine TD.load (v := ?v36) (p := ?p36) (Mod.refl _ _) (by simp only [zA, zB, zC]; rfl) rfl ?hw36 rfl ?hx36 (fun wq hSq => ?hy36) ?hn36; (case hw36 => rfl); (case hx36 => (simp only [Act.eval, zD, zA, zB, zC, zE]; (try rfl))); (case hy36 => (have k8q := hSq.at k8 (fun h => h); have kp15q := hSq.at kp15 (fun h => h); go_simp; (try with_reducible rfl))); (try simp only [Act.put, zF, zG, zH]))
                (refine TD.load (v := ?v37) (p := ?p37) (Mod.refl _ _) (by simp only [zA, zB, zC]; rfl) rfl ?hw37 rfl ?hx37 (fun wq hSq => ?hy37) ?hn37; (case hw37 => rfl); (case hx37 => (simp only [Act.eval, zD, zA, zB, zC, zE]; (try rfl))); (case hy37 => (have k8q := hSq.at k8 (fun h => h); have kp15q := hSq.at kp15 (fun h => h); go_simp; (try with_reducible rfl))); (try simp only [Act.put, zF, zG, zH]))
                (refine TD.val0 (v := ?v38) (by simp only [zA, zB, zC]; rfl) rfl ?hw38 (fun w1 => ?hy38) ?hn38; (case hw38 => rfl); (case hy38 => (go_simp; (try with_reducible rfl))); (try simp only [Act.put, zF, zG, zH]))
                (refine TD.val0 (v := ?v39) (by simp only [zA, zB, zC]; rfl) rfl ?hw39 (fun w1 => ?hy39) ?hn39; (case hw39 => rfl); (case hy39 => (go_simp; (try with_reducible rfl))); (try simp only [Act.put, zF, zG, zH]))
                (refine TD.val0 (v := ?v40) (by simp only [zA, zB, zC]; rfl) rfl ?hw40 (fun w1 => ?hy40) ?hn40; (case hw40 => rfl); (case hy40 => (go_simp; (try with_reducible rfl))); (try simp only [Act.put, zF, zG, zH]))
                refine TD.nil (fun w10 hr => ?_)
                replace k8 := hr.mod.at k8 (fun h => h)
                replace kp15 := hr.mod.at kp15 (fun h => h)
                have m10 := hr.mod
                clear hr
                go_wp2_with fail
                go_roundw
                case rel => exact ⟨j + 1, by omega, by go_num, by rw [HZT.out]; rfl, Lib.hid (HJ.out.then0 m10)⟩
                case measure => simp [intOf]; omega
            · have hjd := decide_eq_false hjl
              obtain rfl : nH = j := by omega
              rw [List.take_of_length_le (by rw [HLn.out]; omega)]
              obtain ⟨zt, hzt⟩ : ∃ zt, L.any (fun q => decide (q = f)) = zt := ⟨_, rfl⟩
              rw [hzt]
              have HZT : Hid (zt = decide (f ∈ L)) := Lib.hid (by
                rw [← hzt, Bool.eq_iff_iff, List.any_eq_true, decide_eq_true_iff]
                exact ⟨fun ⟨q, h1, h2⟩ => of_decide_eq_true h2 ▸ h1, fun h => ⟨f, h, decide_eq_true rfl⟩⟩)
              have HM10 := Lib.hid (HM9.out.then0 HJ.out)
              have HJ10 := Lib.hid HJ.out
              have kp2 := KP4.out _ HM10.out
              have hnh : g.H.l.length ≤ 160 := HZ.out.1.2.1
              clear hzt HJ
              obtain ⟨w10, rfl⟩ : ∃ w10 : World, w10 = wr := ⟨_, rfl⟩
              go_wp2_with fail
              go_loopw [18, 19] (fun s18 s19 wx => ∃ (j : Nat) (v : Int), j ≤ g.H.l.length ∧ v = (j : Int) - 1 ∧ s19 = .int .i64 v ∧ s18 = .bool ((g.H.l.drop j).any (fun q => decide (q = x.r.rc))) ∧ Hid (Mod (fun _ => False) w10 wx)) (fun _ s19 _ => (intOf s19 + 1).toNat)
              case atStart => exact ⟨g.H.l.length, _, Nat.le_refl _, rfl, rfl, by simp, Lib.hid (Mod.refl _ _)⟩
              case round =>
                obtain ⟨j, v, hj, hv, rfl, rfl, HJ⟩ := hrel
                by_cases hj0 : j = 0
                · subst hj0
                  obtain rfl : v = -1 := by omega
                  clear hv
                  obtain ⟨zy, hzy⟩ : ∃ zy, (g.H.l.drop 0).any (fun q => decide (q = x.r.rc)) = zy := ⟨_, rfl⟩
                  rw [hzy]
                  have HZY : Hid (zy = decide (x.r.rc ∈ g.H.l)) := Lib.hid (by
                    rw [← hzy, List.drop_zero, Bool.eq_iff_iff, List.any_eq_true, decide_eq_true_iff]
                    exact ⟨fun ⟨q, h1, h2⟩ => of_decide_eq_true h2 ▸ h1, fun h => ⟨_, h, decide_eq_true rfl⟩⟩)
                  have HM11 := Lib.hid (HM10.out.then0 HJ.out)
                  have HJ11 := Lib.hid (HJ10.out.trans HJ.out)
                  have kv := HJ11.out.at0 K9.out.2.1
                  have kp15 := HJ11.out.at0 K9.out.1
                  have HO11 := Lib.hid (HO9.out.mod0 HJ11.out)
                  have HB11 := Lib.hid (HB9.out.mod0 HJ11.out)
                  have HS11 := Lib.hid (Nat.le_trans HR9.out.size HJ11.out.size)
                  clear hzy HJ hnh kp2
                  obtain ⟨w11, rfl⟩ : ∃ w11 : World, w11 = wr := ⟨_, rfl⟩
                  by_cases h0 : n = 0
                  · subst h0
                    obtain ⟨g1, g2, g3⟩ := HON.out.1 rfl
                    obtain rfl : zt = false := by rw [HZT.out]; exact decide_eq_false g1
                    obtain rfl : zy = true := by rw [HZY.out]; exact decide_eq_true g2
                    have HG3 := Lib.hid g3
                    have hv2 : ∀ h, Cv[0]'h = .int .i64 0 := hv1
                    clear g1 g2 g3 hv1 hv0
                    obtain ⟨W, hW⟩ : ∃ W : Nat → Prop, (fun q => (Value.slice aH nH cH).ownBlock = some q) = W := ⟨_, rfl⟩
                    have HKK : Hid (OwnL sgc 64 66 0 L (.slice aH nH cH) W w11) := Lib.hid ⟨HO11.out, fun q hq => by rw [← hW]; exact hq⟩
                    have hWT : ∀ j, W j → j < w11.heap.size := by
                      rw [← hW]
                      intro j hj
                      exact (HO11.out.lt j hj).2
                    have hWw : Hid (∀ j, W j → (w3.heap.size ≤ j ∧ ¬ (Tn1 j ∨ Tr1 j)) ∧ ∃ cur, w11.heap[j]? = some (.cells cur 66 (0, 0))) := Lib.hid (by
                      rw [← hW]
                      intro j hj
                      exact ⟨HO4.out.2 j hj, own_blk HO11.out hj⟩)
                    have hlen : L.length + 1 ≤ 1000000 := by rw [HLn.out]; omega
                    have nW15 : ¬ W p15 := fun h => by
                      rw [← hW] at h
                      have h1 := (HO4.out.1.lt p15 h).2
                      have h2 := GP15.out
                      omega
                    clear hW
                    go_upto_region 32 with fail
                    have Lkp15 := lt_size kp15
                    refine wp_gpass0 (T0 := W) (K := OwnL sgc 64 66 0 L (.slice aH nH cH)) (κ := fun i => [0, 0, 3, 6, 0].getD i 0) (υ := fun i => [[], [], [], [166], []].getD i []) [0, 1, 2, 3, 4] (by kernel_rfl) (by kernel_rfl) (goodOL sgc 64 66 0 L (.slice aH nH cH)).cl (HKK.out) (hWT) ?_
                    have gK := goodOL sgc 64 66 0 L (.slice aH nH cH)
                    (refine TG.v0 (v := ?v41) (by simp only [zA, zB, zC]; rfl) rfl ?hw41 (fun w1 => ?hy41) ?hn41; (case hw41 => rfl); (case hy41 => (go_simp; (try with_reducible rfl))); (try simp only [Act.put, zF, zG, zH]))
                    (refine TG.load (v := ?v42) (p := ?p42) (by simp only [zA, zB, zC]; rfl) rfl ?hw42 rfl ?hx42 (fun wq hSq => ?hy42) ?hn42; (case hw42 => rfl); (case hx42 => (simp only [Act.eval, zD, zA, zB, zC, zE]; (try rfl))); (case hy42 => (have kp15q := hSq.at kp15 (by intro hT; first | exact hT | exact absurd hT (by assumption) | omega | (simp only at hT; omega)); go_simp; (try with_reducible rfl))); (try simp only [Act.put, zF, zG, zH]))
                    (refine TG.bslice (by simp only [zA, zB, zC]; rfl) rfl ?hw43 rfl rfl ?hx43 (bsSig f) (fun p166 hp166 _ => ?hn43); (case hw43 => rfl); (case hx43 => (simp only [List.map_toArray, List.map_cons, List.map_nil, Act.eval, zD, zA, zB, zC, zE]; (try rfl))); (try simp only [Act.put, zF, zG, zH]))
                    (refine TG.appK (X := ?X44) (Y := ?Y44) (OwnL sgc 64 66 0 (L ++ [f])) (goodOL sgc 64 66 0 (L ++ [f])) (by simp only [zA, zB, zC]; rfl) rfl ?hw44 rfl ?hx44 ?hz44 (fun T wq kq ltq hSq ub => ?hy44) ?hn44; (case hw44 => rfl); (case hx44 => (simp only [Act.eval, zD, zA, zB, zC, zE]; (try rfl))); (case hz44 => (simp only [Act.eval, zD, zA, zB, zC, zE]; (try rfl))); (case hy44 => (have kp15q := hSq.at kp15 (by intro hT; first | exact hT | exact absurd hT (by assumption) | omega | (simp only at hT; omega)); have kp166 := ub.box (p := p166) (by first | exact Bx.set_same _ _ _ | (simp only [Bx.set_same]; rfl)) (by first | decide | exact List.mem_singleton.2 rfl | simp); dsimp only [Value.cells] at kp166; have nUp166 := (ub p166 _ (by first | exact Bx.set_same _ _ _ | (simp only [Bx.set_same]; rfl)) (by first | decide | exact List.mem_singleton.2 rfl | simp)).1; exact app_sig kq kp166 hlen _)); rintro v44 ⟨wI, TI, hI⟩; replace gK := (goodOL sgc 64 66 0 (L ++ [f])) v44; skip; (try clear hI TI wI); (try simp only [Act.put, zF, zG, zH]))
                    (refine TG.v0 (v := ?v45) (by simp only [zA, zB, zC]; rfl) rfl ?hw45 (fun w1 => ?hy45) ?hn45; (case hw45 => rfl); (case hy45 => (go_simp; (try with_reducible rfl))); (try simp only [Act.put, zF, zG, zH]))
                    refine TG.nil (fun w12 ⟨TR, hr⟩ => ?_)
                    replace kp15 := hr.mod.at kp15 (by intro hT; first | exact hT | exact absurd hT (by assumption) | omega | (simp only at hT; omega))
                    have kp166 := hr.box p166 _ (by first | exact Bx.set_same _ _ _ | (simp only [Bx.set_same]; rfl)); dsimp only [Value.cells] at kp166; obtain ⟨gp166, nTp166, kp166⟩ := kp166
                    clear gK
                    have hOL := hr.k
                    obtain ⟨a3, c3, rfl, -⟩ := hOL.1.at sgT
                    have hlo : (L ++ [f]).length = nH + 1 := by rw [List.length_append, HLn.out]; rfl
                    have HN : Hid (SlOwn sgc 64 66 w12 0 (.slice a3 (nH + 1) c3) (L ++ [f]) ∧ ∀ q, (Value.slice a3 (nH + 1) c3).ownBlock = some q → w3.heap.size ≤ q ∧ ¬ (Tn1 q ∨ Tr1 q)) := Lib.hid ⟨by rw [← hlo]; exact hOL.1, fun q hg => by
                      by_cases h : q < w11.heap.size
                      · exact (hWw.out q (hr.old q h (hOL.2 q (by rw [hlo]; exact hg)))).1
                      · have h1 := HM11.out.size
                        have h3 := HS11.out
                        exact ⟨by omega, fun h2 => by
                          have := (HB4.out.2 q h2).2
                          omega⟩⟩
                    have HB12 : Hid (BkAt Tn1 Tr1 w12 b s S4 ∧ (∀ j, Tn1 j ∨ Tr1 j → w3.heap.size ≤ j ∧ j < w12.heap.size)) := Lib.hid ⟨HB11.out.mod hr.mod (fun j hj h => (hWw.out j h).1.2 (.inl hj)) (fun j hj h => (hWw.out j h).1.2 (.inr hj)) (fun q c0 c1 c2 hq h => by
                        obtain ⟨cur, hc⟩ := (hWw.out q h).2
                        rw [hq] at hc
                        injection (Option.some.inj hc) with h1 h2
                        exact absurd h2 (by decide)), fun j hj => ⟨(HB4.out.2 j hj).1, by
                        have h1 := (HB4.out.2 j hj).2
                        have h2 := hr.mod.size
                        have h3 := HS11.out
                        omega⟩⟩
                    have HM12 := Lib.hid (HM11.out.then hr.mod (fun j hj h => by have := (hWw.out j h).1.1; omega))
                    have HLn2 := Lib.hid hlo
                    rw [hlo]
                    clear hr hOL hlo hWT hlen nW15 kv
                    go_wp2_with fail
                    go_roundw
                    case rel => exact ⟨i + 1, L ++ [f], S4, Tn1, Tr1, a3, nH + 1, c3, by omega, by go_num, rfl, by omega, HLn2, HN, HB12, HG3, HM12⟩
                    case measure => simp [intOf]; omega
                  · have HE0 : Hid (OnS S4 L g.M.l.length (decide (en < i + 1)) g.H.l (i + 1)) := Lib.hid (HON.out.2.2 h0)
                    have HB12 : Hid (BkAt Tn1 Tr1 w11 b s S4 ∧ (∀ j, Tn1 j ∨ Tr1 j → w3.heap.size ≤ j ∧ j < w11.heap.size)) := Lib.hid ⟨HB11.out, fun j hj => ⟨(HB4.out.2 j hj).1, by
                        have h1 := (HB4.out.2 j hj).2
                        have h3 := HS11.out
                        omega⟩⟩
                    have hb0 : ((n : Int) == 0) = false := by rw [beq_eq_false_iff_ne]; omega
                    by_cases h28 : n = 28
                    · subst h28
                      have g1 := HON.out.2.1 rfl
                      obtain rfl : zt = true := by rw [HZT.out]; exact decide_eq_true g1
                      have hv2 : ∀ h, Cv[0]'h = .int .i64 28 := hv1
                      clear g1 hv1 hv0 h0 hb0
                      go_wp2_with fail
                      go_roundw
                      case rel => exact ⟨i + 1, L, S4, Tn1, Tr1, aH, nH, cH, by omega, by go_num, rfl, by omega, HLn, Lib.hid ⟨HO11.out, HO4.out.2⟩, HB12, HE0, HM11⟩
                      case measure => simp [intOf]; omega
                    · have hb28 : ((n : Int) == 28) = false := by rw [beq_eq_false_iff_ne]; omega
                      clear h0 h28 hv0
                      go_wp2_with fail
                      go_roundw
                      case rel => exact ⟨i + 1, L, S4, Tn1, Tr1, aH, nH, cH, by omega, by go_num, rfl, by omega, HLn, Lib.hid ⟨HO11.out, HO4.out.2⟩, HB12, HE0, HM11⟩
                      case measure => simp [intOf]; omega
                ·
                  as_aux_lemma =>
                  obtain ⟨j', rfl⟩ : ∃ j', j = j' + 1 := ⟨j - 1, by omega⟩
                  obtain rfl : v = (j' : Int) := by omega
                  clear hv
                  have hjl2 : j' < g.H.l.length := by omega
                  have kp2 := HJ.out.at0 kp2
                  have kl := HJ.out.at0 (HJ10.out.at0 K9.out.2.2)
                  obtain ⟨y, hy⟩ : ∃ y, g.H.l[j']? = some y := ⟨_, List.getElem?_eq_getElem (by omega)⟩
                  obtain ⟨g8, o8, C8, U8, fr8, hga, k8, he8, hle8⟩ := key_at (HL.out.2.2.2.2.1.1.mod0 ((HBK.out.2.2.2.trans HM10.out).trans HJ.out)) hy
                  have her : C.extract (o + i * 54 + 7) (o + i * 54 + 7 + 32) = kc x.r.rc := by
                    rw [← tdr_rec, ← HE.out, Array.extract_extract]
                    congr 1
                    omega
                  have hes : o + i * 54 + 7 + 32 ≤ C.size := by omega
                  obtain ⟨zy, hzy⟩ : ∃ zy, (g.H.l.drop (j' + 1)).any (fun q => decide (q = x.r.rc)) = zy := ⟨_, rfl⟩
                  rw [hzy]
                  have HZY : Hid ((g.H.l.drop j').any (fun q => decide (q = x.r.rc)) = (decide (y = x.r.rc) || zy)) := Lib.hid (by
                    obtain ⟨h1, rfl⟩ := List.getElem?_eq_some_iff.1 hy
                    rw [List.drop_eq_getElem_cons h1, List.any_cons, hzy])
                  clear hzy hy
                  cases zy with
                  | true =>
                    go_upto_region 28 with fail
                    have Lkp2 := lt_size kp2
                    refine wp_pass (C := fun _ _ _ => False) (κ := fun i => [0, 0, 0, 1, 0, 0, 1, 0, 0, 0, 0, 0, 0, 0, 1, 0, 0, 0].getD i 0) [0, 1, 2, 3, 4, 5, 6, 7, 8, 9, 10, 11, 12, 13, 14, 15, 16, 17] (by kernel_rfl) (by kernel_rfl) (fun _ _ d _ _ h => by cases d <;> first | exact h | exact absurd h (hP _ _ _)) ?_
                    (refine TD.val0 (v := ?v46) (by simp only [zA, zB, zC]; rfl) rfl ?hw46 (fun w1 => ?hy46) ?hn46; (case hw46 => rfl); (case hy46 => (go_simp; (try with_reducible rfl))); (try simp only [Act.put, zF, zG, zH]))
                    (refine TD.val0 (v := ?v47) (by simp only [zA, zB, zC]; rfl) rfl ?hw47 (fun w1 => ?hy47) ?hn47; (case hw47 => rfl); (case hy47 => (go_simp; (try with_reducible rfl))); (try simp only [Act.put, zF, zG, zH]))
                    (refine TD.pass (by simp only [zA, zB, zC]; rfl) rfl ?hw48 ?hn48; (case hw48 => rfl); (try simp only [Act.put, zF, zG, zH]))
                    (refine TD.pass1 (by simp only [zA, zB, zC]; rfl) rfl ?hw49 ?hn49; (case hw49 => rfl); (try simp only [Act.put, zF, zG, zH]))
                    (refine TD.pass (by simp only [zA, zB, zC]; rfl) rfl ?hw50 ?hn50; (case hw50 => rfl); (try simp only [Act.put, zF, zG, zH]))
                    (refine TD.pass (by simp only [zA, zB, zC]; rfl) rfl ?hw51 ?hn51; (case hw51 => rfl); (try simp only [Act.put, zF, zG, zH]))
                    (refine TD.pass1 (by simp only [zA, zB, zC]; rfl) rfl ?hw52 ?hn52; (case hw52 => rfl); (try simp only [Act.put, zF, zG, zH]))
                    (refine TD.pass (by simp only [zA, zB, zC]; rfl) rfl ?hw53 ?hn53; (case hw53 => rfl); (try simp only [Act.put, zF, zG, zH]))
                    (refine TD.pass (by simp only [zA, zB, zC]; rfl) rfl ?hw54 ?hn54; (case hw54 => rfl); (try simp only [Act.put, zF, zG, zH]))
                    (refine TD.pass (by simp only [zA, zB, zC]; rfl) rfl ?hw55 ?hn55; (case hw55 => rfl); (try simp only [Act.put, zF, zG, zH]))
                    (refine TD.pass (by simp only [zA, zB, zC]; rfl) rfl ?hw56 ?hn56; (case hw56 => rfl); (try simp only [Act.put, zF, zG, zH]))
                    (refine TD.pass (by simp only [zA, zB, zC]; rfl) rfl ?hw57 ?hn57; (case hw57 => rfl); (try simp only [Act.put, zF, zG, zH]))
                    (refine TD.pass (by simp only [zA, zB, zC]; rfl) rfl ?hw58 ?hn58; (case hw58 => rfl); (try simp only [Act.put, zF, zG, zH]))
                    (refine TD.pass (by simp only [zA, zB, zC]; rfl) rfl ?hw59 ?hn59; (case hw59 => rfl); (try simp only [Act.put, zF, zG, zH]))
                    (refine TD.pass1 (by simp only [zA, zB, zC]; rfl) rfl ?hw60 ?hn60; (case hw60 => rfl); (try simp only [Act.put, zF, zG, zH]))
                    (refine TD.pass (by simp only [zA, zB, zC]; rfl) rfl ?hw61 ?hn61; (case hw61 => rfl); (try simp only [Act.put, zF, zG, zH]))
                    (refine TD.val0 (v := ?v62) (by simp only [zA, zB, zC]; rfl) rfl ?hw62 (fun w1 => ?hy62) ?hn62; (case hw62 => rfl); (case hy62 => (go_simp; (try with_reducible rfl))); (try simp only [Act.put, zF, zG, zH]))
                    (refine TD.val0 (v := ?v63) (by simp only [zA, zB, zC]; rfl) rfl ?hw63 (fun w1 => ?hy63) ?hn63; (case hw63 => rfl); (case hy63 => (go_simp; (try with_reducible rfl))); (try simp only [Act.put, zF, zG, zH]))
                    refine TD.nil (fun w11 hr => ?_)
                    replace kp2 := hr.mod.at kp2 (fun h => h)
                    have m11 := hr.mod
                    clear hr
                    go_wp2_with fail
                    go_roundw
                    case rel => exact ⟨j', _, by omega, rfl, rfl, by rw [HZY.out, Bool.or_true], Lib.hid (HJ.out.then0 m11)⟩
                    case measure => simp [intOf]
                  | false =>
                    go_upto_region 28 with fail
                    have Lkp2 := lt_size kp2
                    have Lk8 := lt_size k8
                    have Lkl := lt_size kl
                    refine wp_pass (C := fun _ _ _ => False) (κ := fun i => [0, 0, 0, 1, 0, 0, 1, 0, 0, 0, 0, 0, 0, 0, 1, 0, 0, 0].getD i 0) [0, 1, 2, 3, 4, 5, 6, 7, 8, 9, 10, 11, 12, 13, 14, 15, 16, 17] (by kernel_rfl) (by kernel_rfl) (fun _ _ d _ _ h => by cases d <;> first | exact h | exact absurd h (hP _ _ _)) ?_
                    (refine TD.val0 (v := ?v64) (by simp only [zA, zB, zC]; rfl) rfl ?hw64 (fun w1 => ?hy64) ?hn64; (case hw64 => rfl); (case hy64 => (go_simp; (try with_reducible rfl))); (try simp only [Act.put, zF, zG, zH]))
                    (refine TD.val0 (v := ?v65) (by simp only [zA, zB, zC]; rfl) rfl ?hw65 (fun w1 => ?hy65) ?hn65; (case hw65 => rfl); (case hy65 => (go_simp; (try with_reducible rfl))); (try simp only [Act.put, zF, zG, zH]))
                    (refine TD.val0 (v := ?v66) (by simp only [zA, zB, zC]; rfl) rfl ?hw66 (fun w1 => ?hy66) ?hn66; (case hw66 => rfl); (case hy66 => (go_simp; (try with_reducible rfl))); (try simp only [Act.put, zF, zG, zH]))
                    (refine TD.load (v := ?v67) (p := ?p67) (Mod.refl _ _) (by simp only [zA, zB, zC]; rfl) rfl ?hw67 rfl ?hx67 (fun wq hSq => ?hy67) ?hn67; (case hw67 => rfl); (case hx67 => (simp only [Act.eval, zD, zA, zB, zC, zE]; (try rfl))); (case hy67 => (have kp2q := hSq.at kp2 (fun h => h); have k8q := hSq.at k8 (fun h => h); have klq := hSq.at kl (fun h => h); go_simp; (try with_reducible rfl))); (try simp only [Act.put, zF, zG, zH]))
                    (refine TD.val0 (v := ?v68) (by simp only [zA, zB, zC]; rfl) rfl ?hw68 (fun w1 => ?hy68) ?hn68; (case hw68 => rfl); (case hy68 => (go_simp; (try with_reducible rfl))); (try simp only [Act.put, zF, zG, zH]))
                    (refine TD.val0 (v := ?v69) (by simp only [zA, zB, zC]; rfl) rfl ?hw69 (fun w1 => ?hy69) ?hn69; (case hw69 => rfl); (case hy69 => (go_simp; (try with_reducible rfl))); (try simp only [Act.put, zF, zG, zH]))
                    (refine TD.load (v := ?v70) (p := ?p70) (Mod.refl _ _) (by simp only [zA, zB, zC]; rfl) rfl ?hw70 rfl ?hx70 (fun wq hSq => ?hy70) ?hn70; (case hw70 => rfl); (case hx70 => (simp only [Act.eval, zD, zA, zB, zC, zE]; (try rfl))); (case hy70 => (have kp2q := hSq.at kp2 (fun h => h); have k8q := hSq.at k8 (fun h => h); have klq := hSq.at kl (fun h => h); go_simp; (try with_reducible rfl))); (try simp only [Act.put, zF, zG, zH]))
                    (refine TD.val0 (v := ?v71) (by simp only [zA, zB, zC]; rfl) rfl ?hw71 (fun w1 => ?hy71) ?hn71; (case hw71 => rfl); (case hy71 => (go_simp; (try with_reducible rfl))); (try simp only [Act.put, zF, zG, zH]))
                    (refine TD.val0 (v := ?v72) (by simp only [zA, zB, zC]; rfl) rfl ?hw72 (fun w1 => ?hy72) ?hn72; (case hw72 => rfl); (case hy72 => (go_simp; (try with_reducible rfl))); (try simp only [Act.put, zF, zG, zH]))
                    (refine TD.val0 (v := ?v73) (by simp only [zA, zB, zC]; rfl) rfl ?hw73 (fun w1 => ?hy73) ?hn73; (case hw73 => rfl); (case hy73 => (go_simp; (try with_reducible rfl))); (try simp only [Act.put, zF, zG, zH]))
                    (refine TD.val0 (v := ?v74) (by simp only [zA, zB, zC]; rfl) rfl ?hw74 (fun w1 => ?hy74) ?hn74; (case hw74 => rfl); (case hy74 => (go_simp; (try with_reducible rfl))); (try simp only [Act.put, zF, zG, zH]))
                    (refine TD.val0 (v := ?v75) (by simp only [zA, zB, zC]; rfl) rfl ?hw75 (fun w1 => ?hy75) ?hn75; (case hw75 => rfl); (case hy75 => (go_simp; (try with_reducible rfl))); (try simp only [Act.put, zF, zG, zH]))
                    (refine TD.val0 (v := ?v76) (by simp only [zA, zB, zC]; rfl) rfl ?hw76 (fun w1 => ?hy76) ?hn76; (case hw76 => rfl); (case hy76 => (go_simp; (try with_reducible rfl))); (try simp only [Act.put, zF, zG, zH]))
                    (refine TD.val0 (v := ?v77) (by simp only [zA, zB, zC]; rfl) rfl ?hw77 (fun w1 => ?hy77) ?hn77; (case hw77 => rfl); (case hy77 => (go_simp; (try with_reducible rfl))); (try simp only [Act.put, zF, zG, zH]))
                    (refine TD.load (v := ?v78) (p := ?p78) (Mod.refl _ _) (by simp only [zA, zB, zC]; rfl) rfl ?hw78 rfl ?hx78 (fun wq hSq => ?hy78) ?hn78; (case hw78 => rfl); (case hx78 => (simp only [Act.eval, zD, zA, zB, zC, zE]; (try rfl))); (case hy78 => (have kp2q := hSq.at kp2 (fun h => h); have k8q := hSq.at k8 (fun h => h); have klq := hSq.at kl (fun h => h); go_simp; (try with_reducible rfl))); (try simp only [Act.put, zF, zG, zH]))
                    (refine TD.val0 (v := ?v79) (by simp only [zA, zB, zC]; rfl) rfl ?hw79 (fun w1 => ?hy79) ?hn79; (case hw79 => rfl); (case hy79 => (go_simp; (try with_reducible rfl))); (try simp only [Act.put, zF, zG, zH]))
                    (refine TD.val0 (v := ?v80) (by simp only [zA, zB, zC]; rfl) rfl ?hw80 (fun w1 => ?hy80) ?hn80; (case hw80 => rfl); (case hy80 => (go_simp; (try with_reducible rfl))); (try simp only [Act.put, zF, zG, zH]))
                    (refine TD.val0 (v := ?v81) (by simp only [zA, zB, zC]; rfl) rfl ?hw81 (fun w1 => ?hy81) ?hn81; (case hw81 => rfl); (case hy81 => (go_simp; (try with_reducible rfl))); (try simp only [Act.put, zF, zG, zH]))
                    refine TD.nil (fun w11 hr => ?_)
                    replace kp2 := hr.mod.at kp2 (fun h => h)
                    replace k8 := hr.mod.at k8 (fun h => h)
                    replace kl := hr.mod.at kl (fun h => h)
                    have m11 := hr.mod
                    clear hr
                    go_wp2_with fail
                    go_roundw
                    case rel => exact ⟨j', _, by omega, rfl, rfl, by rw [HZY.out, Bool.or_false], Lib.hid (HJ.out.then0 m11)⟩
                    case measure => simp [intOf]
        · have hdl := decide_eq_false hlt
          obtain rfl : ll = i := by omega
          obtain ⟨no, hno⟩ : ∃ no, S.os.length = no := ⟨_, rfl⟩
          have hnm : no + g.M.l.length = nH := by rw [← hno, ← HLn.out]; exact HS.out.1.2
          have hnob : no ≤ ll := by rw [← hno]; exact HS.out.2.2.2.2.1
          have HOB : Hid (S.os.length ≤ 900000 ∧ ∀ o ∈ S.os, o.ch.length ≤ 1000000) := Lib.hid ⟨by have := HS.out.2.2.2.2.1; omega, HS.out.2.2.2.2.2.2⟩
          have HNO := Lib.hid hno
          have hwr : IntKind.i64.wrap ((nH : Int) - (g.M.l.length : Int)) = (no : Int) := by
            rw [IntKind.wrap_i64]
            omega
          have HMw := Lib.hid ((HBK.out.2.2.2).trans HM.out)
          clear hno hnm
          have HBw := Lib.hid (fun wq (hq : Mod (fun _ => False) wr wq) => HB.out.1.mod0 hq)
          go_upto_region 33 with fail
          have Lkp2 := lt_size kp2
          refine wp_gpass (T0 := fun _ => False) (K := fun _ _ => True) (κ := fun i => [0, 6, 0, 0, 0, 0, 0, 0, 0, 0, 0, 6, 0, 0].getD i 0) (υ := fun i => [[], [], [], [], [], [], [], [], [], [], [], [], [], []].getD i []) [0, 1, 2, 3, 4, 5, 6, 7, 8, 9, 10, 11, 12, 13] (by kernel_rfl) (by kernel_rfl) (Good.true).cl (trivial) (fun _ h => h.elim) ?_
          have gK := Good.true
          (refine TG.v0 (v := ?v82) (by simp only [zA, zB, zC]; rfl) rfl ?hw82 (fun w1 => ?hy82) ?hn82; (case hw82 => rfl); (case hy82 => (go_simp; (try with_reducible rfl))); (try simp only [Act.put, zF, zG, zH]))
          (refine TG.callN (f := ?f83) (args := ?r83) (fun v => ∃ a9 c9, v = .slice a9 no c9) gK (by simp only [zA, zB, zC]; rfl) rfl ?hw83 (fun w1 => ?hy83) (fun T wq kq ltq hSq ub => ?hsp83) ?hn83; (case hw83 => rfl); (case hy83 => (go_simp; (first | with_reducible rfl | (constructor <;> with_reducible rfl)))); (case hsp83 => (have kp2q := hSq.at kp2 (by intro hT; first | exact hT | exact absurd hT (by assumption) | omega | (simp only at hT; omega)); exact (outs_c (S := S) wq (HBw.out wq hSq) HOB.out.1 HOB.out.2).mono (fun e w' h => by obtain ⟨⟨a9, c9, he⟩, hm⟩ := h; exact ⟨_, he, ⟨a9, c9, by rw [HNO.out]⟩, hm⟩))); rintro v83 hC; obtain ⟨a9, c9, rfl⟩ := hC; (try simp only [Act.put, zF, zG, zH]))
          (refine TG.v0 (v := ?v84) (by simp only [zA, zB, zC]; rfl) rfl ?hw84 (fun w1 => ?hy84) ?hn84; (case hw84 => rfl); (case hy84 => (go_simp; (try with_reducible rfl))); (try simp only [Act.put, zF, zG, zH]))
          (refine TG.v0 (v := ?v85) (by simp only [zA, zB, zC]; rfl) rfl ?hw85 (fun w1 => ?hy85) ?hn85; (case hw85 => rfl); (case hy85 => (go_simp; (try with_reducible rfl))); (try simp only [Act.put, zF, zG, zH]))
          (refine TG.v0 (v := ?v86) (by simp only [zA, zB, zC]; rfl) rfl ?hw86 (fun w1 => ?hy86) ?hn86; (case hw86 => rfl); (case hy86 => (go_simp; (try with_reducible rfl))); (try simp only [Act.put, zF, zG, zH]))
          (refine TG.v0 (v := ?v87) (by simp only [zA, zB, zC]; rfl) rfl ?hw87 (fun w1 => ?hy87) ?hn87; (case hw87 => rfl); (case hy87 => (go_simp; (try with_reducible rfl))); (try simp only [Act.put, zF, zG, zH]))
          (refine TG.load (v := ?v88) (p := ?p88) (by simp only [zA, zB, zC]; rfl) rfl ?hw88 rfl ?hx88 (fun wq hSq => ?hy88) ?hn88; (case hw88 => rfl); (case hx88 => (simp only [Act.eval, zD, zA, zB, zC, zE]; (try rfl))); (case hy88 => (have kp2q := hSq.at kp2 (by intro hT; first | exact hT | exact absurd hT (by assumption) | omega | (simp only at hT; omega)); go_simp; (try with_reducible rfl))); (try simp only [Act.put, zF, zG, zH]))
          (refine TG.v0 (v := ?v89) (by simp only [zA, zB, zC]; rfl) rfl ?hw89 (fun w1 => ?hy89) ?hn89; (case hw89 => rfl); (case hy89 => (go_simp; (try with_reducible rfl))); (try simp only [Act.put, zF, zG, zH]))
          (refine TG.v0 (v := ?v90) (by simp only [zA, zB, zC]; rfl) rfl ?hw90 (fun w1 => ?hy90) ?hn90; (case hw90 => rfl); (case hy90 => (go_simp; (try with_reducible rfl))); (try simp only [Act.put, zF, zG, zH]))
          (refine TG.v0 (v := ?v91) (by simp only [zA, zB, zC]; rfl) rfl ?hw91 (fun w1 => ?hy91) ?hn91; (case hw91 => rfl); (case hy91 => (go_simp; (try with_reducible rfl))); (try simp only [Act.put, zF, zG, zH]))
          (refine TG.v0 (v := ?v92) (by simp only [zA, zB, zC]; rfl) rfl ?hw92 (fun w1 => ?hy92) ?hn92; (case hw92 => rfl); (case hy92 => (go_simp; (try with_reducible rfl))); (try simp only [Act.put, zF, zG, zH]))
          (refine TG.callN (f := ?f93) (args := ?r93) (fun v => v = .bool true) gK (by simp only [zA, zB, zC]; rfl) rfl ?hw93 (fun w1 => ?hy93) (fun T wq kq ltq hSq ub => ?hsp93) ?hn93; (case hw93 => rfl); (case hy93 => (go_simp; (first | with_reducible rfl | (constructor <;> with_reducible rfl)))); (case hsp93 => (have kp2q := hSq.at kp2 (by intro hT; first | exact hT | exact absurd hT (by assumption) | omega | (simp only at hT; omega)); exact (lives_c wq).mono (fun e w' h => ⟨_, h.1, rfl, h.2⟩))); rintro v93 hC; subst hC; (try simp only [Act.put, zF, zG, zH]))
          (refine TG.v0 (v := ?v94) (by simp only [zA, zB, zC]; rfl) rfl ?hw94 (fun w1 => ?hy94) ?hn94; (case hw94 => rfl); (case hy94 => (go_simp; (try with_reducible rfl))); (try simp only [Act.put, zF, zG, zH]))
          (refine TG.v0 (v := ?v95) (by simp only [zA, zB, zC]; rfl) rfl ?hw95 (fun w1 => ?hy95) ?hn95; (case hw95 => rfl); (case hy95 => (go_simp; (try with_reducible rfl))); (try simp only [Act.put, zF, zG, zH]))
          refine TG.nil (fun w5 ⟨TR, hr⟩ => ?_)
          replace kp2 := hr.mod.at kp2 (by intro hT; first | exact hT | exact absurd hT (by assumption) | omega | (simp only at hT; omega))
          clear gK
          have m5 := hr.mod
          clear hr
          go_wp2_with fail
          go_ret
          exact ⟨rfl, HMw.out.trans m5⟩
end Go.Proofs.YtofpnmoeimjnnaaGreat
namespace Go.Proofs.YtofpnmoeimjnnaaGreat
open Go.RowKit
open Go.ChangeMaps (setBlock)
set_option linter.unusedSimpArgs false
set_option linter.unusedVariables false
attribute [local go_sem ↓] wlKey ldKey stKey wlAcct ldAcct stAcct wlHold ldHold stHold wlHash ldHash stHash wlSig ldSig stSig wlLim ldLim stLim wlRdy ldRdy stRdy wlOut ldOut stOut wlTd ldTd stTd wlTx ldTx stTx eqKey1
attribute [local go_sem] eqMap neMap av_size av_all av_one hd_size hd_key hd_acct hd_all hd_one zKey_size zAcct_size zHold_size zHash_size zSg_size zLim_size zRdy_size zOut_size zTried_size zTx_size cell_blk frozen_blk kc_ext one_int one_bool one_ptr one_slice one_map kc_one kc_one0 kc_size sgc_size sgc_ext sgc_one0 sgc_one' rdr_size rdr_all rdr_one rdr_tx rdr_rec rdr0 rdr1 rdr6 rdr39 rdr40 rdr41 rdr0' rdr1' rdr6' rdr39' rdr40' rdr41' ocr_size ocr_all ocr_one ocr2 ocr3 ocr4 ocr5 ocr2' ocr3' ocr4' ocr5' tdr_size tdr_all tdr_one tdr_r tdr_o tdr_tx tdr_rec tdr0 tdr1 tdr41 tdr50 tdr51 tdr52 tdr53 tdr0' tdr1' tdr41' tdr50' tdr51' tdr52' tdr53' txr_size txr_all txr_one txr0 txr38 txr39 txr0' txr38' txr39' Value.cells
theorem onceLawS (g : GrR') (a : Option Addr) (l : List TdR) (c : Nat) (x : UInt8) (w : World) (hok : GrOk w g) (hl : SlAt tdr 54 w a l) (hx : ∀ x ∈ l, TdOk w x) (hz : l.length * 296 ≤ reachBytes) (_ : ∀ y, a = some y → y.block < w.heap.size ∨ l = []) (_ : l.length ≤ maxLen) (hc : l.length ≤ c) :
    Calls Tryz.prog 4 #[.agg (grc g), .slice a l.length c, .int .u8 (x.toNat : Int)] w fun e w' => e = .returned (.bool true) ∧ Mod (fun _ => False) w w' :=
  onceLaw_c g a l c x w hok hl hx (reach_small hz (by omega)) hc
end Go.Proofs.YtofpnmoeimjnnaaGreat
