/- Blocks: the chapter's answers (lives). -/
import Derived.Test.YtofpnmoeimjnnaaBv7
import Derived.Test.YtofpnmoeimjnnaaSa
namespace Go.Proofs.Ytofpnmoeimjnnaa
open Go.RowKit
open Go.ChangeMaps (setBlock)
set_option linter.unusedSimpArgs false
set_option linter.unusedVariables false
attribute [local go_sem ↓] wlKey ldKey stKey wlAcct ldAcct stAcct wlHold ldHold stHold wlHash ldHash stHash wlSig ldSig stSig wlLim ldLim stLim wlRdy ldRdy stRdy wlOut ldOut stOut wlTd ldTd stTd wlTx ldTx stTx eqKey1
attribute [local go_sem] eqMap neMap av_size av_all av_one hd_size hd_key hd_acct hd_all hd_one zKey_size zAcct_size zHold_size zHash_size zSg_size zLim_size zRdy_size zOut_size zTried_size zTx_size cell_blk frozen_blk kc_ext one_int one_bool one_ptr one_slice one_map kc_one kc_one0 kc_size sgc_size sgc_ext sgc_one0 sgc_one' rdr_size rdr_all rdr_one rdr_tx rdr_rec rdr0 rdr1 rdr41 rdr0' rdr1' rdr41' ocr_size ocr_all ocr_one ocr2 ocr3 ocr4 ocr5 ocr2' ocr3' ocr4' ocr5' tdr_size tdr_all tdr_one tdr_r tdr_o tdr_tx tdr_rec tdr0 tdr1 tdr41 tdr50 tdr51 tdr52 tdr53 tdr0' tdr1' tdr41' tdr50' tdr51' tdr52' tdr53' txr_size txr_all txr_one txr0 txr38 txr39 txr0' txr38' txr39' Value.cells

theorem td0_at {w : World} {g : Nat} {U : TypeId} {fr : Nat × Nat} (h : w.heap[g]? = some (.cells (tdr td0) U fr)) : SlAt tdr 54 w (some ⟨g, 0, none⟩) [td0] := SlAt.one h td0 rfl (tdr_size td0)
/-- One error, and another one. -/
theorem errors1_c {a : Option Addr} {g v u : Nat} {w : World} (ha : SlAt ern 1 w a [v]) (hg : w.heap[g]? = some (.cells #[.int .i64 (u : Int)] 62 (0, 0))) : Calls Try.prog 14 #[.slice a 1 1, .slice (some ⟨g, 0, none⟩) 1 1] w fun e w' => e = .returned (.bool (decide (v = u))) ∧ Mod (fun _ => False) w w' := by
  refine (errors_c a (some ⟨g, 0, none⟩) [v] [u] 1 1 w ha (errC_at (l := [u]) hg) (by simp) (by simp)).mono ?_
  rintro e w' ⟨rfl, hm⟩
  exact ⟨by simp, hm⟩
theorem openL_c (s q n : Nat) (w : World) : Calls Try.prog 21 #[ptrV s, ptrV q, ptrV n, .agg #[.int .u64 1000, .int .u64 1000, .int .u64 1000]] w fun e w' => ∃ b t m, e = .returned (.tuple #[ptrV b, .int .i64 0]) ∧ w.heap.size ≤ b ∧ w.heap.size ≤ t ∧ w.heap.size ≤ m ∧ w'.heap[b]? = some (.cells (blkC s q n t false none 0 0 none 0 0 0) 80 (0, 0)) ∧ TrAt w' t m ⟨1000, 1000, 1000⟩ 0 0 [] ∧ Mod (fun _ => False) w w' := open_c s q n ⟨1000, 1000, 1000⟩ w
set_option maxRecDepth 20000 in
set_option maxHeartbeats 3200000 in
theorem lives_c (w : World) : Calls Try.prog 6 #[] w fun e w' => e = .returned (.bool true) ∧ Mod (fun _ => False) w w' := by
  go_enter Try.func6, Try.ntmps6
  go_wp2_with fail
  go_at_call 24
  refine (newS_c _).mono ?_
  rintro e w1 ⟨s, sb, rfl, -, -, -, m1⟩
  go_wp2_with fail
  go_at_call 22
  refine (newQ_c _).mono ?_
  rintro e w2 ⟨q, rfl, -, -, m2⟩
  have m2 := m1.trans m2
  clear m1
  go_wp2_with fail
  go_at_call 23
  refine (newN_c _).mono ?_
  rintro e w3 ⟨n, rfl, -, -, -, m3⟩
  have m3 := m2.trans m3
  clear m2
  go_wp2_with fail
  go_at_call 21
  refine (openL_c s q n _).mono ?_
  rintro e w4 ⟨b, t, m, rfl, hb, -, -, kb, -, m4⟩
  have hb0 := Nat.le_trans m3.size hb
  have m4 := m3.trans m4
  clear m3 hb
  go_wp2_with fail
  go_at_call 17
  refine (ended_c _ kb).mono ?_
  rintro e w5 ⟨rfl, m5⟩
  have kb := m5.at0 kb
  have m5 := m4.trans m5
  clear m4
  go_wp2_with fail
  go_at_call 16
  refine (end_c _ kb).mono ?_
  rintro e w6 ⟨rfl, kb, m6⟩
  have m6 := m5.thenB m6 (.inl hb0)
  clear m5
  go_wp2_with fail
  go_at_call 16
  refine (end2_c _ kb).mono ?_
  rintro e w7 ⟨rfl, m7⟩
  have kb := m7.at0 kb
  have m7 := m6.trans m7
  clear m6
  go_wp2_with fail
  go_at_call 17
  refine (ended_c _ kb).mono ?_
  rintro e w8 ⟨rfl, m8⟩
  have kb := m8.at0 kb
  have m8 := m7.trans m8
  clear m7
  have hmk := mkB8
  go_wp2_with fail
  go_at_call 25
  refine (decode0_c w8.heap.size _ (heap_alloc_new _ _)).mono ?_
  rintro e w9 ⟨rfl, m9⟩
  have m9 := (((Mod.refl (fun _ => False) w8).alloc (.cells zb8 5)).trans m9)
  have kb := m9.at0 kb
  have m9 := m8.trans m9
  clear m8 hmk
  have hbt := bldTd0
  have hbs := bsTd td0
  go_upto_region 5 with fail
  go_wp2_with fail
  go_at_call 8
  refine (recordE_c _ [td0] 1 _ (heap_alloc_old _ _ (lt_size kb) ▸ kb) (td0_at (heap_alloc_new _ _)) (by simp)).mono ?_
  rintro e w10 ⟨g, rfl, hg, hE, m10⟩
  have m10 := ((Mod.refl (fun _ => False) w9).alloc (.cells (tdr td0) 66)).trans m10
  have kb := m10.at0 kb
  have m10 := m9.trans m10
  clear m9 hbt hbs
  have hbe := bsEr 23
  go_wp2_with fail
  go_at_call 14
  refine (errors1_c (v := 23) (u := 23) (hE.mod0 ((Mod.refl _ _).alloc _)) (heap_alloc_new _ _)).mono ?_
  rintro e w11 ⟨rfl, m11⟩
  have m11 := ((Mod.refl (fun _ => False) w10).alloc (.cells #[Value.int IntKind.i64 23] 62)).trans m11
  have kb := m11.at0 kb
  have m11 := m10.trans m11
  clear m10 hbe hE
  go_wp2_with fail
  go_at_call 18
  refine (entries0_c _ kb).mono ?_
  rintro e w12 ⟨⟨a, c, rfl⟩, m12⟩
  have m12 := m11.trans m12
  go_wp2_with fail
  go_ret
  exact ⟨rfl, m12⟩
end Go.Proofs.Ytofpnmoeimjnnaa
