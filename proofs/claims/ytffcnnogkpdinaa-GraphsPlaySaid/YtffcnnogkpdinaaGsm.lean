/- Graphs, the law's own 'same', and 'lives'. -/
import Derived.Test.YtffcnnogkpdinaaGl
namespace Go.Proofs.Ytffcnnogkpdinaa
open Go.RowKit
open Go.ChangeMaps (setBlock)
set_option linter.unusedSimpArgs false
set_option linter.unusedVariables false
attribute [local go_sem ↓] wlKey wlRole ldKey ldRole stKey stRole
attribute [local go_sem] zKey_size zRole_size kc_ext rc_size rc_key rc_all rc_s rc_w rc_s' rc_w' rc_one one_int one_bool one_ptr one_slice one_map kc_one kc_one0 cell_blk frozen_blk Value.cells eqMap neMap
theorem int_at {w : World} {a : Option Addr} {l : List Int64} (h : SlAt ic 1 w a l) {i : Nat} {x : Int64} (hx : l[i]? = some x) : ∃ b o C U fr, a = some ⟨b, o, none⟩ ∧ w.heap[b]? = some (.cells C U fr) ∧ C[o + i]? = some (.int .i64 x.toInt) := by
  obtain ⟨b, o, C, U, fr, rfl, hk, he, _⟩ := h.block hx
  refine ⟨b, o, C, U, fr, rfl, hk, ?_⟩
  have := cellC he (j := 0) (v := .int .i64 x.toInt) rfl
  simpa using this
theorem take_eq_succ {l1 l2 : List Int64} {i : Nat} {x : Int64} (h : l1.take i = l2.take i) (h1 : l1[i]? = some x) (h2 : l2[i]? = some x) : l1.take (i + 1) = l2.take (i + 1) := by
  rw [List.take_add_one, List.take_add_one, h, h1, h2]
set_option maxRecDepth 20000 in
set_option maxHeartbeats 1600000 in
theorem same_c (a b : Option Addr) (l1 l2 : List Int64) (c1 c2 : Nat) (w : World) (h1 : SlAt ic 1 w a l1) (h2 : SlAt ic 1 w b l2) (n1 : l1.length ≤ 100000) (n2 : l2.length ≤ 100000) :
    Calls Try.prog 12 #[.slice a l1.length c1, .slice b l2.length c2] w fun e w' => e = .returned (.bool (decide (l1 = l2))) ∧ Mod (fun _ => False) w w' := by
  have H1 := Lib.hid h1
  have H2 := Lib.hid h2
  clear h1 h2
  go_enter Try.func12, Try.ntmps12
  go_wp2_with fail
  go_loopw [5] (fun s5 ws => ∃ i : Nat, i ≤ l1.length ∧ i ≤ l2.length ∧ s5 = .int .i64 i ∧ Hid (l1.take i = l2.take i) ∧ Mod (fun _ => False) w ws) (fun s5 _ => l1.length - (intOf s5).toNat)
  case atStart => exact ⟨0, Nat.zero_le _, Nat.zero_le _, rfl, Lib.hid (by simp), Mod.refl _ _⟩
  case round =>
    obtain ⟨i, hi1, hi2, rfl, HT, hm⟩ := hrel
    by_cases hl1 : i < l1.length
    · have hd1 := decide_eq_true hl1
      by_cases hl2 : i < l2.length
      · have hd2 := decide_eq_true hl2
        obtain ⟨x, hx⟩ : ∃ x, l1[i]? = some x := ⟨_, List.getElem?_eq_getElem hl1⟩
        obtain ⟨y, hy⟩ : ∃ y, l2[i]? = some y := ⟨_, List.getElem?_eq_getElem hl2⟩
        obtain ⟨b1, o1, C1, U1, f1, rfl, k1, v1⟩ := int_at (H1.out.mod0 hm) hx
        obtain ⟨b2, o2, C2, U2, f2, rfl, k2, v2⟩ := int_at (H2.out.mod0 hm) hy
        have HX := Lib.hid (And.intro hx hy)
        clear hx hy
        go_upto_region 4 with fail
        have Lk1 := lt_size k1
        have Lk2 := lt_size k2
        refine wp_pass (C := fun _ _ _ => False) (κ := fun i => [0, 0, 0, 1, 0, 0, 0, 1, 0].getD i 0) [0, 1, 2, 3, 4, 5, 6, 7, 8] (by kernel_rfl) (by kernel_rfl) (fun _ _ d _ _ h => by cases d <;> first | exact h | exact absurd h (hP _ _ _)) ?_
        (refine TD.val0 (v := ?v1) (by simp only [List.getElem?_toArray, List.getElem?_cons_succ, List.getElem?_cons_zero]; rfl) rfl ?hw1 (fun w1 => ?hy1) ?hn1; (case hw1 => rfl); (case hy1 => (go_simp; (try with_reducible rfl))); (try simp only [Act.put, List.setIfInBounds_toArray, List.set_cons_zero, List.set_cons_succ]))
        (refine TD.val0 (v := ?v2) (by simp only [List.getElem?_toArray, List.getElem?_cons_succ, List.getElem?_cons_zero]; rfl) rfl ?hw2 (fun w1 => ?hy2) ?hn2; (case hw2 => rfl); (case hy2 => (go_simp; (try with_reducible rfl))); (try simp only [Act.put, List.setIfInBounds_toArray, List.set_cons_zero, List.set_cons_succ]))
        (refine TD.val0 (v := ?v3) (by simp only [List.getElem?_toArray, List.getElem?_cons_succ, List.getElem?_cons_zero]; rfl) rfl ?hw3 (fun w1 => ?hy3) ?hn3; (case hw3 => rfl); (case hy3 => (go_simp; (try with_reducible rfl))); (try simp only [Act.put, List.setIfInBounds_toArray, List.set_cons_zero, List.set_cons_succ]))
        (refine TD.load (v := ?v4) (p := ?p4) (Mod.refl _ _) (by simp only [List.getElem?_toArray, List.getElem?_cons_succ, List.getElem?_cons_zero]; rfl) rfl ?hw4 rfl ?hx4 (fun wq hSq => ?hy4) ?hn4; (case hw4 => rfl); (case hx4 => (simp only [Act.eval, Array.getD_eq_getD_getElem?, List.getElem?_toArray, List.getElem?_cons_succ, List.getElem?_cons_zero, Option.getD_some]; (try rfl))); (case hy4 => (have k1q := hSq.at k1 (fun h => h); have k2q := hSq.at k2 (fun h => h); go_simp; (try with_reducible rfl))); (try simp only [Act.put, List.setIfInBounds_toArray, List.set_cons_zero, List.set_cons_succ]))
        (refine TD.val0 (v := ?v5) (by simp only [List.getElem?_toArray, List.getElem?_cons_succ, List.getElem?_cons_zero]; rfl) rfl ?hw5 (fun w1 => ?hy5) ?hn5; (case hw5 => rfl); (case hy5 => (go_simp; (try with_reducible rfl))); (try simp only [Act.put, List.setIfInBounds_toArray, List.set_cons_zero, List.set_cons_succ]))
        (refine TD.val0 (v := ?v6) (by simp only [List.getElem?_toArray, List.getElem?_cons_succ, List.getElem?_cons_zero]; rfl) rfl ?hw6 (fun w1 => ?hy6) ?hn6; (case hw6 => rfl); (case hy6 => (go_simp; (try with_reducible rfl))); (try simp only [Act.put, List.setIfInBounds_toArray, List.set_cons_zero, List.set_cons_succ]))
        (refine TD.val0 (v := ?v7) (by simp only [List.getElem?_toArray, List.getElem?_cons_succ, List.getElem?_cons_zero]; rfl) rfl ?hw7 (fun w1 => ?hy7) ?hn7; (case hw7 => rfl); (case hy7 => (go_simp; (try with_reducible rfl))); (try simp only [Act.put, List.setIfInBounds_toArray, List.set_cons_zero, List.set_cons_succ]))
        (refine TD.load (v := ?v8) (p := ?p8) (Mod.refl _ _) (by simp only [List.getElem?_toArray, List.getElem?_cons_succ, List.getElem?_cons_zero]; rfl) rfl ?hw8 rfl ?hx8 (fun wq hSq => ?hy8) ?hn8; (case hw8 => rfl); (case hx8 => (simp only [Act.eval, Array.getD_eq_getD_getElem?, List.getElem?_toArray, List.getElem?_cons_succ, List.getElem?_cons_zero, Option.getD_some]; (try rfl))); (case hy8 => (have k1q := hSq.at k1 (fun h => h); have k2q := hSq.at k2 (fun h => h); go_simp; (try with_reducible rfl))); (try simp only [Act.put, List.setIfInBounds_toArray, List.set_cons_zero, List.set_cons_succ]))
        (refine TD.val0 (v := ?v9) (by simp only [List.getElem?_toArray, List.getElem?_cons_succ, List.getElem?_cons_zero]; rfl) rfl ?hw9 (fun w1 => ?hy9) ?hn9; (case hw9 => rfl); (case hy9 => (go_simp; (try with_reducible rfl))); (try simp only [Act.put, List.setIfInBounds_toArray, List.set_cons_zero, List.set_cons_succ]))
        refine TD.nil (fun w3 hr => ?_)
        have k1 := hr.mod.at k1 (fun h => h)
        have k2 := hr.mod.at k2 (fun h => h)
        have m3 := hm.then0 hr.mod
        clear hr
        by_cases hxy : x = y
        · have HE := Lib.hid hxy
          have hne : (x.toInt != y.toInt) = false := by rw [hxy]; simp
          have HTT := Lib.hid (take_eq_succ HT.out HX.out.1 (by rw [HX.out.2, hxy]))
          clear hxy
          go_wp2_with fail
          go_roundw
          case rel => exact ⟨i + 1, by omega, by omega, by go_num, HTT, m3⟩
          case measure => simp [intOf]; omega
        · have hne : (x.toInt != y.toInt) = true := by
            rw [bne_iff_ne]
            intro e
            exact hxy (Int64.toInt_inj.1 e)
          have HE : Hid (l1 ≠ l2) := Lib.hid (fun e => by
            have h1 := HX.out.1
            rw [e, HX.out.2] at h1
            exact hxy (Option.some.inj h1).symm)
          clear hxy
          go_wp2_with fail
          go_ret
          exact ⟨by rw [decide_eq_false HE.out]; rfl, m3⟩
      · have hd2 := decide_eq_false hl2
        have HE : Hid (l1 ≠ l2) := Lib.hid (fun e => by rw [e] at hl1; exact hl2 hl1)
        have hne : ((l1.length : Int) == (l2.length : Int)) = false := by
          rw [beq_eq_false_iff_ne]
          omega
        go_wp2_with fail
        go_ret
        exact ⟨by rw [decide_eq_false HE.out]; rfl, hm⟩
    · have hd1 := decide_eq_false hl1
      have HI : Hid (i = l1.length) := Lib.hid (by omega)
      by_cases hle : l1.length = l2.length
      · have hne : ((l1.length : Int) == (l2.length : Int)) = true := by
          rw [beq_iff_eq]
          omega
        have HE : Hid (l1 = l2) := Lib.hid (by
          have h1 := HT.out
          rw [HI.out, List.take_length, hle, List.take_length] at h1
          exact h1)
        clear hle
        go_wp2_with fail
        go_ret
        exact ⟨by rw [decide_eq_true HE.out]; rfl, hm⟩
      · have hne : ((l1.length : Int) == (l2.length : Int)) = false := by
          rw [beq_eq_false_iff_ne]
          omega
        have HE : Hid (l1 ≠ l2) := Lib.hid (fun e => hle (by rw [e]))
        clear hle
        go_wp2_with fail
        go_ret
        exact ⟨by rw [decide_eq_false HE.out]; rfl, hm⟩
theorem buildRole1 (k : Key) (w : World) : (Instr.build 31 #[(0, .agg (kc k))]).run Try.prog w = .ok (.agg (rc k false false)) w := by
  refine run_build_struct (z := .agg zRole) (places := #[(0, 32), (32, 1), (33, 1)]) Try.underlying31 (fun w => by kernel_rfl) (fun w => by kernel_rfl) ?_ w
  show Instr.fill _ zRole [(0, _)] = _
  rw [fill_cons (off := 0) (n := 32) rfl (by simp [Value.cells]) (by rw [zRole_size]; omega)]
  show some _ = some _
  congr 1
  apply Array.toList_inj.1
  have hk : (kc k).toList.length = 32 := by simp
  rw [wr_list _ _ _ (by rw [zRole_size]; simp [Value.cells])]
  simp only [Value.cells, List.take_zero, List.nil_append, hk]
  unfold rc kx zRole
  simp
theorem buildRole (k : Key) (b : Bool) (w : World) : (Instr.build 31 #[(0, .agg (kc k)), (2, .bool b)]).run Try.prog w = .ok (.agg (rc k false b)) w := by
  refine run_build_struct (z := .agg zRole) (places := #[(0, 32), (32, 1), (33, 1)]) Try.underlying31 (fun w => by kernel_rfl) (fun w => by kernel_rfl) ?_ w
  show Instr.fill _ zRole [(0, _), (2, _)] = _
  rw [fill_cons (off := 0) (n := 32) rfl (by simp [Value.cells]) (by rw [zRole_size]; omega), fill_cons (off := 33) (n := 1) rfl (by simp [Value.cells]) (by rw [wr_size, zRole_size]; omega)]
  show some _ = some _
  congr 1
  apply Array.toList_inj.1
  have hk : (kc k).toList.length = 32 := by simp
  rw [wr_list _ _ _ (by rw [wr_size, zRole_size]; simp [Value.cells]), wr_list _ _ _ (by rw [zRole_size]; simp [Value.cells])]
  simp only [Value.cells, List.take_zero, List.nil_append, hk]
  unfold rc kx zRole
  have h1 : (kc k).toList.take 33 = (kc k).toList := List.take_of_length_le (by omega)
  have h2 : (kc k).toList.drop 34 = [] := List.drop_of_length_le (by omega)
  simp [List.take_append, List.drop_append, hk, h1, h2]
theorem infoR : ∃ i0, Try.prog.info? 31 = some i0 ∧ i0.zero = some (.agg zRole) ∧ i0.size = 34 := by
  obtain ⟨i0, hi, hz0, hz1, hz2⟩ := info_parts (show (Try.prog.info? 31).map (fun i => (i.zero, i.size, i.bytes)) = some (some (.agg zRole), 34, 34) by kernel_rfl)
  exact ⟨i0, hi, hz0, hz1⟩
theorem bsRole (r : Role) (w : World) : (Instr.buildSlice 32 1 #[(0, .agg (rc r.k r.s r.w))]).run Try.prog w = .ok (.slice (some ⟨w.heap.size, 0, none⟩) 1 1) (w.alloc (.cells (rcr r) 31)) := by
  obtain ⟨i0, hi, hz0, hz1⟩ := infoR
  have hf : Instr.fill (fun i => some (i * i0.size, i0.size)) ((Array.range (1 * i0.size)).map ((Value.agg zRole).cells[· % (Value.agg zRole).cells.size]!)) [(0, .agg (rc r.k r.s r.w))] = some (rcr r) := by
    rw [hz1]
    rw [fill_cons (off := 0) (n := 34) rfl (by simp [Value.cells, rc_size]) (by simp)]
    show some (wr _ 0 _) = _
    rw [wr_whole _ _ (by simp [Value.cells, rc_size])]
    rfl
  exact run_buildSlice w _ _ 1 _ _ i0 _ Try.underlying32 hi hz0 (by rw [hz1]; omega) (by rw [hz1]; omega) hf
set_option maxRecDepth 20000 in
theorem bsRole2 (r s : Role) (w : World) : (Instr.buildSlice 32 2 #[(0, .agg (rc r.k r.s r.w)), (1, .agg (rc s.k s.s s.w))]).run Try.prog w = .ok (.slice (some ⟨w.heap.size, 0, none⟩) 2 2) (w.alloc (.cells (rcr r ++ rcr s) 31)) := by
  obtain ⟨i0, hi, hz0, hz1⟩ := infoR
  have hf : Instr.fill (fun i => some (i * i0.size, i0.size)) ((Array.range (2 * i0.size)).map ((Value.agg zRole).cells[· % (Value.agg zRole).cells.size]!)) [(0, .agg (rc r.k r.s r.w)), (1, .agg (rc s.k s.s s.w))] = some (rcr r ++ rcr s) := by
    rw [hz1]
    rw [fill_cons (off := 0) (n := 34) rfl (by simp [Value.cells, rc_size]) (by simp), fill_cons (off := 34) (n := 34) rfl (by simp [Value.cells, rc_size]) (by rw [wr_size]; simp)]
    show some _ = some _
    congr 1
    apply Array.toList_inj.1
    rw [wr_list _ _ _ (by rw [wr_size]; simp [Value.cells, rc_size]), wr_list _ _ _ (by simp [Value.cells, rc_size])]
    have h1 : (rc r.k r.s r.w).toList.length = 34 := by simp [rc_size]
    have h2 : (rc s.k s.s s.w).toList.length = 34 := by simp [rc_size]
    simp only [Value.cells, List.take_zero, List.nil_append, h1, h2, rcr, Array.toList_append]
    rw [List.take_append_of_le_length (by omega), List.take_of_length_le (by omega), List.drop_of_length_le (by simp [rc_size]), List.append_nil]
  exact run_buildSlice w _ _ 2 _ _ i0 _ Try.underlying32 hi hz0 (by rw [hz1]; omega) (by rw [hz1]; omega) hf
end Go.Proofs.Ytffcnnogkpdinaa
