/- Lists of ids; both ends, told by the list in order. -/
import Derived.Test.YtnibhnnpjkemhaaRf3
namespace Go.Proofs.Ytnibhnnpjkemhaa
open Go.RowKit Go.Sort
open Go.ChangeMaps (setBlock)
set_option linter.unusedSimpArgs false
set_option linter.unusedVariables false
attribute [local go_sem ↓] wlRk ldRk stRk wlNdR ldNdR stNdR eqRk eqRk2
attribute [local go_sem] rkc_size ndc_size rn_size cell_blk frozen_blk one_int one_bool one_ptr one_slice one_map Value.cells rkc_all1 rn_r rn_i rn_all rkc_ext zRk_size zNdR_size
theorem ic_cell {w : World} {base : Nat} {v : Value} {l : List Int64} (h : SlOwn ic 1 3 w base v l) {i : Nat} {x : Int64} (hx : l[i]? = some x) : ∃ g cap C, v = .slice (some ⟨g, 0, none⟩) l.length cap ∧ base ≤ g ∧ w.heap[g]? = some (.cells C 3 (0, 0)) ∧ C[i]? = some (.int .i64 x.toInt) := by
  have hi := (List.getElem?_eq_some_iff.1 hx).1
  rcases h.2 with ⟨_, hn⟩ | ⟨g, cap, cur, rfl, hb, hg, hnc, hcm, hcs, htake⟩
  · omega
  · refine ⟨g, cap, cur, rfl, hb, hg, ?_⟩
    rw [Nat.mul_one, cellsOf_ic] at htake
    have h1 := congrArg (fun l => l[i]?) htake
    simp only [List.getElem?_take, List.getElem?_map, hx, Option.map_some, if_pos hi] at h1
    simpa using h1
set_option maxRecDepth 20000 in
theorem bsInt (x : Int64) (w : World) : (Instr.buildSlice 40 1 #[(0, .int .i64 x.toInt)]).run Try.prog w = .ok (.slice (some ⟨w.heap.size, 0, none⟩) 1 1) (w.alloc (.cells (ic x) 3)) := by
  obtain ⟨i0, z, hi, hz, hz1, hz2, hz3⟩ := intT.info
  refine run_buildSlice w _ _ 1 _ _ i0 _ Try.underlying40 hi hz (by rw [hz1]; omega) (by rw [hz1]; omega) ?_
  rw [hz1]
  show Instr.fill _ _ [(0, _)] = _
  rw [fill_cons (off := 0) (n := 1) rfl rfl (by simp)]
  show some (wr _ 0 (ic x).toList) = _
  rw [wr_whole (ic x) _ (by simp [ic, hz3])]
set_option maxRecDepth 20000 in
set_option maxHeartbeats 3200000 in
theorem sameA_c {a1 a2 : Option Addr} {c1 c2 : Nat} {l m : List Int64} {w : World} (hv : SlAt ic 1 w a1 l) (hu : SlAt ic 1 w a2 m) (hl : l.length ≤ 900000) (hm : m.length ≤ 900000) : Calls Try.prog 26 #[.slice a1 l.length c1, .slice a2 m.length c2] w fun e w' => e = .returned (.bool (decide (l = m))) ∧ Mod (fun _ => False) w w' := by
  have HV := Lib.hid (And.intro hv hu)
  clear hv hu
  go_enter Try.func26, Try.ntmps26
  go_wp2_with fail
  go_loopw [5] (fun s5 ws => ∃ i : Nat, i ≤ l.length ∧ i ≤ m.length ∧ s5 = .int .i64 (i : Int) ∧ Hid (l.take i = m.take i) ∧ Mod (fun _ => False) w ws) (fun s5 _ => l.length - (intOf s5).toNat)
  case atStart => exact ⟨0, by omega, by omega, rfl, Lib.hid (by simp), Mod.refl _ _⟩
  case round =>
    obtain ⟨i, hi1, hi2, rfl, HT, hmw⟩ := hrel
    by_cases hlt : i < l.length
    · by_cases hlt2 : i < m.length
      · obtain ⟨x, hx⟩ : ∃ x, l[i]? = some x := ⟨_, List.getElem?_eq_getElem hlt⟩
        obtain ⟨y, hy⟩ : ∃ y, m[i]? = some y := ⟨_, List.getElem?_eq_getElem hlt2⟩
        obtain ⟨g1, o1, C1, U1, fr1, rfl, k1, he1, _⟩ := (HV.out.1.mod0 hmw).block hx
        obtain ⟨g2, o2, C2, U2, fr2, rfl, k2, he2, _⟩ := (HV.out.2.mod0 hmw).block hy
        have q1 : C1[o1 + i]? = some (.int .i64 x.toInt) := by have h0 := cellC he1 (j := 0) (v := .int .i64 x.toInt) rfl; simpa using h0
        have q2 : C2[o2 + i]? = some (.int .i64 y.toInt) := by have h0 := cellC he2 (j := 0) (v := .int .i64 y.toInt) rfl; simpa using h0
        clear he1 he2
        have HX := Lib.hid (And.intro hx hy)
        clear hx hy
        by_cases hxy : x = y
        · subst hxy
          go_upto_region 4 with fail
          have Lk1 := lt_size k1
          have Lk2 := lt_size k2
          refine wp_pass (C := fun _ _ _ => False) (κ := fun i => [0, 0, 0, 1, 0, 0, 0, 1, 0].getD i 0) [0, 1, 2, 3, 4, 5, 6, 7, 8] (by kernel_rfl) (by kernel_rfl) (fun _ _ d _ _ h => by cases d <;> exact h) ?_
          (refine TD.val0 (v := ?v1) (by simp only [List.getElem?_toArray, List.getElem?_cons_succ, List.getElem?_cons_zero]; rfl) rfl ?hw1 (fun w1 => ?hy1) ?hn1; (case hw1 => rfl); (case hy1 => (go_simp; (try with_reducible rfl))); (try simp only [Act.put, List.setIfInBounds_toArray, List.set_cons_zero, List.set_cons_succ]))
          (refine TD.val0 (v := ?v2) (by simp only [List.getElem?_toArray, List.getElem?_cons_succ, List.getElem?_cons_zero]; rfl) rfl ?hw2 (fun w1 => ?hy2) ?hn2; (case hw2 => rfl); (case hy2 => (go_simp; (try with_reducible rfl))); (try simp only [Act.put, List.setIfInBounds_toArray, List.set_cons_zero, List.set_cons_succ]))
          (refine TD.val0 (v := ?v3) (by simp only [List.getElem?_toArray, List.getElem?_cons_succ, List.getElem?_cons_zero]; rfl) rfl ?hw3 (fun w1 => ?hy3) ?hn3; (case hw3 => rfl); (case hy3 => (go_simp; (try with_reducible rfl))); (try simp only [Act.put, List.setIfInBounds_toArray, List.set_cons_zero, List.set_cons_succ]))
          (refine TD.load (v := ?v4) (p := ?p4) (Mod.refl _ _) (by simp only [List.getElem?_toArray, List.getElem?_cons_succ, List.getElem?_cons_zero]; rfl) rfl ?hw4 rfl ?hx4 (fun wq hSq => ?hy4) ?hn4; (case hw4 => rfl); (case hx4 => (simp only [Act.eval, Array.getD_eq_getD_getElem?, List.getElem?_toArray, List.getElem?_cons_succ, List.getElem?_cons_zero, Option.getD_some]; (try rfl))); (case hy4 => (have k1q := hSq.at k1 (fun h => h); have k2q := hSq.at k2 (fun h => h); go_simp; (try with_reducible rfl))); (try simp only [Act.put, List.setIfInBounds_toArray, List.set_cons_zero, List.set_cons_succ]))
          (refine TD.val0 (v := ?v5) (by simp only [List.getElem?_toArray, List.getElem?_cons_succ, List.getElem?_cons_zero]; rfl) rfl ?hw5 (fun w1 => ?hy5) ?hn5; (case hw5 => rfl); (case hy5 => (go_simp; (try with_reducible rfl))); (try simp only [Act.put, List.setIfInBounds_toArray, List.set_cons_zero, List.set_cons_succ]))
          (refine TD.val0 (v := ?v6) (by simp only [List.getElem?_toArray, List.getElem?_cons_succ, List.getElem?_cons_zero]; rfl) rfl ?hw6 (fun w1 => ?hy6) ?hn6; (case hw6 => rfl); (case hy6 => (go_simp; (try with_reducible rfl))); (try simp only [Act.put, List.setIfInBounds_toArray, List.set_cons_zero, List.set_cons_succ]))
          (refine TD.val0 (v := ?v7) (by simp only [List.getElem?_toArray, List.getElem?_cons_succ, List.getElem?_cons_zero]; rfl) rfl ?hw7 (fun w1 => ?hy7) ?hn7; (case hw7 => rfl); (case hy7 => (go_simp; (try with_reducible rfl))); (try simp only [Act.put, List.setIfInBounds_toArray, List.set_cons_zero, List.set_cons_succ]))
          (refine TD.load (v := ?v8) (p := ?p8) (Mod.refl _ _) (by simp only [List.getElem?_toArray, List.getElem?_cons_succ, List.getElem?_cons_zero]; rfl) rfl ?hw8 rfl ?hx8 (fun wq hSq => ?hy8) ?hn8; (case hw8 => rfl); (case hx8 => (simp only [Act.eval, Array.getD_eq_getD_getElem?, List.getElem?_toArray, List.getElem?_cons_succ, List.getElem?_cons_zero, Option.getD_some]; (try rfl))); (case hy8 => (have k1q := hSq.at k1 (fun h => h); have k2q := hSq.at k2 (fun h => h); go_simp; (try with_reducible rfl))); (try simp only [Act.put, List.setIfInBounds_toArray, List.set_cons_zero, List.set_cons_succ]))
          (refine TD.val0 (v := ?v9) (by simp only [List.getElem?_toArray, List.getElem?_cons_succ, List.getElem?_cons_zero]; rfl) rfl ?hw9 (fun w1 => ?hy9) ?hn9; (case hw9 => rfl); (case hy9 => (go_simp; (try with_reducible rfl))); (try simp only [Act.put, List.setIfInBounds_toArray, List.set_cons_zero, List.set_cons_succ]))
          refine TD.nil (fun w2 hr => ?_)
          have k1 := hr.mod.at k1 (fun h => h)
          have k2 := hr.mod.at k2 (fun h => h)
          have mm := hmw.then0 hr.mod
          clear hr
          go_wp2_with fail
          go_roundw
          case rel => exact ⟨i + 1, by omega, by omega, by go_num, Lib.hid (by
            rw [List.take_add_one, List.take_add_one, HT.out, HX.out.1, HX.out.2]), mm⟩
          case measure => simp [intOf]; omega
        · have hde : (x.toInt != y.toInt) = true := by
            rw [bne_iff_ne]
            exact fun e => hxy (Int64.toInt_inj.1 e)
          have HXY := Lib.hid hxy
          clear hxy
          go_upto_region 4 with fail
          have Lk1 := lt_size k1
          have Lk2 := lt_size k2
          refine wp_pass (C := fun _ _ _ => False) (κ := fun i => [0, 0, 0, 1, 0, 0, 0, 1, 0].getD i 0) [0, 1, 2, 3, 4, 5, 6, 7, 8] (by kernel_rfl) (by kernel_rfl) (fun _ _ d _ _ h => by cases d <;> exact h) ?_
          (refine TD.val0 (v := ?v10) (by simp only [List.getElem?_toArray, List.getElem?_cons_succ, List.getElem?_cons_zero]; rfl) rfl ?hw10 (fun w1 => ?hy10) ?hn10; (case hw10 => rfl); (case hy10 => (go_simp; (try with_reducible rfl))); (try simp only [Act.put, List.setIfInBounds_toArray, List.set_cons_zero, List.set_cons_succ]))
          (refine TD.val0 (v := ?v11) (by simp only [List.getElem?_toArray, List.getElem?_cons_succ, List.getElem?_cons_zero]; rfl) rfl ?hw11 (fun w1 => ?hy11) ?hn11; (case hw11 => rfl); (case hy11 => (go_simp; (try with_reducible rfl))); (try simp only [Act.put, List.setIfInBounds_toArray, List.set_cons_zero, List.set_cons_succ]))
          (refine TD.val0 (v := ?v12) (by simp only [List.getElem?_toArray, List.getElem?_cons_succ, List.getElem?_cons_zero]; rfl) rfl ?hw12 (fun w1 => ?hy12) ?hn12; (case hw12 => rfl); (case hy12 => (go_simp; (try with_reducible rfl))); (try simp only [Act.put, List.setIfInBounds_toArray, List.set_cons_zero, List.set_cons_succ]))
          (refine TD.load (v := ?v13) (p := ?p13) (Mod.refl _ _) (by simp only [List.getElem?_toArray, List.getElem?_cons_succ, List.getElem?_cons_zero]; rfl) rfl ?hw13 rfl ?hx13 (fun wq hSq => ?hy13) ?hn13; (case hw13 => rfl); (case hx13 => (simp only [Act.eval, Array.getD_eq_getD_getElem?, List.getElem?_toArray, List.getElem?_cons_succ, List.getElem?_cons_zero, Option.getD_some]; (try rfl))); (case hy13 => (have k1q := hSq.at k1 (fun h => h); have k2q := hSq.at k2 (fun h => h); go_simp; (try with_reducible rfl))); (try simp only [Act.put, List.setIfInBounds_toArray, List.set_cons_zero, List.set_cons_succ]))
          (refine TD.val0 (v := ?v14) (by simp only [List.getElem?_toArray, List.getElem?_cons_succ, List.getElem?_cons_zero]; rfl) rfl ?hw14 (fun w1 => ?hy14) ?hn14; (case hw14 => rfl); (case hy14 => (go_simp; (try with_reducible rfl))); (try simp only [Act.put, List.setIfInBounds_toArray, List.set_cons_zero, List.set_cons_succ]))
          (refine TD.val0 (v := ?v15) (by simp only [List.getElem?_toArray, List.getElem?_cons_succ, List.getElem?_cons_zero]; rfl) rfl ?hw15 (fun w1 => ?hy15) ?hn15; (case hw15 => rfl); (case hy15 => (go_simp; (try with_reducible rfl))); (try simp only [Act.put, List.setIfInBounds_toArray, List.set_cons_zero, List.set_cons_succ]))
          (refine TD.val0 (v := ?v16) (by simp only [List.getElem?_toArray, List.getElem?_cons_succ, List.getElem?_cons_zero]; rfl) rfl ?hw16 (fun w1 => ?hy16) ?hn16; (case hw16 => rfl); (case hy16 => (go_simp; (try with_reducible rfl))); (try simp only [Act.put, List.setIfInBounds_toArray, List.set_cons_zero, List.set_cons_succ]))
          (refine TD.load (v := ?v17) (p := ?p17) (Mod.refl _ _) (by simp only [List.getElem?_toArray, List.getElem?_cons_succ, List.getElem?_cons_zero]; rfl) rfl ?hw17 rfl ?hx17 (fun wq hSq => ?hy17) ?hn17; (case hw17 => rfl); (case hx17 => (simp only [Act.eval, Array.getD_eq_getD_getElem?, List.getElem?_toArray, List.getElem?_cons_succ, List.getElem?_cons_zero, Option.getD_some]; (try rfl))); (case hy17 => (have k1q := hSq.at k1 (fun h => h); have k2q := hSq.at k2 (fun h => h); go_simp; (try with_reducible rfl))); (try simp only [Act.put, List.setIfInBounds_toArray, List.set_cons_zero, List.set_cons_succ]))
          (refine TD.val0 (v := ?v18) (by simp only [List.getElem?_toArray, List.getElem?_cons_succ, List.getElem?_cons_zero]; rfl) rfl ?hw18 (fun w1 => ?hy18) ?hn18; (case hw18 => rfl); (case hy18 => (go_simp; (try with_reducible rfl))); (try simp only [Act.put, List.setIfInBounds_toArray, List.set_cons_zero, List.set_cons_succ]))
          refine TD.nil (fun w2 hr => ?_)
          have k1 := hr.mod.at k1 (fun h => h)
          have k2 := hr.mod.at k2 (fun h => h)
          have mm := hmw.then0 hr.mod
          clear hr
          go_wp2_with fail
          go_ret
          refine ⟨?_, mm⟩
          rw [decide_eq_false (fun e => by
            subst e
            have := HX.out.1.symm.trans HX.out.2
            exact HXY.out (by injection this))]
          rfl
      · have hne : ((l.length : Int) == (m.length : Int)) = false := by rw [beq_eq_false_iff_ne]; omega
        go_wp2_with fail
        go_ret
        refine ⟨?_, hmw⟩
        rw [decide_eq_false (fun e => by rw [e] at hlt; omega)]
        rfl
    · have hie : i = l.length := by omega
      by_cases hle : l.length = m.length
      · have hll : l = m := by
          have := HT.out
          rw [List.take_of_length_le (by omega), List.take_of_length_le (by omega)] at this
          exact this
        have HLL := Lib.hid hll
        clear hll
        have hne : ((l.length : Int) == (m.length : Int)) = true := by rw [beq_iff_eq]; omega
        clear hle
        go_wp2_with fail
        go_ret
        exact ⟨by rw [decide_eq_true HLL.out]; rfl, hmw⟩
      · have hne : ((l.length : Int) == (m.length : Int)) = false := by rw [beq_eq_false_iff_ne]; omega
        go_wp2_with fail
        go_ret
        refine ⟨?_, hmw⟩
        rw [decide_eq_false (fun e => hle (by rw [e]))]
        rfl
theorem same_c {v u : Value} {b b' : Nat} {l m : List Int64} {w : World} (hv : SlOwn ic 1 3 w b v l) (hu : SlOwn ic 1 3 w b' u m) (hl : l.length ≤ 900000) (hm : m.length ≤ 900000) : Calls Try.prog 26 #[v, u] w fun e w' => e = .returned (.bool (decide (l = m))) ∧ Mod (fun _ => False) w w' := by
  obtain ⟨a1, c1, rfl, h1, _⟩ := hv.at intT
  obtain ⟨a2, c2, rfl, h2, _⟩ := hu.at intT
  exact sameA_c h1 h2 hl hm
set_option maxRecDepth 20000 in
set_option maxHeartbeats 3200000 in
theorem rlist_c {p : Nat} {L : List Nd} {T : Nat → Prop} {w : World} (h : RAt p L T w) (hL : L.length ≤ 900000) : Calls Try.prog 34 #[ptrV p] w fun e w' => ∃ v, e = .returned v ∧ SlOwn ic 1 3 w' w.heap.size v (L.map Nd.id) ∧ Mod (fun _ => False) w w' := by
  obtain ⟨a, c, kr, hs⟩ := h.sl
  have HS := Lib.hid hs
  clear h hs
  go_enter Try.func34, Try.ntmps34
  go_wp2_with fail
  go_loopw [3, 4] (fun s3 s4 ws => ∃ i : Nat, i ≤ L.length ∧ s4 = .int .i64 (i : Int) ∧ Hid (SlOwn ic 1 3 ws w.heap.size s3 ((L.take i).map Nd.id)) ∧ Mod (fun _ => False) w ws) (fun _ s4 _ => L.length - (intOf s4).toNat)
  case atStart => exact ⟨0, by omega, rfl, Lib.hid (SlOwn.nil _ _), Mod.refl _ _⟩
  case round =>
    obtain ⟨i, hi, rfl, HO, hm⟩ := hrel
    have kr := hm.at0 kr
    obtain ⟨a3, c3, hv3, _⟩ := HO.out.at intT
    have hln : ((L.take i).map Nd.id).length = i := by rw [List.length_map, List.length_take]; omega
    rw [hln] at hv3
    have HLN := Lib.hid hln
    subst hv3
    clear hln
    by_cases hlt : i < L.length
    · obtain ⟨x, hx⟩ : ∃ x, L[i]? = some x := ⟨_, List.getElem?_eq_getElem hlt⟩
      obtain ⟨g, o, C, U, fr, rfl, kl, he, hle⟩ := (HS.out.mod0 hm).block hx
      obtain ⟨e1, e2⟩ := rn_part he
      have HX := Lib.hid hx
      have hbs := bsInt x.id
      clear he hle hx e1
      go_upto_region 5 with fail
      have Lkr := lt_size kr
      have Lkl := lt_size kl
      refine wp_pass0 (C := fun _ _ _ => False) (κ := fun i => [0, 0, 0, 0, 1, 0, 0, 0, 1, 3, 5, 0].getD i 0) [0, 1, 2, 3, 4, 5, 6, 7, 8, 9, 10, 11] (by kernel_rfl) (by kernel_rfl) (fun _ _ d _ _ h => by cases d <;> exact h) ?_
      (refine TD.val0 (v := ?v19) (by simp only [List.getElem?_toArray, List.getElem?_cons_succ, List.getElem?_cons_zero]; rfl) rfl ?hw19 (fun w1 => ?hy19) ?hn19; (case hw19 => rfl); (case hy19 => (go_simp; (try with_reducible rfl))); (try simp only [Act.put, List.setIfInBounds_toArray, List.set_cons_zero, List.set_cons_succ]))
      (refine TD.val0 (v := ?v20) (by simp only [List.getElem?_toArray, List.getElem?_cons_succ, List.getElem?_cons_zero]; rfl) rfl ?hw20 (fun w1 => ?hy20) ?hn20; (case hw20 => rfl); (case hy20 => (go_simp; (try with_reducible rfl))); (try simp only [Act.put, List.setIfInBounds_toArray, List.set_cons_zero, List.set_cons_succ]))
      (refine TD.val0 (v := ?v21) (by simp only [List.getElem?_toArray, List.getElem?_cons_succ, List.getElem?_cons_zero]; rfl) rfl ?hw21 (fun w1 => ?hy21) ?hn21; (case hw21 => rfl); (case hy21 => (go_simp; (try with_reducible rfl))); (try simp only [Act.put, List.setIfInBounds_toArray, List.set_cons_zero, List.set_cons_succ]))
      (refine TD.val0 (v := ?v22) (by simp only [List.getElem?_toArray, List.getElem?_cons_succ, List.getElem?_cons_zero]; rfl) rfl ?hw22 (fun w1 => ?hy22) ?hn22; (case hw22 => rfl); (case hy22 => (go_simp; (try with_reducible rfl))); (try simp only [Act.put, List.setIfInBounds_toArray, List.set_cons_zero, List.set_cons_succ]))
      (refine TD.load (v := ?v23) (p := ?p23) (Mod.refl _ _) (by simp only [List.getElem?_toArray, List.getElem?_cons_succ, List.getElem?_cons_zero]; rfl) rfl ?hw23 rfl ?hx23 (fun wq hSq => ?hy23) ?hn23; (case hw23 => rfl); (case hx23 => (simp only [Act.eval, Array.getD_eq_getD_getElem?, List.getElem?_toArray, List.getElem?_cons_succ, List.getElem?_cons_zero, Option.getD_some]; (try rfl))); (case hy23 => (have krq := hSq.at kr (fun h => h); have klq := hSq.at kl (fun h => h); go_simp; (try with_reducible rfl))); (try simp only [Act.put, List.setIfInBounds_toArray, List.set_cons_zero, List.set_cons_succ]))
      (refine TD.val0 (v := ?v24) (by simp only [List.getElem?_toArray, List.getElem?_cons_succ, List.getElem?_cons_zero]; rfl) rfl ?hw24 (fun w1 => ?hy24) ?hn24; (case hw24 => rfl); (case hy24 => (go_simp; (try with_reducible rfl))); (try simp only [Act.put, List.setIfInBounds_toArray, List.set_cons_zero, List.set_cons_succ]))
      (refine TD.val0 (v := ?v25) (by simp only [List.getElem?_toArray, List.getElem?_cons_succ, List.getElem?_cons_zero]; rfl) rfl ?hw25 (fun w1 => ?hy25) ?hn25; (case hw25 => rfl); (case hy25 => (go_simp; (try with_reducible rfl))); (try simp only [Act.put, List.setIfInBounds_toArray, List.set_cons_zero, List.set_cons_succ]))
      (refine TD.val0 (v := ?v26) (by simp only [List.getElem?_toArray, List.getElem?_cons_succ, List.getElem?_cons_zero]; rfl) rfl ?hw26 (fun w1 => ?hy26) ?hn26; (case hw26 => rfl); (case hy26 => (go_simp; (try with_reducible rfl))); (try simp only [Act.put, List.setIfInBounds_toArray, List.set_cons_zero, List.set_cons_succ]))
      (refine TD.load (v := ?v27) (p := ?p27) (Mod.refl _ _) (by simp only [List.getElem?_toArray, List.getElem?_cons_succ, List.getElem?_cons_zero]; rfl) rfl ?hw27 rfl ?hx27 (fun wq hSq => ?hy27) ?hn27; (case hw27 => rfl); (case hx27 => (simp only [Act.eval, Array.getD_eq_getD_getElem?, List.getElem?_toArray, List.getElem?_cons_succ, List.getElem?_cons_zero, Option.getD_some]; (try rfl))); (case hy27 => (have krq := hSq.at kr (fun h => h); have klq := hSq.at kl (fun h => h); go_simp; (try with_reducible rfl))); (try simp only [Act.put, List.setIfInBounds_toArray, List.set_cons_zero, List.set_cons_succ]))
      (refine TD.bslice (by simp only [List.getElem?_toArray, List.getElem?_cons_succ, List.getElem?_cons_zero]; rfl) rfl ?hw28 rfl rfl ?hx28 hbs (fun p23 hp23 => ?hn28); (case hw28 => rfl); (case hx28 => (simp only [List.map_toArray, List.map_cons, List.map_nil, Act.eval, Array.getD_eq_getD_getElem?, List.getElem?_toArray, List.getElem?_cons_succ, List.getElem?_cons_zero, Option.getD_some]; (try rfl))); (try simp only [Act.put, List.setIfInBounds_toArray, List.set_cons_zero, List.set_cons_succ]))
      refine TD.eff (by simp only [List.getElem?_toArray, List.getElem?_cons_succ, List.getElem?_cons_zero]; rfl) rfl (fun w2 hr => ?_)
      have kr := hr.mod.at kr (fun h => h)
      have kl := hr.mod.at kl (fun h => h)
      have kp23 := hr.box p23 _ (by first | exact Bx.set_same _ _ _ | (simp only [Bx.set_same]; rfl)); dsimp only [Value.cells] at kp23; obtain ⟨gp23, kp23⟩ := kp23
      have mm := hm.then0 hr.mod
      have hone : SlAt ic 1 w2 (some ⟨p23, 0, none⟩) [x.id] := SlAt.one kp23 x.id rfl rfl
      have hO2 := HO.out.mod0 hr.mod
      have hlt2 := hO2.lt
      obtain ⟨v3, w3, hap, hO3, m3, hn3⟩ := SlOwn.append intT (c := 1) hO2 hone (by rw [HLN.out]; simp; omega) (by decide) mm.size 40
      have mF : Mod (fun _ => False) w w3 := mm.then m3 (fun j hj e => by have := (hlt2 j e).1; omega)
      have HO3 : Hid (SlOwn ic 1 3 w3 w.heap.size v3 ((L.take (i + 1)).map Nd.id)) := Lib.hid (by
        rw [List.take_add_one, HX.out, List.map_append]
        exact hO3)
      clear hr hone hO2 hlt2 hO3 m3 hn3 mm hbs e2
      (refine eff_append (by simp only [List.getElem?_toArray, List.getElem?_cons_succ, List.getElem?_cons_zero]; rfl) ?hw30 rfl ?hx30 ?hz30 hap ?hn30; (case hw30 => rfl); (case hx30 => (simp only [Act.eval, Array.getD_eq_getD_getElem?, List.getElem?_toArray, List.getElem?_cons_succ, List.getElem?_cons_zero, Option.getD_some]; (try rfl))); (case hz30 => (simp only [Act.eval, Array.getD_eq_getD_getElem?, List.getElem?_toArray, List.getElem?_cons_succ, List.getElem?_cons_zero, Option.getD_some]; (try rfl))); (try simp only [Act.put, List.setIfInBounds_toArray, List.set_cons_zero, List.set_cons_succ]))
      (refine TE.val0 (v := ?v31) (by simp only [List.getElem?_toArray, List.getElem?_cons_succ, List.getElem?_cons_zero]; rfl) ?hw31 (fun w1 => ?hy31) ?hn31; (case hw31 => rfl); (case hy31 => (go_simp; (try with_reducible rfl))); (try simp only [Act.put, List.setIfInBounds_toArray, List.set_cons_zero, List.set_cons_succ]))
      refine TE.nil ?_
      clear hap
      go_wp2_with fail
      go_roundw
      case rel => exact ⟨i + 1, by omega, by go_num, HO3, mF⟩
      case measure => simp [intOf]; omega
    · have hie : i = L.length := by omega
      go_wp2_with fail
      go_ret
      refine ⟨_, rfl, ?_, hm⟩
      have := HO.out
      rw [hie, List.take_length] at this
      rw [hie]
      exact this
set_option maxHeartbeats 1600000 in
theorem rank_c (p n : UInt64) (w : World) : Calls Try.prog 27 #[.int .u64 (p.toNat : Int), .int .u64 (n.toNat : Int)] w fun e w' => e = .returned (.agg (rkc ⟨p, n⟩)) ∧ Mod (fun _ => False) w w' := by
  have hb0 : ∀ w, (Instr.build 30 #[(0, .int .u64 (p.toNat : Int)), (1, .int .u64 (n.toNat : Int))]).run Try.prog w = .ok (.agg (rkc ⟨p, n⟩)) w := fun w => by kernel_rfl
  go_enter Try.func27, Try.ntmps27
  go_upto_region 0 with fail
  refine wp_pass0 (C := fun _ _ _ => False) (κ := fun i => [3].getD i 0) [0] (by kernel_rfl) (by kernel_rfl) (fun _ _ d _ _ h => by cases d <;> exact h) ?_
  (refine TD.allocB (by simp only [List.getElem?_toArray, List.getElem?_cons_succ, List.getElem?_cons_zero]; rfl) rfl ?hw32 rfl rfl alRk (fun p4 hp4 => ?hn32); (case hw32 => rfl); (try simp only [Act.put, List.setIfInBounds_toArray, List.set_cons_zero, List.set_cons_succ]))
  refine TD.nil (fun w1 hr => ?_)
  have kp4 := hr.box p4 _ (by first | exact Bx.set_same _ _ _ | (simp only [Bx.set_same]; rfl)); dsimp only [Value.cells] at kp4; obtain ⟨gp4, kp4⟩ := kp4
  have m1 := hr.mod
  clear hr
  replace kp4 : w1.heap[p4]? = some (.cells #[.int .u64 0, .int .u64 0] 30 (0, 0)) := kp4
  go_upto_region 1 with fail
  have Lkp4 := lt_size kp4
  refine wp_pass0 (C := fun _ _ _ => False) (κ := fun i => [0, 0, 0, 5].getD i 0) [0, 1, 2, 3] (by kernel_rfl) (by kernel_rfl) (fun _ _ d _ _ h => by cases d <;> exact h) ?_
  (refine TD.val0 (v := ?v33) (by simp only [List.getElem?_toArray, List.getElem?_cons_succ, List.getElem?_cons_zero]; rfl) rfl ?hw33 (fun w1 => ?hy33) ?hn33; (case hw33 => rfl); (case hy33 => (go_simp; (try with_reducible rfl))); (try simp only [Act.put, List.setIfInBounds_toArray, List.set_cons_zero, List.set_cons_succ]))
  (refine TD.val0 (v := ?v34) (by simp only [List.getElem?_toArray, List.getElem?_cons_succ, List.getElem?_cons_zero]; rfl) rfl ?hw34 (fun w1 => ?hy34) ?hn34; (case hw34 => rfl); (case hy34 => (go_simp; (try with_reducible rfl))); (try simp only [Act.put, List.setIfInBounds_toArray, List.set_cons_zero, List.set_cons_succ]))
  (refine TD.build (v := ?v35) (ps := ?p35) (by simp only [List.getElem?_toArray, List.getElem?_cons_succ, List.getElem?_cons_zero]; rfl) rfl ?hw35 rfl ?hx35 (fun w1 => ?hy35) ?hn35; (case hw35 => rfl); (case hx35 => (simp only [List.map_toArray, List.map_cons, List.map_nil, Act.eval, Array.getD_eq_getD_getElem?, List.getElem?_toArray, List.getElem?_cons_succ, List.getElem?_cons_zero, Option.getD_some]; (try rfl))); (case hy35 => (rw [hb0]; (try with_reducible rfl))); (try simp only [Act.put, List.setIfInBounds_toArray, List.set_cons_zero, List.set_cons_succ]))
  refine TD.eff (by simp only [List.getElem?_toArray, List.getElem?_cons_succ, List.getElem?_cons_zero]; rfl) rfl (fun w2 hr => ?_)
  have kp4 := hr.mod.at kp4 (fun h => h)
  have m2 := m1.then0 hr.mod
  clear hr
  (refine eff_store (X := ?X37) (Y := ?Y37) (w' := ?w37) (by simp only [List.getElem?_toArray, List.getElem?_cons_succ, List.getElem?_cons_zero]; rfl) ?hw37 rfl ?hx37 ?hz37 ?hy37 ?hn37; (case hw37 => rfl); (case hx37 => (simp only [Act.eval, Array.getD_eq_getD_getElem?, List.getElem?_toArray, List.getElem?_cons_succ, List.getElem?_cons_zero, Option.getD_some]; (try rfl))); (case hz37 => (simp only [Act.eval, Array.getD_eq_getD_getElem?, List.getElem?_toArray, List.getElem?_cons_succ, List.getElem?_cons_zero, Option.getD_some]; (try rfl))); (case hy37 => (go_simp; (try with_reducible rfl))))
  (first | refine TE.nil_set kp4 (fun wn kp4 mS => ?_) | refine TE.nil_setCell kp4 (fun wn kp4 mS => ?_))
  (try simp only [Array.setIfInBounds, List.setIfInBounds_toArray, List.set_cons_zero, List.set_cons_succ] at kp4)
  have m3 := m2.thenB mS (.inl gp4)
  clear mS
  go_wp2_with fail
  exact bodyPost_ret (results_cell1 (v := .agg (rkc ⟨p, n⟩)) rfl rfl (by rw [ldRk]; simp [kp4, rkc])) rfl ⟨rfl, m3⟩
/-- An end of a heap: a rank, an id, whether there is one. -/
structure En where
  r : Rk
  id : Int64
  ok : Bool
def env (e : En) : Value := .tuple #[.agg (rkc e.r), .int .i64 e.id.toInt, .bool e.ok]
def enOf : Option Nd → En
  | none => ⟨rk0, 0, false⟩
  | some x => ⟨x.r, x.id, true⟩
theorem Srt.head {x : Nd} {l : List Nd} (h : Srt (x :: l)) : ∀ y ∈ x :: l, nlt y x = false := fun y hy => by
  rcases List.mem_cons.1 hy with rfl | hy
  · exact nlt_irrefl _
  · exact nlt_asymm (List.rel_of_pairwise_cons h hy)
theorem Srt.last {x : Nd} {l : List Nd} (h : Srt (l ++ [x])) : ∀ y ∈ l ++ [x], nlt x y = false := fun y hy => by
  rcases List.mem_append.1 hy with hy | hy
  · exact nlt_asymm ((List.pairwise_append.1 h).2.2 y hy x (by simp))
  · rw [List.mem_singleton.1 hy]
    exact nlt_irrefl _
theorem best_top {C D : List Nd} {x y : Nd} (hD : D.Perm C) (hS : Srt D) (hb : Best false C x) (hh : D.head? = some y) : x = y := by
  match D, hh with
  | z :: r, hh =>
    simp only [List.head?_cons, Option.some.injEq] at hh
    subst hh
    exact nlt_total (hS.head x (hD.mem_iff.2 hb.1)) (hb.2 z (hD.mem_iff.1 (by simp)))
theorem best_bot {C D : List Nd} {x y : Nd} (hD : D.Perm C) (hS : Srt D) (hb : Best true C x) (hh : D.getLast? = some y) : x = y := by
  obtain ⟨r, rfl⟩ : ∃ r, D = r ++ [y] := by
    obtain ⟨h1, h2⟩ := List.getLast?_eq_some_iff.1 hh
    exact ⟨_, h2⟩
  exact nlt_total (hb.2 y (hD.mem_iff.1 (by simp))) (hS.last x (hD.mem_iff.2 hb.1))
theorem endS0 {C D : List Nd} (hD : D.Perm C) : C = [] ↔ D = [] := ⟨fun h => by subst h; exact hD.eq_nil, fun h => by subst h; exact hD.symm.eq_nil⟩
end Go.Proofs.Ytnibhnnpjkemhaa
