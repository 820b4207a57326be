/- The document's own store of accounts: Same, Coins, Copy. -/
import Derived.Test.YtknmiojegnbakaaRefS
namespace Go.Proofs.Ytknmiojegnbakaa
open Go.RowKit
open Go.ChangeMaps (setBlock)
set_option linter.unusedSimpArgs false
set_option linter.unusedVariables false
attribute [local go_sem ↓] wlKey ldKey stKey wlAcct ldAcct stAcct wlHold ldHold stHold eqKey1 eqAcct eqHold
attribute [local go_sem] eqMap neMap av_size av_c av_s av_c' av_s' av_o av_all av_one hd_size hd_key hd_acct hd_all hd_one zKey_size zAcct_size zHold_size cell_blk frozen_blk kc_ext one_int one_bool one_ptr one_slice one_map kc_one kc_one0 kc_size Value.cells
theorem sq_box {P : Program} {ops : Array Oper} {Q : Exit → Act → World → Prop} {i : Nat} {r : List Nat} {a : Act} {o : Oper} {w : World} {v : Value} {T : TypeId} {x : Operand} (ho : ops[i]? = some o) (hw : Region.wanted o (yielded ops a.tmps) = true)
    (hop : o.op = .box T x) (hx : a.eval x = v) (h : wpOps P ops Q r (a.put o.dst (.pointer (some ⟨w.heap.size, 0, none⟩))) (w.alloc (.cells v.cells T))) : wpOps P ops Q (i :: r) a w :=
  sq_eff ho hw (by subst hx; simp [execOp, hop, Instr.box, newVar, newRow, newObj]; rfl) h
theorem RAt.sl1 {w : World} {r : Nat} {L : List Hold} (h : RAt w r L) : ∃ a c, w.heap[r]? = some (.cells #[.slice a L.length c] 50 (0, 0)) ∧ SlAt hd 66 w a L := h.sl
set_option maxRecDepth 20000 in
set_option maxHeartbeats 1600000 in
theorem rsame_c (r q : Nat) (L M : List Hold) (w : World) (h : RAt w r L) (h2 : RAt w q M) (hL : L.length ≤ 900000) (hM : M.length ≤ 900000) : Calls Try.prog 20 #[.pointer (some ⟨r, 0, none⟩), .pointer (some ⟨q, 0, none⟩)] w fun e w' => e = .returned (.bool (decide (L = M))) ∧ Mod (fun _ => False) w w' := by
  obtain ⟨a, c, kr, hs⟩ := h.sl
  obtain ⟨a2, c2, kq, hs2⟩ := h2.sl
  clear h h2
  go_enter Try.func20, Try.ntmps20
  by_cases hl : L.length = M.length
  · have HL := Lib.hid hl
    have hd0 : ((L.length : Int) != (M.length : Int)) = false := by simp [hl]
    clear hl
    go_upto_region 1 with fail
    have Lkr := lt_size kr
    have Lkq := lt_size kq
    refine wp_pass (C := fun _ _ _ => False) (κ := fun i => [0, 0, 0, 1, 0, 0, 0, 0, 1, 0, 0].getD i 0) [0, 1, 2, 3, 4, 5, 6, 7, 8, 9, 10] (by kernel_rfl) (by kernel_rfl) (fun _ _ d _ _ h => by cases d <;> exact h) ?_
    (refine TD.val0 (v := ?v1) (by simp only [List.getElem?_toArray, List.getElem?_cons_succ, List.getElem?_cons_zero]; rfl) rfl ?hw1 (fun w1 => ?hy1) ?hn1; (case hw1 => rfl); (case hy1 => (go_simp; (try with_reducible rfl))); (try simp only [Act.put, List.setIfInBounds_toArray, List.set_cons_zero, List.set_cons_succ]))
    (refine TD.val0 (v := ?v2) (by simp only [List.getElem?_toArray, List.getElem?_cons_succ, List.getElem?_cons_zero]; rfl) rfl ?hw2 (fun w1 => ?hy2) ?hn2; (case hw2 => rfl); (case hy2 => (go_simp; (try with_reducible rfl))); (try simp only [Act.put, List.setIfInBounds_toArray, List.set_cons_zero, List.set_cons_succ]))
    (refine TD.val0 (v := ?v3) (by simp only [List.getElem?_toArray, List.getElem?_cons_succ, List.getElem?_cons_zero]; rfl) rfl ?hw3 (fun w1 => ?hy3) ?hn3; (case hw3 => rfl); (case hy3 => (go_simp; (try with_reducible rfl))); (try simp only [Act.put, List.setIfInBounds_toArray, List.set_cons_zero, List.set_cons_succ]))
    (refine TD.load (v := ?v4) (p := ?p4) (Mod.refl _ _) (by simp only [List.getElem?_toArray, List.getElem?_cons_succ, List.getElem?_cons_zero]; rfl) rfl ?hw4 rfl ?hx4 (fun wq hSq => ?hy4) ?hn4; (case hw4 => rfl); (case hx4 => (simp only [Act.eval, Array.getD_eq_getD_getElem?, List.getElem?_toArray, List.getElem?_cons_succ, List.getElem?_cons_zero, Option.getD_some]; (try rfl))); (case hy4 => (have krq := hSq.at kr (fun h => h); have kqq := hSq.at kq (fun h => h); go_simp; (try with_reducible rfl))); (try simp only [Act.put, List.setIfInBounds_toArray, List.set_cons_zero, List.set_cons_succ]))
    (refine TD.val0 (v := ?v5) (by simp only [List.getElem?_toArray, List.getElem?_cons_succ, List.getElem?_cons_zero]; rfl) rfl ?hw5 (fun w1 => ?hy5) ?hn5; (case hw5 => rfl); (case hy5 => (go_simp; (try with_reducible rfl))); (try simp only [Act.put, List.setIfInBounds_toArray, List.set_cons_zero, List.set_cons_succ]))
    (refine TD.val0 (v := ?v6) (by simp only [List.getElem?_toArray, List.getElem?_cons_succ, List.getElem?_cons_zero]; rfl) rfl ?hw6 (fun w1 => ?hy6) ?hn6; (case hw6 => rfl); (case hy6 => (go_simp; (try with_reducible rfl))); (try simp only [Act.put, List.setIfInBounds_toArray, List.set_cons_zero, List.set_cons_succ]))
    (refine TD.val0 (v := ?v7) (by simp only [List.getElem?_toArray, List.getElem?_cons_succ, List.getElem?_cons_zero]; rfl) rfl ?hw7 (fun w1 => ?hy7) ?hn7; (case hw7 => rfl); (case hy7 => (go_simp; (try with_reducible rfl))); (try simp only [Act.put, List.setIfInBounds_toArray, List.set_cons_zero, List.set_cons_succ]))
    (refine TD.val0 (v := ?v8) (by simp only [List.getElem?_toArray, List.getElem?_cons_succ, List.getElem?_cons_zero]; rfl) rfl ?hw8 (fun w1 => ?hy8) ?hn8; (case hw8 => rfl); (case hy8 => (go_simp; (try with_reducible rfl))); (try simp only [Act.put, List.setIfInBounds_toArray, List.set_cons_zero, List.set_cons_succ]))
    (refine TD.load (v := ?v9) (p := ?p9) (Mod.refl _ _) (by simp only [List.getElem?_toArray, List.getElem?_cons_succ, List.getElem?_cons_zero]; rfl) rfl ?hw9 rfl ?hx9 (fun wq hSq => ?hy9) ?hn9; (case hw9 => rfl); (case hx9 => (simp only [Act.eval, Array.getD_eq_getD_getElem?, List.getElem?_toArray, List.getElem?_cons_succ, List.getElem?_cons_zero, Option.getD_some]; (try rfl))); (case hy9 => (have krq := hSq.at kr (fun h => h); have kqq := hSq.at kq (fun h => h); go_simp; (try with_reducible rfl))); (try simp only [Act.put, List.setIfInBounds_toArray, List.set_cons_zero, List.set_cons_succ]))
    (refine TD.val0 (v := ?v10) (by simp only [List.getElem?_toArray, List.getElem?_cons_succ, List.getElem?_cons_zero]; rfl) rfl ?hw10 (fun w1 => ?hy10) ?hn10; (case hw10 => rfl); (case hy10 => (go_simp; (try with_reducible rfl))); (try simp only [Act.put, List.setIfInBounds_toArray, List.set_cons_zero, List.set_cons_succ]))
    (refine TD.val0 (v := ?v11) (by simp only [List.getElem?_toArray, List.getElem?_cons_succ, List.getElem?_cons_zero]; rfl) rfl ?hw11 (fun w1 => ?hy11) ?hn11; (case hw11 => rfl); (case hy11 => (go_simp; (try with_reducible rfl))); (try simp only [Act.put, List.setIfInBounds_toArray, List.set_cons_zero, List.set_cons_succ]))
    refine TD.nil (fun w1 hr => ?_)
    have kr := hr.mod.at kr (fun h => h)
    have kq := hr.mod.at kq (fun h => h)
    have m1 := hr.mod
    have hs1 := hs.mod0 hr.mod
    have hs3 := hs2.mod0 hr.mod
    clear hs hs2
    go_wp2_with fail
    clear hd0
    go_loopw [5] (fun s5 ws => ∃ i : Nat, i ≤ L.length ∧ s5 = .int .i64 (i : Int) ∧ Hid (L.take i = M.take i) ∧ Mod (fun _ => False) w1 ws) (fun s5 _ => L.length - (intOf s5).toNat)
    case atStart => exact ⟨0, by omega, rfl, Lib.hid (by simp), Mod.refl _ _⟩
    case round =>
      obtain ⟨i, hi, rfl, HT, hm⟩ := hrel
      have kr := hm.at0 kr
      have kq := hm.at0 kq
      by_cases hlt : i < L.length
      · obtain ⟨x, hx⟩ : ∃ x, L[i]? = some x := ⟨_, List.getElem?_eq_getElem hlt⟩
        obtain ⟨y, hy⟩ : ∃ y, M[i]? = some y := ⟨_, List.getElem?_eq_getElem (by have := HL.out; omega)⟩
        obtain ⟨g, o, C, U, fr, rfl, kl, he, hle⟩ := (hs1.mod0 hm).block hx
        obtain ⟨g2, o2, C2, U2, fr2, rfl, kl2, he2, hle2⟩ := (hs3.mod0 hm).block hy
        have hlt2 : (i : Int) < (M.length : Int) := by
          have := HL.out
          omega
        have HX := Lib.hid hx
        have HY := Lib.hid hy
        have H1 := Lib.hid hs1
        have H2 := Lib.hid hs3
        clear hs1 hs3 hx hy
        by_cases hxy : x = y
        · subst hxy
          go_upto_region 6 with fail
          have Lkl := lt_size kl
          have Lkl2 := lt_size kl2
          have Lkr := lt_size kr
          have Lkq := lt_size kq
          refine wp_pass (C := fun _ _ _ => False) (κ := fun i => [0, 0, 0, 1, 0, 0, 1, 0, 0, 0, 1, 0, 0, 1, 0].getD i 0) [0, 1, 2, 3, 4, 5, 6, 7, 8, 9, 10, 11, 12, 13, 14] (by kernel_rfl) (by kernel_rfl) (fun _ _ d _ _ h => by cases d <;> exact h) ?_
          (refine TD.val0 (v := ?v12) (by simp only [List.getElem?_toArray, List.getElem?_cons_succ, List.getElem?_cons_zero]; rfl) rfl ?hw12 (fun w1 => ?hy12) ?hn12; (case hw12 => rfl); (case hy12 => (go_simp; (try with_reducible rfl))); (try simp only [Act.put, List.setIfInBounds_toArray, List.set_cons_zero, List.set_cons_succ]))
          (refine TD.val0 (v := ?v13) (by simp only [List.getElem?_toArray, List.getElem?_cons_succ, List.getElem?_cons_zero]; rfl) rfl ?hw13 (fun w1 => ?hy13) ?hn13; (case hw13 => rfl); (case hy13 => (go_simp; (try with_reducible rfl))); (try simp only [Act.put, List.setIfInBounds_toArray, List.set_cons_zero, List.set_cons_succ]))
          (refine TD.val0 (v := ?v14) (by simp only [List.getElem?_toArray, List.getElem?_cons_succ, List.getElem?_cons_zero]; rfl) rfl ?hw14 (fun w1 => ?hy14) ?hn14; (case hw14 => rfl); (case hy14 => (go_simp; (try with_reducible rfl))); (try simp only [Act.put, List.setIfInBounds_toArray, List.set_cons_zero, List.set_cons_succ]))
          (refine TD.load (v := ?v15) (p := ?p15) (Mod.refl _ _) (by simp only [List.getElem?_toArray, List.getElem?_cons_succ, List.getElem?_cons_zero]; rfl) rfl ?hw15 rfl ?hx15 (fun wq hSq => ?hy15) ?hn15; (case hw15 => rfl); (case hx15 => (simp only [Act.eval, Array.getD_eq_getD_getElem?, List.getElem?_toArray, List.getElem?_cons_succ, List.getElem?_cons_zero, Option.getD_some]; (try rfl))); (case hy15 => (have klq := hSq.at kl (fun h => h); have kl2q := hSq.at kl2 (fun h => h); have krq := hSq.at kr (fun h => h); have kqq := hSq.at kq (fun h => h); go_simp; (try with_reducible rfl))); (try simp only [Act.put, List.setIfInBounds_toArray, List.set_cons_zero, List.set_cons_succ]))
          (refine TD.val0 (v := ?v16) (by simp only [List.getElem?_toArray, List.getElem?_cons_succ, List.getElem?_cons_zero]; rfl) rfl ?hw16 (fun w1 => ?hy16) ?hn16; (case hw16 => rfl); (case hy16 => (go_simp; (try with_reducible rfl))); (try simp only [Act.put, List.setIfInBounds_toArray, List.set_cons_zero, List.set_cons_succ]))
          (refine TD.val0 (v := ?v17) (by simp only [List.getElem?_toArray, List.getElem?_cons_succ, List.getElem?_cons_zero]; rfl) rfl ?hw17 (fun w1 => ?hy17) ?hn17; (case hw17 => rfl); (case hy17 => (go_simp; (try with_reducible rfl))); (try simp only [Act.put, List.setIfInBounds_toArray, List.set_cons_zero, List.set_cons_succ]))
          (refine TD.load (v := ?v18) (p := ?p18) (Mod.refl _ _) (by simp only [List.getElem?_toArray, List.getElem?_cons_succ, List.getElem?_cons_zero]; rfl) rfl ?hw18 rfl ?hx18 (fun wq hSq => ?hy18) ?hn18; (case hw18 => rfl); (case hx18 => (simp only [Act.eval, Array.getD_eq_getD_getElem?, List.getElem?_toArray, List.getElem?_cons_succ, List.getElem?_cons_zero, Option.getD_some]; (try rfl))); (case hy18 => (have klq := hSq.at kl (fun h => h); have kl2q := hSq.at kl2 (fun h => h); have krq := hSq.at kr (fun h => h); have kqq := hSq.at kq (fun h => h); go_simp; (try with_reducible rfl))); (try simp only [Act.put, List.setIfInBounds_toArray, List.set_cons_zero, List.set_cons_succ]))
          (refine TD.val0 (v := ?v19) (by simp only [List.getElem?_toArray, List.getElem?_cons_succ, List.getElem?_cons_zero]; rfl) rfl ?hw19 (fun w1 => ?hy19) ?hn19; (case hw19 => rfl); (case hy19 => (go_simp; (try with_reducible rfl))); (try simp only [Act.put, List.setIfInBounds_toArray, List.set_cons_zero, List.set_cons_succ]))
          (refine TD.val0 (v := ?v20) (by simp only [List.getElem?_toArray, List.getElem?_cons_succ, List.getElem?_cons_zero]; rfl) rfl ?hw20 (fun w1 => ?hy20) ?hn20; (case hw20 => rfl); (case hy20 => (go_simp; (try with_reducible rfl))); (try simp only [Act.put, List.setIfInBounds_toArray, List.set_cons_zero, List.set_cons_succ]))
          (refine TD.val0 (v := ?v21) (by simp only [List.getElem?_toArray, List.getElem?_cons_succ, List.getElem?_cons_zero]; rfl) rfl ?hw21 (fun w1 => ?hy21) ?hn21; (case hw21 => rfl); (case hy21 => (go_simp; (try with_reducible rfl))); (try simp only [Act.put, List.setIfInBounds_toArray, List.set_cons_zero, List.set_cons_succ]))
          (refine TD.load (v := ?v22) (p := ?p22) (Mod.refl _ _) (by simp only [List.getElem?_toArray, List.getElem?_cons_succ, List.getElem?_cons_zero]; rfl) rfl ?hw22 rfl ?hx22 (fun wq hSq => ?hy22) ?hn22; (case hw22 => rfl); (case hx22 => (simp only [Act.eval, Array.getD_eq_getD_getElem?, List.getElem?_toArray, List.getElem?_cons_succ, List.getElem?_cons_zero, Option.getD_some]; (try rfl))); (case hy22 => (have klq := hSq.at kl (fun h => h); have kl2q := hSq.at kl2 (fun h => h); have krq := hSq.at kr (fun h => h); have kqq := hSq.at kq (fun h => h); go_simp; (try with_reducible rfl))); (try simp only [Act.put, List.setIfInBounds_toArray, List.set_cons_zero, List.set_cons_succ]))
          (refine TD.val0 (v := ?v23) (by simp only [List.getElem?_toArray, List.getElem?_cons_succ, List.getElem?_cons_zero]; rfl) rfl ?hw23 (fun w1 => ?hy23) ?hn23; (case hw23 => rfl); (case hy23 => (go_simp; (try with_reducible rfl))); (try simp only [Act.put, List.setIfInBounds_toArray, List.set_cons_zero, List.set_cons_succ]))
          (refine TD.val0 (v := ?v24) (by simp only [List.getElem?_toArray, List.getElem?_cons_succ, List.getElem?_cons_zero]; rfl) rfl ?hw24 (fun w1 => ?hy24) ?hn24; (case hw24 => rfl); (case hy24 => (go_simp; (try with_reducible rfl))); (try simp only [Act.put, List.setIfInBounds_toArray, List.set_cons_zero, List.set_cons_succ]))
          (refine TD.load (v := ?v25) (p := ?p25) (Mod.refl _ _) (by simp only [List.getElem?_toArray, List.getElem?_cons_succ, List.getElem?_cons_zero]; rfl) rfl ?hw25 rfl ?hx25 (fun wq hSq => ?hy25) ?hn25; (case hw25 => rfl); (case hx25 => (simp only [Act.eval, Array.getD_eq_getD_getElem?, List.getElem?_toArray, List.getElem?_cons_succ, List.getElem?_cons_zero, Option.getD_some]; (try rfl))); (case hy25 => (have klq := hSq.at kl (fun h => h); have kl2q := hSq.at kl2 (fun h => h); have krq := hSq.at kr (fun h => h); have kqq := hSq.at kq (fun h => h); go_simp; (try with_reducible rfl))); (try simp only [Act.put, List.setIfInBounds_toArray, List.set_cons_zero, List.set_cons_succ]))
          (refine TD.val0 (v := ?v26) (by simp only [List.getElem?_toArray, List.getElem?_cons_succ, List.getElem?_cons_zero]; rfl) rfl ?hw26 (fun w1 => ?hy26) ?hn26; (case hw26 => rfl); (case hy26 => (go_simp; (try with_reducible rfl))); (try simp only [Act.put, List.setIfInBounds_toArray, List.set_cons_zero, List.set_cons_succ]))
          refine TD.nil (fun w2 hr => ?_)
          have kl := hr.mod.at kl (fun h => h)
          have kl2 := hr.mod.at kl2 (fun h => h)
          have kr := hr.mod.at kr (fun h => h)
          have kq := hr.mod.at kq (fun h => h)
          have mm := hm.then0 hr.mod
          clear he he2 hle hle2
          go_wp2_with fail
          go_roundw
          case rel => exact ⟨i + 1, by omega, by go_num, Lib.hid (by
            rw [List.take_add_one, List.take_add_one, HT.out, HX.out, HY.out]), mm⟩
          case measure => simp [intOf]; omega
        · go_upto_region 6 with fail
          have Lkl := lt_size kl
          have Lkl2 := lt_size kl2
          have Lkr := lt_size kr
          have Lkq := lt_size kq
          refine wp_pass (C := fun _ _ _ => False) (κ := fun i => [0, 0, 0, 1, 0, 0, 1, 0, 0, 0, 1, 0, 0, 1, 0].getD i 0) [0, 1, 2, 3, 4, 5, 6, 7, 8, 9, 10, 11, 12, 13, 14] (by kernel_rfl) (by kernel_rfl) (fun _ _ d _ _ h => by cases d <;> exact h) ?_
          (refine TD.val0 (v := ?v27) (by simp only [List.getElem?_toArray, List.getElem?_cons_succ, List.getElem?_cons_zero]; rfl) rfl ?hw27 (fun w1 => ?hy27) ?hn27; (case hw27 => rfl); (case hy27 => (go_simp; (try with_reducible rfl))); (try simp only [Act.put, List.setIfInBounds_toArray, List.set_cons_zero, List.set_cons_succ]))
          (refine TD.val0 (v := ?v28) (by simp only [List.getElem?_toArray, List.getElem?_cons_succ, List.getElem?_cons_zero]; rfl) rfl ?hw28 (fun w1 => ?hy28) ?hn28; (case hw28 => rfl); (case hy28 => (go_simp; (try with_reducible rfl))); (try simp only [Act.put, List.setIfInBounds_toArray, List.set_cons_zero, List.set_cons_succ]))
          (refine TD.val0 (v := ?v29) (by simp only [List.getElem?_toArray, List.getElem?_cons_succ, List.getElem?_cons_zero]; rfl) rfl ?hw29 (fun w1 => ?hy29) ?hn29; (case hw29 => rfl); (case hy29 => (go_simp; (try with_reducible rfl))); (try simp only [Act.put, List.setIfInBounds_toArray, List.set_cons_zero, List.set_cons_succ]))
          (refine TD.load (v := ?v30) (p := ?p30) (Mod.refl _ _) (by simp only [List.getElem?_toArray, List.getElem?_cons_succ, List.getElem?_cons_zero]; rfl) rfl ?hw30 rfl ?hx30 (fun wq hSq => ?hy30) ?hn30; (case hw30 => rfl); (case hx30 => (simp only [Act.eval, Array.getD_eq_getD_getElem?, List.getElem?_toArray, List.getElem?_cons_succ, List.getElem?_cons_zero, Option.getD_some]; (try rfl))); (case hy30 => (have klq := hSq.at kl (fun h => h); have kl2q := hSq.at kl2 (fun h => h); have krq := hSq.at kr (fun h => h); have kqq := hSq.at kq (fun h => h); go_simp; (try with_reducible rfl))); (try simp only [Act.put, List.setIfInBounds_toArray, List.set_cons_zero, List.set_cons_succ]))
          (refine TD.val0 (v := ?v31) (by simp only [List.getElem?_toArray, List.getElem?_cons_succ, List.getElem?_cons_zero]; rfl) rfl ?hw31 (fun w1 => ?hy31) ?hn31; (case hw31 => rfl); (case hy31 => (go_simp; (try with_reducible rfl))); (try simp only [Act.put, List.setIfInBounds_toArray, List.set_cons_zero, List.set_cons_succ]))
          (refine TD.val0 (v := ?v32) (by simp only [List.getElem?_toArray, List.getElem?_cons_succ, List.getElem?_cons_zero]; rfl) rfl ?hw32 (fun w1 => ?hy32) ?hn32; (case hw32 => rfl); (case hy32 => (go_simp; (try with_reducible rfl))); (try simp only [Act.put, List.setIfInBounds_toArray, List.set_cons_zero, List.set_cons_succ]))
          (refine TD.load (v := ?v33) (p := ?p33) (Mod.refl _ _) (by simp only [List.getElem?_toArray, List.getElem?_cons_succ, List.getElem?_cons_zero]; rfl) rfl ?hw33 rfl ?hx33 (fun wq hSq => ?hy33) ?hn33; (case hw33 => rfl); (case hx33 => (simp only [Act.eval, Array.getD_eq_getD_getElem?, List.getElem?_toArray, List.getElem?_cons_succ, List.getElem?_cons_zero, Option.getD_some]; (try rfl))); (case hy33 => (have klq := hSq.at kl (fun h => h); have kl2q := hSq.at kl2 (fun h => h); have krq := hSq.at kr (fun h => h); have kqq := hSq.at kq (fun h => h); go_simp; (try with_reducible rfl))); (try simp only [Act.put, List.setIfInBounds_toArray, List.set_cons_zero, List.set_cons_succ]))
          (refine TD.val0 (v := ?v34) (by simp only [List.getElem?_toArray, List.getElem?_cons_succ, List.getElem?_cons_zero]; rfl) rfl ?hw34 (fun w1 => ?hy34) ?hn34; (case hw34 => rfl); (case hy34 => (go_simp; (try with_reducible rfl))); (try simp only [Act.put, List.setIfInBounds_toArray, List.set_cons_zero, List.set_cons_succ]))
          (refine TD.val0 (v := ?v35) (by simp only [List.getElem?_toArray, List.getElem?_cons_succ, List.getElem?_cons_zero]; rfl) rfl ?hw35 (fun w1 => ?hy35) ?hn35; (case hw35 => rfl); (case hy35 => (go_simp; (try with_reducible rfl))); (try simp only [Act.put, List.setIfInBounds_toArray, List.set_cons_zero, List.set_cons_succ]))
          (refine TD.val0 (v := ?v36) (by simp only [List.getElem?_toArray, List.getElem?_cons_succ, List.getElem?_cons_zero]; rfl) rfl ?hw36 (fun w1 => ?hy36) ?hn36; (case hw36 => rfl); (case hy36 => (go_simp; (try with_reducible rfl))); (try simp only [Act.put, List.setIfInBounds_toArray, List.set_cons_zero, List.set_cons_succ]))
          (refine TD.load (v := ?v37) (p := ?p37) (Mod.refl _ _) (by simp only [List.getElem?_toArray, List.getElem?_cons_succ, List.getElem?_cons_zero]; rfl) rfl ?hw37 rfl ?hx37 (fun wq hSq => ?hy37) ?hn37; (case hw37 => rfl); (case hx37 => (simp only [Act.eval, Array.getD_eq_getD_getElem?, List.getElem?_toArray, List.getElem?_cons_succ, List.getElem?_cons_zero, Option.getD_some]; (try rfl))); (case hy37 => (have klq := hSq.at kl (fun h => h); have kl2q := hSq.at kl2 (fun h => h); have krq := hSq.at kr (fun h => h); have kqq := hSq.at kq (fun h => h); go_simp; (try with_reducible rfl))); (try simp only [Act.put, List.setIfInBounds_toArray, List.set_cons_zero, List.set_cons_succ]))
          (refine TD.val0 (v := ?v38) (by simp only [List.getElem?_toArray, List.getElem?_cons_succ, List.getElem?_cons_zero]; rfl) rfl ?hw38 (fun w1 => ?hy38) ?hn38; (case hw38 => rfl); (case hy38 => (go_simp; (try with_reducible rfl))); (try simp only [Act.put, List.setIfInBounds_toArray, List.set_cons_zero, List.set_cons_succ]))
          (refine TD.val0 (v := ?v39) (by simp only [List.getElem?_toArray, List.getElem?_cons_succ, List.getElem?_cons_zero]; rfl) rfl ?hw39 (fun w1 => ?hy39) ?hn39; (case hw39 => rfl); (case hy39 => (go_simp; (try with_reducible rfl))); (try simp only [Act.put, List.setIfInBounds_toArray, List.set_cons_zero, List.set_cons_succ]))
          (refine TD.load (v := ?v40) (p := ?p40) (Mod.refl _ _) (by simp only [List.getElem?_toArray, List.getElem?_cons_succ, List.getElem?_cons_zero]; rfl) rfl ?hw40 rfl ?hx40 (fun wq hSq => ?hy40) ?hn40; (case hw40 => rfl); (case hx40 => (simp only [Act.eval, Array.getD_eq_getD_getElem?, List.getElem?_toArray, List.getElem?_cons_succ, List.getElem?_cons_zero, Option.getD_some]; (try rfl))); (case hy40 => (have klq := hSq.at kl (fun h => h); have kl2q := hSq.at kl2 (fun h => h); have krq := hSq.at kr (fun h => h); have kqq := hSq.at kq (fun h => h); go_simp; (try with_reducible rfl))); (try simp only [Act.put, List.setIfInBounds_toArray, List.set_cons_zero, List.set_cons_succ]))
          (refine TD.val0 (v := ?v41) (by simp only [List.getElem?_toArray, List.getElem?_cons_succ, List.getElem?_cons_zero]; rfl) rfl ?hw41 (fun w1 => ?hy41) ?hn41; (case hw41 => rfl); (case hy41 => (go_simp; (try with_reducible rfl))); (try simp only [Act.put, List.setIfInBounds_toArray, List.set_cons_zero, List.set_cons_succ]))
          refine TD.nil (fun w2 hr => ?_)
          have kl := hr.mod.at kl (fun h => h)
          have kl2 := hr.mod.at kl2 (fun h => h)
          have kr := hr.mod.at kr (fun h => h)
          have kq := hr.mod.at kq (fun h => h)
          have mm := hm.then0 hr.mod
          clear he he2 hle hle2
          go_wp2_with fail
          go_ret
          refine ⟨?_, m1.then0 mm⟩
          rw [show decide (L = M) = false from decide_eq_false (fun e => by
            subst e
            have h1 := HX.out
            have h2 := HY.out
            rw [h1] at h2
            exact hxy (by injection h2))]
          rfl
      · have hll : L = M := by
          have := HT.out
          rw [List.take_of_length_le (by omega), List.take_of_length_le (by have := HL.out; omega)] at this
          exact this
        have HLL := Lib.hid hll
        clear hll HT hs1 hs3
        go_wp2_with fail
        go_ret
        exact ⟨by rw [HLL.out]; simp, m1.then0 hm⟩
  · have hd0 : ((L.length : Int) != (M.length : Int)) = true := by
      simp only [bne_iff_ne, ne_eq]
      omega
    have HD : Hid (decide (L = M) = false) := Lib.hid (decide_eq_false (fun e => hl (by rw [e])))
    clear hl
    go_upto_region 1 with fail
    have Lkr := lt_size kr
    have Lkq := lt_size kq
    refine wp_pass (C := fun _ _ _ => False) (κ := fun i => [0, 0, 0, 1, 0, 0, 0, 0, 1, 0, 0].getD i 0) [0, 1, 2, 3, 4, 5, 6, 7, 8, 9, 10] (by kernel_rfl) (by kernel_rfl) (fun _ _ d _ _ h => by cases d <;> exact h) ?_
    (refine TD.val0 (v := ?v42) (by simp only [List.getElem?_toArray, List.getElem?_cons_succ, List.getElem?_cons_zero]; rfl) rfl ?hw42 (fun w1 => ?hy42) ?hn42; (case hw42 => rfl); (case hy42 => (go_simp; (try with_reducible rfl))); (try simp only [Act.put, List.setIfInBounds_toArray, List.set_cons_zero, List.set_cons_succ]))
    (refine TD.val0 (v := ?v43) (by simp only [List.getElem?_toArray, List.getElem?_cons_succ, List.getElem?_cons_zero]; rfl) rfl ?hw43 (fun w1 => ?hy43) ?hn43; (case hw43 => rfl); (case hy43 => (go_simp; (try with_reducible rfl))); (try simp only [Act.put, List.setIfInBounds_toArray, List.set_cons_zero, List.set_cons_succ]))
    (refine TD.val0 (v := ?v44) (by simp only [List.getElem?_toArray, List.getElem?_cons_succ, List.getElem?_cons_zero]; rfl) rfl ?hw44 (fun w1 => ?hy44) ?hn44; (case hw44 => rfl); (case hy44 => (go_simp; (try with_reducible rfl))); (try simp only [Act.put, List.setIfInBounds_toArray, List.set_cons_zero, List.set_cons_succ]))
    (refine TD.load (v := ?v45) (p := ?p45) (Mod.refl _ _) (by simp only [List.getElem?_toArray, List.getElem?_cons_succ, List.getElem?_cons_zero]; rfl) rfl ?hw45 rfl ?hx45 (fun wq hSq => ?hy45) ?hn45; (case hw45 => rfl); (case hx45 => (simp only [Act.eval, Array.getD_eq_getD_getElem?, List.getElem?_toArray, List.getElem?_cons_succ, List.getElem?_cons_zero, Option.getD_some]; (try rfl))); (case hy45 => (have krq := hSq.at kr (fun h => h); have kqq := hSq.at kq (fun h => h); go_simp; (try with_reducible rfl))); (try simp only [Act.put, List.setIfInBounds_toArray, List.set_cons_zero, List.set_cons_succ]))
    (refine TD.val0 (v := ?v46) (by simp only [List.getElem?_toArray, List.getElem?_cons_succ, List.getElem?_cons_zero]; rfl) rfl ?hw46 (fun w1 => ?hy46) ?hn46; (case hw46 => rfl); (case hy46 => (go_simp; (try with_reducible rfl))); (try simp only [Act.put, List.setIfInBounds_toArray, List.set_cons_zero, List.set_cons_succ]))
    (refine TD.val0 (v := ?v47) (by simp only [List.getElem?_toArray, List.getElem?_cons_succ, List.getElem?_cons_zero]; rfl) rfl ?hw47 (fun w1 => ?hy47) ?hn47; (case hw47 => rfl); (case hy47 => (go_simp; (try with_reducible rfl))); (try simp only [Act.put, List.setIfInBounds_toArray, List.set_cons_zero, List.set_cons_succ]))
    (refine TD.val0 (v := ?v48) (by simp only [List.getElem?_toArray, List.getElem?_cons_succ, List.getElem?_cons_zero]; rfl) rfl ?hw48 (fun w1 => ?hy48) ?hn48; (case hw48 => rfl); (case hy48 => (go_simp; (try with_reducible rfl))); (try simp only [Act.put, List.setIfInBounds_toArray, List.set_cons_zero, List.set_cons_succ]))
    (refine TD.val0 (v := ?v49) (by simp only [List.getElem?_toArray, List.getElem?_cons_succ, List.getElem?_cons_zero]; rfl) rfl ?hw49 (fun w1 => ?hy49) ?hn49; (case hw49 => rfl); (case hy49 => (go_simp; (try with_reducible rfl))); (try simp only [Act.put, List.setIfInBounds_toArray, List.set_cons_zero, List.set_cons_succ]))
    (refine TD.load (v := ?v50) (p := ?p50) (Mod.refl _ _) (by simp only [List.getElem?_toArray, List.getElem?_cons_succ, List.getElem?_cons_zero]; rfl) rfl ?hw50 rfl ?hx50 (fun wq hSq => ?hy50) ?hn50; (case hw50 => rfl); (case hx50 => (simp only [Act.eval, Array.getD_eq_getD_getElem?, List.getElem?_toArray, List.getElem?_cons_succ, List.getElem?_cons_zero, Option.getD_some]; (try rfl))); (case hy50 => (have krq := hSq.at kr (fun h => h); have kqq := hSq.at kq (fun h => h); go_simp; (try with_reducible rfl))); (try simp only [Act.put, List.setIfInBounds_toArray, List.set_cons_zero, List.set_cons_succ]))
    (refine TD.val0 (v := ?v51) (by simp only [List.getElem?_toArray, List.getElem?_cons_succ, List.getElem?_cons_zero]; rfl) rfl ?hw51 (fun w1 => ?hy51) ?hn51; (case hw51 => rfl); (case hy51 => (go_simp; (try with_reducible rfl))); (try simp only [Act.put, List.setIfInBounds_toArray, List.set_cons_zero, List.set_cons_succ]))
    (refine TD.val0 (v := ?v52) (by simp only [List.getElem?_toArray, List.getElem?_cons_succ, List.getElem?_cons_zero]; rfl) rfl ?hw52 (fun w1 => ?hy52) ?hn52; (case hw52 => rfl); (case hy52 => (go_simp; (try with_reducible rfl))); (try simp only [Act.put, List.setIfInBounds_toArray, List.set_cons_zero, List.set_cons_succ]))
    refine TD.nil (fun w1 hr => ?_)
    have kr := hr.mod.at kr (fun h => h)
    have kq := hr.mod.at kq (fun h => h)
    have m1 := hr.mod
    go_wp2_with fail
    go_ret
    exact ⟨by rw [HD.out]; rfl, m1⟩
def sumH (L : List Hold) : Nat := (L.map fun h => h.a.c.toNat).sum
theorem sumH_le : ∀ L : List Hold, sumH L ≤ L.length * 18446744073709551616
  | [] => by simp [sumH]
  | p :: m => by
    have := sumH_le m
    have h2 := p.a.c.toNat_lt
    unfold sumH at this ⊢
    simp only [List.map_cons, List.sum_cons, List.length_cons]
    omega
theorem sumH_snoc {L : List Hold} {i : Nat} {x : Hold} (h : L[i]? = some x) : sumH (L.take (i + 1)) = sumH (L.take i) + x.a.c.toNat := by
  rw [List.take_add_one, h]
  simp [sumH]
theorem sumH_take (L : List Hold) (i : Nat) : sumH (L.take i) ≤ i * 18446744073709551616 := by
  refine Nat.le_trans (sumH_le _) (Nat.mul_le_mul_right _ ?_)
  rw [List.length_take]
  exact Nat.min_le_left _ _
set_option maxRecDepth 20000 in
set_option maxHeartbeats 1600000 in
theorem rcoins_c (r : Nat) (L : List Hold) (w : World) (h : RAt w r L) (hL : L.length ≤ 900000) : Calls Try.prog 21 #[.pointer (some ⟨r, 0, none⟩)] w fun e w' => e = .returned (.tuple #[.int .u64 ((sumH L / 18446744073709551616 : Nat) : Int), .int .u64 ((sumH L % 18446744073709551616 : Nat) : Int)]) ∧ Mod (fun _ => False) w w' := by
  obtain ⟨a, c, kr, hs⟩ := h.sl
  clear h
  go_enter Try.func21, Try.ntmps21
  go_wp2_with fail
  go_loopw [4, 5, 6, 7] (fun s4 s5 s6 s7 ws => ∃ i : Nat, i ≤ L.length ∧ s6 = .int .i64 (i : Int) ∧ s4 = .int .u64 ((sumH (L.take i) / 18446744073709551616 : Nat) : Int) ∧ s5 = .int .u64 ((sumH (L.take i) % 18446744073709551616 : Nat) : Int) ∧ Mod (fun _ => False) w ws) (fun _ _ s6 _ _ => L.length - (intOf s6).toNat)
  case atStart => exact ⟨0, by omega, rfl, by simp [sumH], by simp [sumH], Mod.refl _ _⟩
  case round =>
    obtain ⟨i, hi, rfl, rfl, rfl, mw⟩ := hrel
    have kr := mw.at0 kr
    by_cases hlt : i < L.length
    · obtain ⟨x, hx⟩ : ∃ x, L[i]? = some x := ⟨_, List.getElem?_eq_getElem hlt⟩
      obtain ⟨g, o, C, U, fr, rfl, kl, he, hle⟩ := (hs.mod0 mw).block hx
      obtain ⟨e1, e2⟩ := hd_part he
      have hc0 : C[o + i * 66 + 32]? = some (.int .u64 (x.a.c.toNat : Int)) := by
        have := cellC (j := 0) e2 (av_c x.a)
        simpa using this
      have hc := x.a.c.toNat_lt
      have HS := Lib.hid (sumH_snoc hx)
      have HSL := Lib.hid hs
      have hmul : i * 18446744073709551616 ≤ 900000 * 18446744073709551616 := Nat.mul_le_mul_right _ (by omega)
      have hst := sumH_take L i
      generalize hT : sumH (L.take i) = T at *
      generalize hy : x.a.c.toNat = y at *
      clear he e1 e2 hx hs hT hy
      have hw7 : IntKind.u64.wrap ((18446744073709551615 : Int) - (y : Int)) = ((18446744073709551615 - y : Nat) : Int) := by
        rw [IntKind.wrap_u64]
        omega
      have hw8 : IntKind.u64.wrap (((T % 18446744073709551616 : Nat) : Int) + (y : Int)) = (((T + y) % 18446744073709551616 : Nat) : Int) := by
        rw [IntKind.wrap_u64]
        omega
      by_cases hcc : 18446744073709551615 - y < T % 18446744073709551616
      · have hw9 : IntKind.u64.wrap (((T / 18446744073709551616 : Nat) : Int) + 1) = (((T + y) / 18446744073709551616 : Nat) : Int) := by
          rw [IntKind.wrap_u64]
          omega
        generalize h1 : (T + y) / 18446744073709551616 = hi2 at *
        generalize h2 : (T + y) % 18446744073709551616 = lo2 at *
        generalize T / 18446744073709551616 = hi1 at *
        generalize T % 18446744073709551616 = lo1 at *
        have H12 := Lib.hid (And.intro h1 h2)
        clear h1 h2 hst hmul hc
        go_upto_region 6 with fail
        have Lkl := lt_size kl
        have Lkr := lt_size kr
        refine wp_pass0 (C := fun _ _ _ => False) (κ := fun i => [0, 0, 0, 1, 0, 0, 0, 0, 1, 0].getD i 0) [0, 1, 2, 3, 4, 5, 6, 7, 8, 9] (by kernel_rfl) (by kernel_rfl) (fun _ _ d _ _ h => by cases d <;> exact h) ?_
        (refine TD.val0 (v := ?v53) (by simp only [List.getElem?_toArray, List.getElem?_cons_succ, List.getElem?_cons_zero]; rfl) rfl ?hw53 (fun w1 => ?hy53) ?hn53; (case hw53 => rfl); (case hy53 => (go_simp; (try with_reducible rfl))); (try simp only [Act.put, List.setIfInBounds_toArray, List.set_cons_zero, List.set_cons_succ]))
        (refine TD.val0 (v := ?v54) (by simp only [List.getElem?_toArray, List.getElem?_cons_succ, List.getElem?_cons_zero]; rfl) rfl ?hw54 (fun w1 => ?hy54) ?hn54; (case hw54 => rfl); (case hy54 => (go_simp; (try with_reducible rfl))); (try simp only [Act.put, List.setIfInBounds_toArray, List.set_cons_zero, List.set_cons_succ]))
        (refine TD.val0 (v := ?v55) (by simp only [List.getElem?_toArray, List.getElem?_cons_succ, List.getElem?_cons_zero]; rfl) rfl ?hw55 (fun w1 => ?hy55) ?hn55; (case hw55 => rfl); (case hy55 => (go_simp; (try with_reducible rfl))); (try simp only [Act.put, List.setIfInBounds_toArray, List.set_cons_zero, List.set_cons_succ]))
        (refine TD.load (v := ?v56) (p := ?p56) (Mod.refl _ _) (by simp only [List.getElem?_toArray, List.getElem?_cons_succ, List.getElem?_cons_zero]; rfl) rfl ?hw56 rfl ?hx56 (fun wq hSq => ?hy56) ?hn56; (case hw56 => rfl); (case hx56 => (simp only [Act.eval, Array.getD_eq_getD_getElem?, List.getElem?_toArray, List.getElem?_cons_succ, List.getElem?_cons_zero, Option.getD_some]; (try rfl))); (case hy56 => (have klq := hSq.at kl (fun h => h); have krq := hSq.at kr (fun h => h); go_simp; (try with_reducible rfl))); (try simp only [Act.put, List.setIfInBounds_toArray, List.set_cons_zero, List.set_cons_succ]))
        (refine TD.val0 (v := ?v57) (by simp only [List.getElem?_toArray, List.getElem?_cons_succ, List.getElem?_cons_zero]; rfl) rfl ?hw57 (fun w1 => ?hy57) ?hn57; (case hw57 => rfl); (case hy57 => (go_simp; (try with_reducible rfl))); (try simp only [Act.put, List.setIfInBounds_toArray, List.set_cons_zero, List.set_cons_succ]))
        (refine TD.val0 (v := ?v58) (by simp only [List.getElem?_toArray, List.getElem?_cons_succ, List.getElem?_cons_zero]; rfl) rfl ?hw58 (fun w1 => ?hy58) ?hn58; (case hw58 => rfl); (case hy58 => (go_simp; (try with_reducible rfl))); (try simp only [Act.put, List.setIfInBounds_toArray, List.set_cons_zero, List.set_cons_succ]))
        (refine TD.val0 (v := ?v59) (by simp only [List.getElem?_toArray, List.getElem?_cons_succ, List.getElem?_cons_zero]; rfl) rfl ?hw59 (fun w1 => ?hy59) ?hn59; (case hw59 => rfl); (case hy59 => (go_simp; (try with_reducible rfl))); (try simp only [Act.put, List.setIfInBounds_toArray, List.set_cons_zero, List.set_cons_succ]))
        (refine TD.val0 (v := ?v60) (by simp only [List.getElem?_toArray, List.getElem?_cons_succ, List.getElem?_cons_zero]; rfl) rfl ?hw60 (fun w1 => ?hy60) ?hn60; (case hw60 => rfl); (case hy60 => (go_simp; (try with_reducible rfl))); (try simp only [Act.put, List.setIfInBounds_toArray, List.set_cons_zero, List.set_cons_succ]))
        (refine TD.load (v := ?v61) (p := ?p61) (Mod.refl _ _) (by simp only [List.getElem?_toArray, List.getElem?_cons_succ, List.getElem?_cons_zero]; rfl) rfl ?hw61 rfl ?hx61 (fun wq hSq => ?hy61) ?hn61; (case hw61 => rfl); (case hx61 => (simp only [Act.eval, Array.getD_eq_getD_getElem?, List.getElem?_toArray, List.getElem?_cons_succ, List.getElem?_cons_zero, Option.getD_some]; (try rfl))); (case hy61 => (have klq := hSq.at kl (fun h => h); have krq := hSq.at kr (fun h => h); go_simp; (try with_reducible rfl))); (try simp only [Act.put, List.setIfInBounds_toArray, List.set_cons_zero, List.set_cons_succ]))
        (refine TD.val0 (v := ?v62) (by simp only [List.getElem?_toArray, List.getElem?_cons_succ, List.getElem?_cons_zero]; rfl) rfl ?hw62 (fun w1 => ?hy62) ?hn62; (case hw62 => rfl); (case hy62 => (go_simp; (try with_reducible rfl))); (try simp only [Act.put, List.setIfInBounds_toArray, List.set_cons_zero, List.set_cons_succ]))
        refine TD.nil (fun w2 hr => ?_)
        have kl := hr.mod.at kl (fun h => h)
        have kr := hr.mod.at kr (fun h => h)
        have mm := hr.mod
        clear hc0 kl hle
        go_wp2_with fail
        go_roundw
        case rel => exact ⟨i + 1, by omega, by go_num, by rw [HS.out, H12.out.1], by rw [HS.out, H12.out.2], mw.then0 mm⟩
        case measure => simp [intOf]; omega
      · have hw10 : T / 18446744073709551616 = (T + y) / 18446744073709551616 := by omega
        rw [hw10]
        generalize h1 : (T + y) / 18446744073709551616 = hi2 at *
        generalize h2 : (T + y) % 18446744073709551616 = lo2 at *
        generalize T % 18446744073709551616 = lo1 at *
        have H12 := Lib.hid (And.intro h1 h2)
        clear h1 h2 hst hmul hc hw10
        go_upto_region 6 with fail
        have Lkl := lt_size kl
        have Lkr := lt_size kr
        refine wp_pass0 (C := fun _ _ _ => False) (κ := fun i => [0, 0, 0, 1, 0, 0, 0, 0, 1, 0].getD i 0) [0, 1, 2, 3, 4, 5, 6, 7, 8, 9] (by kernel_rfl) (by kernel_rfl) (fun _ _ d _ _ h => by cases d <;> exact h) ?_
        (refine TD.val0 (v := ?v63) (by simp only [List.getElem?_toArray, List.getElem?_cons_succ, List.getElem?_cons_zero]; rfl) rfl ?hw63 (fun w1 => ?hy63) ?hn63; (case hw63 => rfl); (case hy63 => (go_simp; (try with_reducible rfl))); (try simp only [Act.put, List.setIfInBounds_toArray, List.set_cons_zero, List.set_cons_succ]))
        (refine TD.val0 (v := ?v64) (by simp only [List.getElem?_toArray, List.getElem?_cons_succ, List.getElem?_cons_zero]; rfl) rfl ?hw64 (fun w1 => ?hy64) ?hn64; (case hw64 => rfl); (case hy64 => (go_simp; (try with_reducible rfl))); (try simp only [Act.put, List.setIfInBounds_toArray, List.set_cons_zero, List.set_cons_succ]))
        (refine TD.val0 (v := ?v65) (by simp only [List.getElem?_toArray, List.getElem?_cons_succ, List.getElem?_cons_zero]; rfl) rfl ?hw65 (fun w1 => ?hy65) ?hn65; (case hw65 => rfl); (case hy65 => (go_simp; (try with_reducible rfl))); (try simp only [Act.put, List.setIfInBounds_toArray, List.set_cons_zero, List.set_cons_succ]))
        (refine TD.load (v := ?v66) (p := ?p66) (Mod.refl _ _) (by simp only [List.getElem?_toArray, List.getElem?_cons_succ, List.getElem?_cons_zero]; rfl) rfl ?hw66 rfl ?hx66 (fun wq hSq => ?hy66) ?hn66; (case hw66 => rfl); (case hx66 => (simp only [Act.eval, Array.getD_eq_getD_getElem?, List.getElem?_toArray, List.getElem?_cons_succ, List.getElem?_cons_zero, Option.getD_some]; (try rfl))); (case hy66 => (have klq := hSq.at kl (fun h => h); have krq := hSq.at kr (fun h => h); go_simp; (try with_reducible rfl))); (try simp only [Act.put, List.setIfInBounds_toArray, List.set_cons_zero, List.set_cons_succ]))
        (refine TD.val0 (v := ?v67) (by simp only [List.getElem?_toArray, List.getElem?_cons_succ, List.getElem?_cons_zero]; rfl) rfl ?hw67 (fun w1 => ?hy67) ?hn67; (case hw67 => rfl); (case hy67 => (go_simp; (try with_reducible rfl))); (try simp only [Act.put, List.setIfInBounds_toArray, List.set_cons_zero, List.set_cons_succ]))
        (refine TD.val0 (v := ?v68) (by simp only [List.getElem?_toArray, List.getElem?_cons_succ, List.getElem?_cons_zero]; rfl) rfl ?hw68 (fun w1 => ?hy68) ?hn68; (case hw68 => rfl); (case hy68 => (go_simp; (try with_reducible rfl))); (try simp only [Act.put, List.setIfInBounds_toArray, List.set_cons_zero, List.set_cons_succ]))
        (refine TD.val0 (v := ?v69) (by simp only [List.getElem?_toArray, List.getElem?_cons_succ, List.getElem?_cons_zero]; rfl) rfl ?hw69 (fun w1 => ?hy69) ?hn69; (case hw69 => rfl); (case hy69 => (go_simp; (try with_reducible rfl))); (try simp only [Act.put, List.setIfInBounds_toArray, List.set_cons_zero, List.set_cons_succ]))
        (refine TD.val0 (v := ?v70) (by simp only [List.getElem?_toArray, List.getElem?_cons_succ, List.getElem?_cons_zero]; rfl) rfl ?hw70 (fun w1 => ?hy70) ?hn70; (case hw70 => rfl); (case hy70 => (go_simp; (try with_reducible rfl))); (try simp only [Act.put, List.setIfInBounds_toArray, List.set_cons_zero, List.set_cons_succ]))
        (refine TD.load (v := ?v71) (p := ?p71) (Mod.refl _ _) (by simp only [List.getElem?_toArray, List.getElem?_cons_succ, List.getElem?_cons_zero]; rfl) rfl ?hw71 rfl ?hx71 (fun wq hSq => ?hy71) ?hn71; (case hw71 => rfl); (case hx71 => (simp only [Act.eval, Array.getD_eq_getD_getElem?, List.getElem?_toArray, List.getElem?_cons_succ, List.getElem?_cons_zero, Option.getD_some]; (try rfl))); (case hy71 => (have klq := hSq.at kl (fun h => h); have krq := hSq.at kr (fun h => h); go_simp; (try with_reducible rfl))); (try simp only [Act.put, List.setIfInBounds_toArray, List.set_cons_zero, List.set_cons_succ]))
        (refine TD.val0 (v := ?v72) (by simp only [List.getElem?_toArray, List.getElem?_cons_succ, List.getElem?_cons_zero]; rfl) rfl ?hw72 (fun w1 => ?hy72) ?hn72; (case hw72 => rfl); (case hy72 => (go_simp; (try with_reducible rfl))); (try simp only [Act.put, List.setIfInBounds_toArray, List.set_cons_zero, List.set_cons_succ]))
        refine TD.nil (fun w2 hr => ?_)
        have kl := hr.mod.at kl (fun h => h)
        have kr := hr.mod.at kr (fun h => h)
        have mm := hr.mod
        clear hc0 kl hle
        go_wp2_with fail
        go_roundw
        case rel => exact ⟨i + 1, by omega, by go_num, by rw [HS.out, H12.out.1], by rw [HS.out, H12.out.2], mw.then0 mm⟩
        case measure => simp [intOf]; omega
    · obtain rfl : i = L.length := by omega
      rw [List.take_length]
      clear hs
      go_wp2_with fail
      go_ret2
      exact ⟨rfl, mw⟩
set_option maxRecDepth 20000 in
set_option maxHeartbeats 1600000 in
theorem rcopy_c (r : Nat) (L : List Hold) (w : World) (h : RAt w r L) (hL : L.length ≤ 900000) : Calls Try.prog 16 #[.pointer (some ⟨r, 0, none⟩)] w fun e w' => ∃ q, e = .returned (.pointer (some ⟨q, 0, none⟩)) ∧ w.heap.size ≤ q ∧ RAt w' q L ∧ Mod (fun _ => False) w w' := by
  obtain ⟨a, c, kr, hs⟩ := h.sl
  clear h
  obtain ⟨v, w1, hap, hO, m1, _⟩ := SlOwn.append holdT (c := c) (SlOwn.nil w w.heap.size) hs (by simp; omega) (by decide) (Nat.le_refl _) 35
  have m1 : Mod (fun _ => False) w w1 := m1.mono (fun i _ e => by cases e)
  rw [List.nil_append] at hO
  obtain ⟨oa, oc, rfl, _⟩ := hO.at holdT
  have HO := Lib.hid hO
  have hol := Lib.hid hO.lt
  clear hO hs
  have hb : ∀ w, (Instr.build 50 #[(0, .slice oa L.length oc)]).run Try.prog w = .ok (.agg #[.slice oa L.length oc]) w := fun w => by
    refine run_build_struct (z := .agg #[.slice none 0 0]) (places := #[(0, 1)]) Try.underlying50 (fun w => by kernel_rfl) (fun w => by kernel_rfl) ?_ w
    show Instr.fill _ #[Value.slice none 0 0] [(0, _)] = _
    rw [fill_cons (off := 0) (n := 1) rfl rfl (by simp)]
    rfl
  go_enter Try.func16, Try.ntmps16
  go_upto_region 1 with fail
  refine region_seq 8 rfl ?_
  simp only [List.range, List.range.loop]
  (refine sq_val (v := ?v73) (by simp only [List.getElem?_toArray, List.getElem?_cons_succ, List.getElem?_cons_zero]; rfl) ?hw73 ?hy73 ?hn73; (case hw73 => rfl); (case hy73 => (go_simp; (try with_reducible rfl))); (try simp only [Act.put, List.setIfInBounds_toArray, List.set_cons_zero, List.set_cons_succ]))
  (refine sq_val (v := ?v74) (by simp only [List.getElem?_toArray, List.getElem?_cons_succ, List.getElem?_cons_zero]; rfl) ?hw74 ?hy74 ?hn74; (case hw74 => rfl); (case hy74 => (go_simp; (try with_reducible rfl))); (try simp only [Act.put, List.setIfInBounds_toArray, List.set_cons_zero, List.set_cons_succ]))
  (refine sq_val (v := ?v75) (by simp only [List.getElem?_toArray, List.getElem?_cons_succ, List.getElem?_cons_zero]; rfl) ?hw75 ?hy75 ?hn75; (case hw75 => rfl); (case hy75 => (go_simp; (try with_reducible rfl))); (try simp only [Act.put, List.setIfInBounds_toArray, List.set_cons_zero, List.set_cons_succ]))
  (refine sq_load (v := ?v76) (p := ?p76) (by simp only [List.getElem?_toArray, List.getElem?_cons_succ, List.getElem?_cons_zero]; rfl) ?hw76 rfl ?hx76 ?hy76 ?hn76; (case hw76 => rfl); (case hx76 => (simp only [Act.eval, Array.getD_eq_getD_getElem?, List.getElem?_toArray, List.getElem?_cons_succ, List.getElem?_cons_zero, Option.getD_some]; (try rfl))); (case hy76 => (go_simp; (try with_reducible rfl))); (try simp only [Act.put, List.setIfInBounds_toArray, List.set_cons_zero, List.set_cons_succ]))
  (refine sq_append (by simp only [List.getElem?_toArray, List.getElem?_cons_succ, List.getElem?_cons_zero]; rfl) ?hw77 rfl ?hx77 ?hz77 hap ?hn77; (case hw77 => rfl); (case hx77 => (simp only [Act.eval, Array.getD_eq_getD_getElem?, List.getElem?_toArray, List.getElem?_cons_succ, List.getElem?_cons_zero, Option.getD_some]; (try rfl))); (case hz77 => (simp only [Act.eval, Array.getD_eq_getD_getElem?, List.getElem?_toArray, List.getElem?_cons_succ, List.getElem?_cons_zero, Option.getD_some]; (try rfl))); (try simp only [Act.put, List.setIfInBounds_toArray, List.set_cons_zero, List.set_cons_succ]))
  (refine sq_bld (by simp only [List.getElem?_toArray, List.getElem?_cons_succ, List.getElem?_cons_zero]; rfl) ?hw78 rfl ?hx78 (hb _) ?hn78; (case hw78 => rfl); (case hx78 => (simp only [List.map_toArray, List.map_cons, List.map_nil, Act.eval, Array.getD_eq_getD_getElem?, List.getElem?_toArray, List.getElem?_cons_succ, List.getElem?_cons_zero, Option.getD_some]; (try rfl))); (try simp only [Act.put, List.setIfInBounds_toArray, List.set_cons_zero, List.set_cons_succ]))
  (refine sq_box (v := ?v79) (by simp only [List.getElem?_toArray, List.getElem?_cons_succ, List.getElem?_cons_zero]; rfl) ?hw79 rfl ?hx79 ?hn79; (case hw79 => rfl); (case hx79 => (simp only [Act.eval, Array.getD_eq_getD_getElem?, List.getElem?_toArray, List.getElem?_cons_succ, List.getElem?_cons_zero, Option.getD_some]; (try rfl))); dsimp only [Value.cells]; (try simp only [Act.put, List.setIfInBounds_toArray, List.set_cons_zero, List.set_cons_succ]))
  (refine sq_val (v := ?v80) (by simp only [List.getElem?_toArray, List.getElem?_cons_succ, List.getElem?_cons_zero]; rfl) ?hw80 ?hy80 ?hn80; (case hw80 => rfl); (case hy80 => (go_simp; (try with_reducible rfl))); (try simp only [Act.put, List.setIfInBounds_toArray, List.set_cons_zero, List.set_cons_succ]))
  refine sq_nil ?_
  go_wp2_with fail
  go_ret
  have hn := heap_alloc_new w1 (.cells #[.slice oa L.length oc] 50)
  have ma := (Mod.refl (fun _ => False) w1).alloc (.cells #[.slice oa L.length oc] 50)
  exact ⟨w1.heap.size, rfl, m1.size, ⟨_, hn, (HO.out.mod0 ma).base0⟩, m1.then0 ma⟩
end Go.Proofs.Ytknmiojegnbakaa
