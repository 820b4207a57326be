/- The document's own graph: how it lies; New, at, blocker. -/
import Derived.Test.YtffcnnogkpdinaaGcf
import Derived.Test.YtffcnnogkpdinaaGbw
namespace Go.Proofs.Ytffcnnogkpdinaa
open Go.RowKit
open Go.ChangeMaps (setBlock)
set_option linter.unusedSimpArgs false
set_option linter.unusedVariables false
attribute [local go_sem ↓] wlKey wlRole ldKey ldRole stKey stRole eqKey1
attribute [local go_sem] zKey_size zRole_size kc_ext rc_size rc_key rc_all rc_s rc_w rc_s' rc_w' rc_one one_int one_bool one_ptr one_slice one_map kc_one kc_one0 cell_blk frozen_blk Value.cells eqMap neMap
set_option maxHeartbeats 3200000 in
theorem hits0_c (a1 a2 : Option Addr) (l1 l2 : List Role) (c1 c2 : Nat) (w : World) (hl1 : RolesAt w a1 l1) (hl2 : RolesAt w a2 l2) (hlen1 : l1.length ≤ 1000000) (hlen2 : l2.length ≤ 1000000) :
    Calls Try.prog 41 #[.slice a1 l1.length c1, .slice a2 l2.length c2] w fun e w' => e = .returned (.bool (confl l1 l2)) ∧ Mod (fun _ => False) w w' := by
  go_enter Try.func41, Try.ntmps41
  go_wp2_with fail
  go_loopw [5] (fun s5 wr => ∃ i : Nat, i ≤ l1.length ∧ s5 = .int .i64 i ∧ Hid (confl (l1.take i) l2 = false) ∧ Mod (fun _ => False) w wr) (fun s5 _ => l1.length - (intOf s5).toNat)
  case atStart => exact ⟨0, by omega, rfl, Lib.hid (by simp [confl]), Mod.refl _ _⟩
  case round =>
    obtain ⟨i, hi, rfl, HA, hm⟩ := hrel
    obtain ⟨wo, rfl⟩ : ∃ wo : World, wo = wr := ⟨_, rfl⟩
    by_cases hlt : i < l1.length
    · obtain ⟨x, hx0⟩ : ∃ r, l1[i]? = some r := ⟨_, List.getElem?_eq_getElem hlt⟩
      have HN : Hid (confl (l1.take (i + 1)) l2 = l2.any (conflR x)) := Lib.hid (by
        have h1 := any_take (fun x => l2.any (conflR x)) l1 hx0
        have h2 := HA.out
        unfold confl at *
        rw [h1, h2, Bool.false_or])
      go_wp2_with fail
      go_loopw [6] (fun s6 wr => ∃ j : Nat, j ≤ l2.length ∧ s6 = .int .i64 j ∧ Hid ((l2.take j).any (conflR x) = false) ∧ Mod (fun _ => False) w wr) (fun s6 _ => l2.length - (intOf s6).toNat)
      case atStart => exact ⟨0, by omega, rfl, Lib.hid (by simp), hm⟩
      case round =>
        clear hm
        obtain ⟨j, hj, rfl, HB, hm⟩ := hrel
        by_cases hlt2 : j < l2.length
        · obtain ⟨y, hy0⟩ : ∃ r, l2[j]? = some r := ⟨_, List.getElem?_eq_getElem hlt2⟩
          have HN2 : Hid ((l2.take (j + 1)).any (conflR x) = conflR x y) := Lib.hid (by
            have h1 := any_take (conflR x) l2 hy0
            rw [h1, HB.out, Bool.false_or])
          obtain ⟨b1, o1, C1, U1, fr1, rfl, kl1, hx1, hle1⟩ := (SlAt.mod0 hl1 hm).block hx0
          obtain ⟨b2, o2, C2, U2, fr2, rfl, kl2, hx2, hle2⟩ := (SlAt.mod0 hl2 hm).block hy0
          have e1 := ext_key hx1
          have e2 := ext_key hx2
          have g1 := ext_w hx1
          have g2 := ext_w hx2
          have d1 : o1 + i * 34 + 32 ≤ C1.size := by omega
          have d2 : o2 + j * 34 + 32 ≤ C2.size := by omega
          clear hx1 hx2 hle1 hle2 hl1 hl2 hx0 hy0
          obtain ⟨k1, s1, w1⟩ := x
          obtain ⟨k2, s2, w2⟩ := y
          dsimp only at e1 e2 g1 g2
          have HC : Hid (conflR ⟨k1, s1, w1⟩ ⟨k2, s2, w2⟩ = (decide (k1 = k2) && (w1 || w2))) := Lib.hid rfl
          by_cases hk : k1 = k2
          · subst hk
            cases w1 with
            | true =>
              go_upto_region 7 with fail
              have Lkl1 := lt_size kl1
              have Lkl2 := lt_size kl2
              refine wp_pass (C := fun _ _ _ => False) (κ := fun i => [0, 0, 0, 0, 1, 0, 0, 0, 0, 1, 0, 0, 0, 0, 0, 0, 1, 0, 0, 0, 0, 0, 1, 0, 0].getD i 0) [0, 1, 2, 3, 4, 5, 6, 7, 8, 9, 10, 11, 12, 13, 14, 15, 16, 17, 18, 19, 20, 21, 22, 23, 24] (by kernel_rfl) (by kernel_rfl) (fun _ _ d _ _ h => by cases d <;> first | exact h | exact absurd h (hP _ _ _)) ?_
              (refine TD.val0 (v := ?v1) (by simp only [List.getElem?_toArray, List.getElem?_cons_succ, List.getElem?_cons_zero]; rfl) rfl ?hw1 (fun w1 => ?hy1) ?hn1; (case hw1 => rfl); (case hy1 => (go_simp; (try with_reducible rfl))); (try simp only [Act.put, List.setIfInBounds_toArray, List.set_cons_zero, List.set_cons_succ]))
              (refine TD.val0 (v := ?v2) (by simp only [List.getElem?_toArray, List.getElem?_cons_succ, List.getElem?_cons_zero]; rfl) rfl ?hw2 (fun w1 => ?hy2) ?hn2; (case hw2 => rfl); (case hy2 => (go_simp; (try with_reducible rfl))); (try simp only [Act.put, List.setIfInBounds_toArray, List.set_cons_zero, List.set_cons_succ]))
              (refine TD.val0 (v := ?v3) (by simp only [List.getElem?_toArray, List.getElem?_cons_succ, List.getElem?_cons_zero]; rfl) rfl ?hw3 (fun w1 => ?hy3) ?hn3; (case hw3 => rfl); (case hy3 => (go_simp; (try with_reducible rfl))); (try simp only [Act.put, List.setIfInBounds_toArray, List.set_cons_zero, List.set_cons_succ]))
              (refine TD.val0 (v := ?v4) (by simp only [List.getElem?_toArray, List.getElem?_cons_succ, List.getElem?_cons_zero]; rfl) rfl ?hw4 (fun w1 => ?hy4) ?hn4; (case hw4 => rfl); (case hy4 => (go_simp; (try with_reducible rfl))); (try simp only [Act.put, List.setIfInBounds_toArray, List.set_cons_zero, List.set_cons_succ]))
              (refine TD.load (v := ?v5) (p := ?p5) (Mod.refl _ _) (by simp only [List.getElem?_toArray, List.getElem?_cons_succ, List.getElem?_cons_zero]; rfl) rfl ?hw5 rfl ?hx5 (fun wq hSq => ?hy5) ?hn5; (case hw5 => rfl); (case hx5 => (simp only [Act.eval, Array.getD_eq_getD_getElem?, List.getElem?_toArray, List.getElem?_cons_succ, List.getElem?_cons_zero, Option.getD_some]; (try rfl))); (case hy5 => (have kl1q := hSq.at kl1 (fun h => h); have kl2q := hSq.at kl2 (fun h => h); go_simp; (try with_reducible rfl))); (try simp only [Act.put, List.setIfInBounds_toArray, List.set_cons_zero, List.set_cons_succ]))
              (refine TD.val0 (v := ?v6) (by simp only [List.getElem?_toArray, List.getElem?_cons_succ, List.getElem?_cons_zero]; rfl) rfl ?hw6 (fun w1 => ?hy6) ?hn6; (case hw6 => rfl); (case hy6 => (go_simp; (try with_reducible rfl))); (try simp only [Act.put, List.setIfInBounds_toArray, List.set_cons_zero, List.set_cons_succ]))
              (refine TD.val0 (v := ?v7) (by simp only [List.getElem?_toArray, List.getElem?_cons_succ, List.getElem?_cons_zero]; rfl) rfl ?hw7 (fun w1 => ?hy7) ?hn7; (case hw7 => rfl); (case hy7 => (go_simp; (try with_reducible rfl))); (try simp only [Act.put, List.setIfInBounds_toArray, List.set_cons_zero, List.set_cons_succ]))
              (refine TD.val0 (v := ?v8) (by simp only [List.getElem?_toArray, List.getElem?_cons_succ, List.getElem?_cons_zero]; rfl) rfl ?hw8 (fun w1 => ?hy8) ?hn8; (case hw8 => rfl); (case hy8 => (go_simp; (try with_reducible rfl))); (try simp only [Act.put, List.setIfInBounds_toArray, List.set_cons_zero, List.set_cons_succ]))
              (refine TD.val0 (v := ?v9) (by simp only [List.getElem?_toArray, List.getElem?_cons_succ, List.getElem?_cons_zero]; rfl) rfl ?hw9 (fun w1 => ?hy9) ?hn9; (case hw9 => rfl); (case hy9 => (go_simp; (try with_reducible rfl))); (try simp only [Act.put, List.setIfInBounds_toArray, List.set_cons_zero, List.set_cons_succ]))
              (refine TD.load (v := ?v10) (p := ?p10) (Mod.refl _ _) (by simp only [List.getElem?_toArray, List.getElem?_cons_succ, List.getElem?_cons_zero]; rfl) rfl ?hw10 rfl ?hx10 (fun wq hSq => ?hy10) ?hn10; (case hw10 => rfl); (case hx10 => (simp only [Act.eval, Array.getD_eq_getD_getElem?, List.getElem?_toArray, List.getElem?_cons_succ, List.getElem?_cons_zero, Option.getD_some]; (try rfl))); (case hy10 => (have kl1q := hSq.at kl1 (fun h => h); have kl2q := hSq.at kl2 (fun h => h); go_simp; (try with_reducible rfl))); (try simp only [Act.put, List.setIfInBounds_toArray, List.set_cons_zero, List.set_cons_succ]))
              (refine TD.val0 (v := ?v11) (by simp only [List.getElem?_toArray, List.getElem?_cons_succ, List.getElem?_cons_zero]; rfl) rfl ?hw11 (fun w1 => ?hy11) ?hn11; (case hw11 => rfl); (case hy11 => (go_simp; (try with_reducible rfl))); (try simp only [Act.put, List.setIfInBounds_toArray, List.set_cons_zero, List.set_cons_succ]))
              (refine TD.val0 (v := ?v12) (by simp only [List.getElem?_toArray, List.getElem?_cons_succ, List.getElem?_cons_zero]; rfl) rfl ?hw12 (fun w1 => ?hy12) ?hn12; (case hw12 => rfl); (case hy12 => (go_simp; (try with_reducible rfl))); (try simp only [Act.put, List.setIfInBounds_toArray, List.set_cons_zero, List.set_cons_succ]))
              (refine TD.val0 (v := ?v13) (by simp only [List.getElem?_toArray, List.getElem?_cons_succ, List.getElem?_cons_zero]; rfl) rfl ?hw13 (fun w1 => ?hy13) ?hn13; (case hw13 => rfl); (case hy13 => (go_simp; (try with_reducible rfl))); (try simp only [Act.put, List.setIfInBounds_toArray, List.set_cons_zero, List.set_cons_succ]))
              (refine TD.val0 (v := ?v14) (by simp only [List.getElem?_toArray, List.getElem?_cons_succ, List.getElem?_cons_zero]; rfl) rfl ?hw14 (fun w1 => ?hy14) ?hn14; (case hw14 => rfl); (case hy14 => (go_simp; (try with_reducible rfl))); (try simp only [Act.put, List.setIfInBounds_toArray, List.set_cons_zero, List.set_cons_succ]))
              (refine TD.val0 (v := ?v15) (by simp only [List.getElem?_toArray, List.getElem?_cons_succ, List.getElem?_cons_zero]; rfl) rfl ?hw15 (fun w1 => ?hy15) ?hn15; (case hw15 => rfl); (case hy15 => (go_simp; (try with_reducible rfl))); (try simp only [Act.put, List.setIfInBounds_toArray, List.set_cons_zero, List.set_cons_succ]))
              (refine TD.val0 (v := ?v16) (by simp only [List.getElem?_toArray, List.getElem?_cons_succ, List.getElem?_cons_zero]; rfl) rfl ?hw16 (fun w1 => ?hy16) ?hn16; (case hw16 => rfl); (case hy16 => (go_simp; (try with_reducible rfl))); (try simp only [Act.put, List.setIfInBounds_toArray, List.set_cons_zero, List.set_cons_succ]))
              (refine TD.load (v := ?v17) (p := ?p17) (Mod.refl _ _) (by simp only [List.getElem?_toArray, List.getElem?_cons_succ, List.getElem?_cons_zero]; rfl) rfl ?hw17 rfl ?hx17 (fun wq hSq => ?hy17) ?hn17; (case hw17 => rfl); (case hx17 => (simp only [Act.eval, Array.getD_eq_getD_getElem?, List.getElem?_toArray, List.getElem?_cons_succ, List.getElem?_cons_zero, Option.getD_some]; (try rfl))); (case hy17 => (have kl1q := hSq.at kl1 (fun h => h); have kl2q := hSq.at kl2 (fun h => h); go_simp; (try with_reducible rfl))); (try simp only [Act.put, List.setIfInBounds_toArray, List.set_cons_zero, List.set_cons_succ]))
              (refine TD.val0 (v := ?v18) (by simp only [List.getElem?_toArray, List.getElem?_cons_succ, List.getElem?_cons_zero]; rfl) rfl ?hw18 (fun w1 => ?hy18) ?hn18; (case hw18 => rfl); (case hy18 => (go_simp; (try with_reducible rfl))); (try simp only [Act.put, List.setIfInBounds_toArray, List.set_cons_zero, List.set_cons_succ]))
              (refine TD.pass (by simp only [List.getElem?_toArray, List.getElem?_cons_succ, List.getElem?_cons_zero]; rfl) rfl ?hw19 ?hn19; (case hw19 => rfl); (try simp only [Act.put, List.setIfInBounds_toArray, List.set_cons_zero, List.set_cons_succ]))
              (refine TD.pass (by simp only [List.getElem?_toArray, List.getElem?_cons_succ, List.getElem?_cons_zero]; rfl) rfl ?hw20 ?hn20; (case hw20 => rfl); (try simp only [Act.put, List.setIfInBounds_toArray, List.set_cons_zero, List.set_cons_succ]))
              (refine TD.pass (by simp only [List.getElem?_toArray, List.getElem?_cons_succ, List.getElem?_cons_zero]; rfl) rfl ?hw21 ?hn21; (case hw21 => rfl); (try simp only [Act.put, List.setIfInBounds_toArray, List.set_cons_zero, List.set_cons_succ]))
              (refine TD.pass (by simp only [List.getElem?_toArray, List.getElem?_cons_succ, List.getElem?_cons_zero]; rfl) rfl ?hw22 ?hn22; (case hw22 => rfl); (try simp only [Act.put, List.setIfInBounds_toArray, List.set_cons_zero, List.set_cons_succ]))
              (refine TD.pass1 (by simp only [List.getElem?_toArray, List.getElem?_cons_succ, List.getElem?_cons_zero]; rfl) rfl ?hw23 ?hn23; (case hw23 => rfl); (try simp only [Act.put, List.setIfInBounds_toArray, List.set_cons_zero, List.set_cons_succ]))
              (refine TD.val0 (v := ?v24) (by simp only [List.getElem?_toArray, List.getElem?_cons_succ, List.getElem?_cons_zero]; rfl) rfl ?hw24 (fun w1 => ?hy24) ?hn24; (case hw24 => rfl); (case hy24 => (go_simp; (try with_reducible rfl))); (try simp only [Act.put, List.setIfInBounds_toArray, List.set_cons_zero, List.set_cons_succ]))
              (refine TD.val0 (v := ?v25) (by simp only [List.getElem?_toArray, List.getElem?_cons_succ, List.getElem?_cons_zero]; rfl) rfl ?hw25 (fun w1 => ?hy25) ?hn25; (case hw25 => rfl); (case hy25 => (go_simp; (try with_reducible rfl))); (try simp only [Act.put, List.setIfInBounds_toArray, List.set_cons_zero, List.set_cons_succ]))
              refine TD.nil (fun w3 hr => ?_)
              have kl1 := hr.mod.at kl1 (fun h => h)
              have kl2 := hr.mod.at kl2 (fun h => h)
              have mm := hm.then0 hr.mod
              go_wp2_with fail
              go_ret
              exact ⟨by rw [show confl l1 l2 = true from any_of_take (by rw [show ((l1.take (i + 1)).any fun x => l2.any (conflR x)) = _ from HN.out]; exact any_of_take (by rw [HN2.out, HC.out]; simp))]; rfl, mm⟩
            | false =>
              go_upto_region 7 with fail
              have Lkl1 := lt_size kl1
              have Lkl2 := lt_size kl2
              refine wp_pass (C := fun _ _ _ => False) (κ := fun i => [0, 0, 0, 0, 1, 0, 0, 0, 0, 1, 0, 0, 0, 0, 0, 0, 1, 0, 0, 0, 0, 0, 1, 0, 0].getD i 0) [0, 1, 2, 3, 4, 5, 6, 7, 8, 9, 10, 11, 12, 13, 14, 15, 16, 17, 18, 19, 20, 21, 22, 23, 24] (by kernel_rfl) (by kernel_rfl) (fun _ _ d _ _ h => by cases d <;> first | exact h | exact absurd h (hP _ _ _)) ?_
              (refine TD.val0 (v := ?v26) (by simp only [List.getElem?_toArray, List.getElem?_cons_succ, List.getElem?_cons_zero]; rfl) rfl ?hw26 (fun w1 => ?hy26) ?hn26; (case hw26 => rfl); (case hy26 => (go_simp; (try with_reducible rfl))); (try simp only [Act.put, List.setIfInBounds_toArray, List.set_cons_zero, List.set_cons_succ]))
              (refine TD.val0 (v := ?v27) (by simp only [List.getElem?_toArray, List.getElem?_cons_succ, List.getElem?_cons_zero]; rfl) rfl ?hw27 (fun w1 => ?hy27) ?hn27; (case hw27 => rfl); (case hy27 => (go_simp; (try with_reducible rfl))); (try simp only [Act.put, List.setIfInBounds_toArray, List.set_cons_zero, List.set_cons_succ]))
              (refine TD.val0 (v := ?v28) (by simp only [List.getElem?_toArray, List.getElem?_cons_succ, List.getElem?_cons_zero]; rfl) rfl ?hw28 (fun w1 => ?hy28) ?hn28; (case hw28 => rfl); (case hy28 => (go_simp; (try with_reducible rfl))); (try simp only [Act.put, List.setIfInBounds_toArray, List.set_cons_zero, List.set_cons_succ]))
              (refine TD.val0 (v := ?v29) (by simp only [List.getElem?_toArray, List.getElem?_cons_succ, List.getElem?_cons_zero]; rfl) rfl ?hw29 (fun w1 => ?hy29) ?hn29; (case hw29 => rfl); (case hy29 => (go_simp; (try with_reducible rfl))); (try simp only [Act.put, List.setIfInBounds_toArray, List.set_cons_zero, List.set_cons_succ]))
              (refine TD.load (v := ?v30) (p := ?p30) (Mod.refl _ _) (by simp only [List.getElem?_toArray, List.getElem?_cons_succ, List.getElem?_cons_zero]; rfl) rfl ?hw30 rfl ?hx30 (fun wq hSq => ?hy30) ?hn30; (case hw30 => rfl); (case hx30 => (simp only [Act.eval, Array.getD_eq_getD_getElem?, List.getElem?_toArray, List.getElem?_cons_succ, List.getElem?_cons_zero, Option.getD_some]; (try rfl))); (case hy30 => (have kl1q := hSq.at kl1 (fun h => h); have kl2q := hSq.at kl2 (fun h => h); go_simp; (try with_reducible rfl))); (try simp only [Act.put, List.setIfInBounds_toArray, List.set_cons_zero, List.set_cons_succ]))
              (refine TD.val0 (v := ?v31) (by simp only [List.getElem?_toArray, List.getElem?_cons_succ, List.getElem?_cons_zero]; rfl) rfl ?hw31 (fun w1 => ?hy31) ?hn31; (case hw31 => rfl); (case hy31 => (go_simp; (try with_reducible rfl))); (try simp only [Act.put, List.setIfInBounds_toArray, List.set_cons_zero, List.set_cons_succ]))
              (refine TD.val0 (v := ?v32) (by simp only [List.getElem?_toArray, List.getElem?_cons_succ, List.getElem?_cons_zero]; rfl) rfl ?hw32 (fun w1 => ?hy32) ?hn32; (case hw32 => rfl); (case hy32 => (go_simp; (try with_reducible rfl))); (try simp only [Act.put, List.setIfInBounds_toArray, List.set_cons_zero, List.set_cons_succ]))
              (refine TD.val0 (v := ?v33) (by simp only [List.getElem?_toArray, List.getElem?_cons_succ, List.getElem?_cons_zero]; rfl) rfl ?hw33 (fun w1 => ?hy33) ?hn33; (case hw33 => rfl); (case hy33 => (go_simp; (try with_reducible rfl))); (try simp only [Act.put, List.setIfInBounds_toArray, List.set_cons_zero, List.set_cons_succ]))
              (refine TD.val0 (v := ?v34) (by simp only [List.getElem?_toArray, List.getElem?_cons_succ, List.getElem?_cons_zero]; rfl) rfl ?hw34 (fun w1 => ?hy34) ?hn34; (case hw34 => rfl); (case hy34 => (go_simp; (try with_reducible rfl))); (try simp only [Act.put, List.setIfInBounds_toArray, List.set_cons_zero, List.set_cons_succ]))
              (refine TD.load (v := ?v35) (p := ?p35) (Mod.refl _ _) (by simp only [List.getElem?_toArray, List.getElem?_cons_succ, List.getElem?_cons_zero]; rfl) rfl ?hw35 rfl ?hx35 (fun wq hSq => ?hy35) ?hn35; (case hw35 => rfl); (case hx35 => (simp only [Act.eval, Array.getD_eq_getD_getElem?, List.getElem?_toArray, List.getElem?_cons_succ, List.getElem?_cons_zero, Option.getD_some]; (try rfl))); (case hy35 => (have kl1q := hSq.at kl1 (fun h => h); have kl2q := hSq.at kl2 (fun h => h); go_simp; (try with_reducible rfl))); (try simp only [Act.put, List.setIfInBounds_toArray, List.set_cons_zero, List.set_cons_succ]))
              (refine TD.val0 (v := ?v36) (by simp only [List.getElem?_toArray, List.getElem?_cons_succ, List.getElem?_cons_zero]; rfl) rfl ?hw36 (fun w1 => ?hy36) ?hn36; (case hw36 => rfl); (case hy36 => (go_simp; (try with_reducible rfl))); (try simp only [Act.put, List.setIfInBounds_toArray, List.set_cons_zero, List.set_cons_succ]))
              (refine TD.val0 (v := ?v37) (by simp only [List.getElem?_toArray, List.getElem?_cons_succ, List.getElem?_cons_zero]; rfl) rfl ?hw37 (fun w1 => ?hy37) ?hn37; (case hw37 => rfl); (case hy37 => (go_simp; (try with_reducible rfl))); (try simp only [Act.put, List.setIfInBounds_toArray, List.set_cons_zero, List.set_cons_succ]))
              (refine TD.val0 (v := ?v38) (by simp only [List.getElem?_toArray, List.getElem?_cons_succ, List.getElem?_cons_zero]; rfl) rfl ?hw38 (fun w1 => ?hy38) ?hn38; (case hw38 => rfl); (case hy38 => (go_simp; (try with_reducible rfl))); (try simp only [Act.put, List.setIfInBounds_toArray, List.set_cons_zero, List.set_cons_succ]))
              (refine TD.val0 (v := ?v39) (by simp only [List.getElem?_toArray, List.getElem?_cons_succ, List.getElem?_cons_zero]; rfl) rfl ?hw39 (fun w1 => ?hy39) ?hn39; (case hw39 => rfl); (case hy39 => (go_simp; (try with_reducible rfl))); (try simp only [Act.put, List.setIfInBounds_toArray, List.set_cons_zero, List.set_cons_succ]))
              (refine TD.val0 (v := ?v40) (by simp only [List.getElem?_toArray, List.getElem?_cons_succ, List.getElem?_cons_zero]; rfl) rfl ?hw40 (fun w1 => ?hy40) ?hn40; (case hw40 => rfl); (case hy40 => (go_simp; (try with_reducible rfl))); (try simp only [Act.put, List.setIfInBounds_toArray, List.set_cons_zero, List.set_cons_succ]))
              (refine TD.val0 (v := ?v41) (by simp only [List.getElem?_toArray, List.getElem?_cons_succ, List.getElem?_cons_zero]; rfl) rfl ?hw41 (fun w1 => ?hy41) ?hn41; (case hw41 => rfl); (case hy41 => (go_simp; (try with_reducible rfl))); (try simp only [Act.put, List.setIfInBounds_toArray, List.set_cons_zero, List.set_cons_succ]))
              (refine TD.load (v := ?v42) (p := ?p42) (Mod.refl _ _) (by simp only [List.getElem?_toArray, List.getElem?_cons_succ, List.getElem?_cons_zero]; rfl) rfl ?hw42 rfl ?hx42 (fun wq hSq => ?hy42) ?hn42; (case hw42 => rfl); (case hx42 => (simp only [Act.eval, Array.getD_eq_getD_getElem?, List.getElem?_toArray, List.getElem?_cons_succ, List.getElem?_cons_zero, Option.getD_some]; (try rfl))); (case hy42 => (have kl1q := hSq.at kl1 (fun h => h); have kl2q := hSq.at kl2 (fun h => h); go_simp; (try with_reducible rfl))); (try simp only [Act.put, List.setIfInBounds_toArray, List.set_cons_zero, List.set_cons_succ]))
              (refine TD.val0 (v := ?v43) (by simp only [List.getElem?_toArray, List.getElem?_cons_succ, List.getElem?_cons_zero]; rfl) rfl ?hw43 (fun w1 => ?hy43) ?hn43; (case hw43 => rfl); (case hy43 => (go_simp; (try with_reducible rfl))); (try simp only [Act.put, List.setIfInBounds_toArray, List.set_cons_zero, List.set_cons_succ]))
              (refine TD.val0 (v := ?v44) (by simp only [List.getElem?_toArray, List.getElem?_cons_succ, List.getElem?_cons_zero]; rfl) rfl ?hw44 (fun w1 => ?hy44) ?hn44; (case hw44 => rfl); (case hy44 => (go_simp; (try with_reducible rfl))); (try simp only [Act.put, List.setIfInBounds_toArray, List.set_cons_zero, List.set_cons_succ]))
              (refine TD.val0 (v := ?v45) (by simp only [List.getElem?_toArray, List.getElem?_cons_succ, List.getElem?_cons_zero]; rfl) rfl ?hw45 (fun w1 => ?hy45) ?hn45; (case hw45 => rfl); (case hy45 => (go_simp; (try with_reducible rfl))); (try simp only [Act.put, List.setIfInBounds_toArray, List.set_cons_zero, List.set_cons_succ]))
              (refine TD.val0 (v := ?v46) (by simp only [List.getElem?_toArray, List.getElem?_cons_succ, List.getElem?_cons_zero]; rfl) rfl ?hw46 (fun w1 => ?hy46) ?hn46; (case hw46 => rfl); (case hy46 => (go_simp; (try with_reducible rfl))); (try simp only [Act.put, List.setIfInBounds_toArray, List.set_cons_zero, List.set_cons_succ]))
              (refine TD.val0 (v := ?v47) (by simp only [List.getElem?_toArray, List.getElem?_cons_succ, List.getElem?_cons_zero]; rfl) rfl ?hw47 (fun w1 => ?hy47) ?hn47; (case hw47 => rfl); (case hy47 => (go_simp; (try with_reducible rfl))); (try simp only [Act.put, List.setIfInBounds_toArray, List.set_cons_zero, List.set_cons_succ]))
              (refine TD.load (v := ?v48) (p := ?p48) (Mod.refl _ _) (by simp only [List.getElem?_toArray, List.getElem?_cons_succ, List.getElem?_cons_zero]; rfl) rfl ?hw48 rfl ?hx48 (fun wq hSq => ?hy48) ?hn48; (case hw48 => rfl); (case hx48 => (simp only [Act.eval, Array.getD_eq_getD_getElem?, List.getElem?_toArray, List.getElem?_cons_succ, List.getElem?_cons_zero, Option.getD_some]; (try rfl))); (case hy48 => (have kl1q := hSq.at kl1 (fun h => h); have kl2q := hSq.at kl2 (fun h => h); go_simp; (try with_reducible rfl))); (try simp only [Act.put, List.setIfInBounds_toArray, List.set_cons_zero, List.set_cons_succ]))
              (refine TD.val0 (v := ?v49) (by simp only [List.getElem?_toArray, List.getElem?_cons_succ, List.getElem?_cons_zero]; rfl) rfl ?hw49 (fun w1 => ?hy49) ?hn49; (case hw49 => rfl); (case hy49 => (go_simp; (try with_reducible rfl))); (try simp only [Act.put, List.setIfInBounds_toArray, List.set_cons_zero, List.set_cons_succ]))
              (refine TD.val0 (v := ?v50) (by simp only [List.getElem?_toArray, List.getElem?_cons_succ, List.getElem?_cons_zero]; rfl) rfl ?hw50 (fun w1 => ?hy50) ?hn50; (case hw50 => rfl); (case hy50 => (go_simp; (try with_reducible rfl))); (try simp only [Act.put, List.setIfInBounds_toArray, List.set_cons_zero, List.set_cons_succ]))
              refine TD.nil (fun w3 hr => ?_)
              have kl1 := hr.mod.at kl1 (fun h => h)
              have kl2 := hr.mod.at kl2 (fun h => h)
              have mm := hm.then0 hr.mod
              cases w2 with
              | true =>
                go_wp2_with fail
                go_ret
                exact ⟨by rw [show confl l1 l2 = true from any_of_take (by rw [show ((l1.take (i + 1)).any fun x => l2.any (conflR x)) = _ from HN.out]; exact any_of_take (by rw [HN2.out, HC.out]; simp))]; rfl, mm⟩
              | false =>
                go_wp2_with fail
                go_roundw
                case rel => exact ⟨j + 1, by omega, by go_num, Lib.hid (by rw [HN2.out, HC.out]; simp), mm⟩
                case measure => simp [intOf]; omega
          · go_upto_region 7 with fail
            have Lkl1 := lt_size kl1
            have Lkl2 := lt_size kl2
            refine wp_pass (C := fun _ _ _ => False) (κ := fun i => [0, 0, 0, 0, 1, 0, 0, 0, 0, 1, 0, 0, 0, 0, 0, 0, 1, 0, 0, 0, 0, 0, 1, 0, 0].getD i 0) [0, 1, 2, 3, 4, 5, 6, 7, 8, 9, 10, 11, 12, 13, 14, 15, 16, 17, 18, 19, 20, 21, 22, 23, 24] (by kernel_rfl) (by kernel_rfl) (fun _ _ d _ _ h => by cases d <;> first | exact h | exact absurd h (hP _ _ _)) ?_
            (refine TD.val0 (v := ?v51) (by simp only [List.getElem?_toArray, List.getElem?_cons_succ, List.getElem?_cons_zero]; rfl) rfl ?hw51 (fun w1 => ?hy51) ?hn51; (case hw51 => rfl); (case hy51 => (go_simp; (try with_reducible rfl))); (try simp only [Act.put, List.setIfInBounds_toArray, List.set_cons_zero, List.set_cons_succ]))
            (refine TD.val0 (v := ?v52) (by simp only [List.getElem?_toArray, List.getElem?_cons_succ, List.getElem?_cons_zero]; rfl) rfl ?hw52 (fun w1 => ?hy52) ?hn52; (case hw52 => rfl); (case hy52 => (go_simp; (try with_reducible rfl))); (try simp only [Act.put, List.setIfInBounds_toArray, List.set_cons_zero, List.set_cons_succ]))
            (refine TD.val0 (v := ?v53) (by simp only [List.getElem?_toArray, List.getElem?_cons_succ, List.getElem?_cons_zero]; rfl) rfl ?hw53 (fun w1 => ?hy53) ?hn53; (case hw53 => rfl); (case hy53 => (go_simp; (try with_reducible rfl))); (try simp only [Act.put, List.setIfInBounds_toArray, List.set_cons_zero, List.set_cons_succ]))
            (refine TD.val0 (v := ?v54) (by simp only [List.getElem?_toArray, List.getElem?_cons_succ, List.getElem?_cons_zero]; rfl) rfl ?hw54 (fun w1 => ?hy54) ?hn54; (case hw54 => rfl); (case hy54 => (go_simp; (try with_reducible rfl))); (try simp only [Act.put, List.setIfInBounds_toArray, List.set_cons_zero, List.set_cons_succ]))
            (refine TD.load (v := ?v55) (p := ?p55) (Mod.refl _ _) (by simp only [List.getElem?_toArray, List.getElem?_cons_succ, List.getElem?_cons_zero]; rfl) rfl ?hw55 rfl ?hx55 (fun wq hSq => ?hy55) ?hn55; (case hw55 => rfl); (case hx55 => (simp only [Act.eval, Array.getD_eq_getD_getElem?, List.getElem?_toArray, List.getElem?_cons_succ, List.getElem?_cons_zero, Option.getD_some]; (try rfl))); (case hy55 => (have kl1q := hSq.at kl1 (fun h => h); have kl2q := hSq.at kl2 (fun h => h); go_simp; (try with_reducible rfl))); (try simp only [Act.put, List.setIfInBounds_toArray, List.set_cons_zero, List.set_cons_succ]))
            (refine TD.val0 (v := ?v56) (by simp only [List.getElem?_toArray, List.getElem?_cons_succ, List.getElem?_cons_zero]; rfl) rfl ?hw56 (fun w1 => ?hy56) ?hn56; (case hw56 => rfl); (case hy56 => (go_simp; (try with_reducible rfl))); (try simp only [Act.put, List.setIfInBounds_toArray, List.set_cons_zero, List.set_cons_succ]))
            (refine TD.val0 (v := ?v57) (by simp only [List.getElem?_toArray, List.getElem?_cons_succ, List.getElem?_cons_zero]; rfl) rfl ?hw57 (fun w1 => ?hy57) ?hn57; (case hw57 => rfl); (case hy57 => (go_simp; (try with_reducible rfl))); (try simp only [Act.put, List.setIfInBounds_toArray, List.set_cons_zero, List.set_cons_succ]))
            (refine TD.val0 (v := ?v58) (by simp only [List.getElem?_toArray, List.getElem?_cons_succ, List.getElem?_cons_zero]; rfl) rfl ?hw58 (fun w1 => ?hy58) ?hn58; (case hw58 => rfl); (case hy58 => (go_simp; (try with_reducible rfl))); (try simp only [Act.put, List.setIfInBounds_toArray, List.set_cons_zero, List.set_cons_succ]))
            (refine TD.val0 (v := ?v59) (by simp only [List.getElem?_toArray, List.getElem?_cons_succ, List.getElem?_cons_zero]; rfl) rfl ?hw59 (fun w1 => ?hy59) ?hn59; (case hw59 => rfl); (case hy59 => (go_simp; (try with_reducible rfl))); (try simp only [Act.put, List.setIfInBounds_toArray, List.set_cons_zero, List.set_cons_succ]))
            (refine TD.load (v := ?v60) (p := ?p60) (Mod.refl _ _) (by simp only [List.getElem?_toArray, List.getElem?_cons_succ, List.getElem?_cons_zero]; rfl) rfl ?hw60 rfl ?hx60 (fun wq hSq => ?hy60) ?hn60; (case hw60 => rfl); (case hx60 => (simp only [Act.eval, Array.getD_eq_getD_getElem?, List.getElem?_toArray, List.getElem?_cons_succ, List.getElem?_cons_zero, Option.getD_some]; (try rfl))); (case hy60 => (have kl1q := hSq.at kl1 (fun h => h); have kl2q := hSq.at kl2 (fun h => h); go_simp; (try with_reducible rfl))); (try simp only [Act.put, List.setIfInBounds_toArray, List.set_cons_zero, List.set_cons_succ]))
            (refine TD.val0 (v := ?v61) (by simp only [List.getElem?_toArray, List.getElem?_cons_succ, List.getElem?_cons_zero]; rfl) rfl ?hw61 (fun w1 => ?hy61) ?hn61; (case hw61 => rfl); (case hy61 => (go_simp; (try with_reducible rfl))); (try simp only [Act.put, List.setIfInBounds_toArray, List.set_cons_zero, List.set_cons_succ]))
            (refine TD.val0 (v := ?v62) (by simp only [List.getElem?_toArray, List.getElem?_cons_succ, List.getElem?_cons_zero]; rfl) rfl ?hw62 (fun w1 => ?hy62) ?hn62; (case hw62 => rfl); (case hy62 => (go_simp; (try with_reducible rfl))); (try simp only [Act.put, List.setIfInBounds_toArray, List.set_cons_zero, List.set_cons_succ]))
            (refine TD.pass (by simp only [List.getElem?_toArray, List.getElem?_cons_succ, List.getElem?_cons_zero]; rfl) rfl ?hw63 ?hn63; (case hw63 => rfl); (try simp only [Act.put, List.setIfInBounds_toArray, List.set_cons_zero, List.set_cons_succ]))
            (refine TD.pass (by simp only [List.getElem?_toArray, List.getElem?_cons_succ, List.getElem?_cons_zero]; rfl) rfl ?hw64 ?hn64; (case hw64 => rfl); (try simp only [Act.put, List.setIfInBounds_toArray, List.set_cons_zero, List.set_cons_succ]))
            (refine TD.pass (by simp only [List.getElem?_toArray, List.getElem?_cons_succ, List.getElem?_cons_zero]; rfl) rfl ?hw65 ?hn65; (case hw65 => rfl); (try simp only [Act.put, List.setIfInBounds_toArray, List.set_cons_zero, List.set_cons_succ]))
            (refine TD.pass (by simp only [List.getElem?_toArray, List.getElem?_cons_succ, List.getElem?_cons_zero]; rfl) rfl ?hw66 ?hn66; (case hw66 => rfl); (try simp only [Act.put, List.setIfInBounds_toArray, List.set_cons_zero, List.set_cons_succ]))
            (refine TD.pass1 (by simp only [List.getElem?_toArray, List.getElem?_cons_succ, List.getElem?_cons_zero]; rfl) rfl ?hw67 ?hn67; (case hw67 => rfl); (try simp only [Act.put, List.setIfInBounds_toArray, List.set_cons_zero, List.set_cons_succ]))
            (refine TD.pass (by simp only [List.getElem?_toArray, List.getElem?_cons_succ, List.getElem?_cons_zero]; rfl) rfl ?hw68 ?hn68; (case hw68 => rfl); (try simp only [Act.put, List.setIfInBounds_toArray, List.set_cons_zero, List.set_cons_succ]))
            (refine TD.pass (by simp only [List.getElem?_toArray, List.getElem?_cons_succ, List.getElem?_cons_zero]; rfl) rfl ?hw69 ?hn69; (case hw69 => rfl); (try simp only [Act.put, List.setIfInBounds_toArray, List.set_cons_zero, List.set_cons_succ]))
            (refine TD.pass (by simp only [List.getElem?_toArray, List.getElem?_cons_succ, List.getElem?_cons_zero]; rfl) rfl ?hw70 ?hn70; (case hw70 => rfl); (try simp only [Act.put, List.setIfInBounds_toArray, List.set_cons_zero, List.set_cons_succ]))
            (refine TD.pass (by simp only [List.getElem?_toArray, List.getElem?_cons_succ, List.getElem?_cons_zero]; rfl) rfl ?hw71 ?hn71; (case hw71 => rfl); (try simp only [Act.put, List.setIfInBounds_toArray, List.set_cons_zero, List.set_cons_succ]))
            (refine TD.pass (by simp only [List.getElem?_toArray, List.getElem?_cons_succ, List.getElem?_cons_zero]; rfl) rfl ?hw72 ?hn72; (case hw72 => rfl); (try simp only [Act.put, List.setIfInBounds_toArray, List.set_cons_zero, List.set_cons_succ]))
            (refine TD.pass1 (by simp only [List.getElem?_toArray, List.getElem?_cons_succ, List.getElem?_cons_zero]; rfl) rfl ?hw73 ?hn73; (case hw73 => rfl); (try simp only [Act.put, List.setIfInBounds_toArray, List.set_cons_zero, List.set_cons_succ]))
            (refine TD.pass (by simp only [List.getElem?_toArray, List.getElem?_cons_succ, List.getElem?_cons_zero]; rfl) rfl ?hw74 ?hn74; (case hw74 => rfl); (try simp only [Act.put, List.setIfInBounds_toArray, List.set_cons_zero, List.set_cons_succ]))
            (refine TD.val0 (v := ?v75) (by simp only [List.getElem?_toArray, List.getElem?_cons_succ, List.getElem?_cons_zero]; rfl) rfl ?hw75 (fun w1 => ?hy75) ?hn75; (case hw75 => rfl); (case hy75 => (go_simp; (try with_reducible rfl))); (try simp only [Act.put, List.setIfInBounds_toArray, List.set_cons_zero, List.set_cons_succ]))
            refine TD.nil (fun w3 hr => ?_)
            have kl1 := hr.mod.at kl1 (fun h => h)
            have kl2 := hr.mod.at kl2 (fun h => h)
            have mm := hm.then0 hr.mod
            go_wp2_with fail
            go_roundw
            case rel => exact ⟨j + 1, by omega, by go_num, Lib.hid (by rw [HN2.out, HC.out]; simp [hk]), mm⟩
            case measure => simp [intOf]; omega
        · obtain rfl : j = l2.length := by omega
          have HB2 : Hid (l2.any (conflR x) = false) := Lib.hid (by have := HB.out; rwa [List.take_length] at this)
          go_wp2_with fail
          go_roundw
          case rel => exact ⟨i + 1, by omega, by go_num, Lib.hid (by rw [HN.out, HB2.out]), hm⟩
          case measure => simp [intOf]; omega
    · obtain rfl : i = l1.length := by omega
      go_wp2_with fail
      go_ret
      have := HA.out
      rw [List.take_length] at this
      exact ⟨by rw [this]; rfl, hm⟩
theorem hits_c (a1 a2 : Option Addr) (l1 l2 : List Role) (c1 c2 : Nat) (w : World) (hl1 : RolesAt w a1 l1) (hl2 : RolesAt w a2 l2) (hlen1 : l1.length ≤ 1000000) (hlen2 : l2.length ≤ 1000000) :
    Calls Try.prog 41 #[.slice a1 l1.length c1, .slice a2 l2.length c2] w fun e w' => e = .returned (.bool (conf l1 l2)) ∧ Mod (fun _ => False) w w' := hits0_c a1 a2 l1 l2 c1 c2 w hl1 hl2 hlen1 hlen2
section
variable {α : Type} {f : α → Array Value} {n B : Nat} {P : Program} {T E : TypeId}
/-- The first ones, and those behind them, of a slice. -/
theorem SlAt.take {w : World} {a : Option Addr} {l : List α} (h : SlAt f n w a l) (k : Nat) : SlAt f n w a (l.take k) := by
  rcases h with rfl | ⟨b, o, C, U, fr, rfl, hb, hc⟩
  · exact .inl (by simp)
  · refine .inr ⟨b, o, C, U, fr, rfl, hb, fun i x hx => hc i x ?_⟩
    rw [List.getElem?_take] at hx
    split at hx
    · exact hx
    · cases hx
theorem SlAt.drop {w : World} {g o : Nat} {l : List α} (h : SlAt f n w (some ⟨g, o, none⟩) l) (k : Nat) : SlAt f n w (some ⟨g, o + k * n, none⟩) (l.drop k) := by
  rcases h with rfl | ⟨b, o', C, U, fr, e, hb, hc⟩
  · exact .inl (by simp)
  · cases e
    refine .inr ⟨g, _, C, U, fr, rfl, hb, fun i x hx => ?_⟩
    rw [List.getElem?_drop] at hx
    have := hc (k + i) x hx
    rw [Nat.add_mul, ← Nat.add_assoc] at this
    exact this
theorem own_takeR (hT : ElT P T E f n B) {w : World} {base : Nat} {v : Value} {l : List α} (h : SlOwn f n E w base v l) {k : Nat} (hk : k ≤ l.length) :
    ∃ a c, (∀ w2, (Instr.sliceAt T v none (some (.int .i64 (k : Int))) none).run P w2 = .ok (.slice a k c) w2) ∧ SlAt f n w a (l.take k) ∧ ∀ b o, a = some ⟨b, o, none⟩ → v.ownBlock = some b := by
  obtain ⟨a, c, h1, h2, h3, h4⟩ := h.at hT
  rcases h.2 with ⟨rfl, hn⟩ | ⟨g, cap, cur, rfl, hb, hg, hnc, hcm, hcs, htake⟩
  · obtain rfl : l = [] := List.eq_nil_of_length_eq_zero hn
    obtain rfl : k = 0 := by simpa using hk
    obtain ⟨i0, z, hi, hz, hz1, hz2, hz3⟩ := hT.info
    refine ⟨none, 0, fun w2 => ?_, .inl (by simp), fun b o e => by cases e⟩
    simp only [Instr.sliceAt, Instr.slice, Instr.sliceBounds, Instr.sliceBound, asIntOf, sizeOf, typeInfo, run_underlying hT.u, hi, Sem.run_bind, Sem.run_pure, Result.andThen_ok]
    rw [if_pos ⟨by omega, by omega⟩]
    simp [Sem.run_pure, Result.andThen_ok, Go.program, Sem.run, hi, hz1]
  · injection h1 with e1 e2 e3
    subst e1
    exact ⟨_, cap, fun w2 => sl_take hT (by omega) w2, h2.take k, fun b o e => by cases e; rfl⟩
theorem own_dropR (hT : ElT P T E f n B) {w : World} {base : Nat} {v : Value} {l : List α} (h : SlOwn f n E w base v l) {k : Nat} (hk : k ≤ l.length) :
    ∃ a c, (∀ w2, (Instr.sliceAt T v (some (.int .i64 (k : Int))) none none).run P w2 = .ok (.slice a (l.drop k).length c) w2) ∧ SlAt f n w a (l.drop k) ∧ ∀ b o, a = some ⟨b, o, none⟩ → v.ownBlock = some b := by
  obtain ⟨a, c, h1, h2, h3, h4⟩ := h.at hT
  rcases h.2 with ⟨rfl, hn⟩ | ⟨g, cap, cur, rfl, hb, hg, hnc, hcm, hcs, htake⟩
  · obtain rfl : l = [] := List.eq_nil_of_length_eq_zero hn
    obtain rfl : k = 0 := by simpa using hk
    obtain ⟨i0, z, hi, hz, hz1, hz2, hz3⟩ := hT.info
    refine ⟨none, 0, fun w2 => ?_, .inl (by simp), fun b o e => by cases e⟩
    simp only [Instr.sliceAt, Instr.slice, Instr.sliceBounds, Instr.sliceBound, asIntOf, sizeOf, typeInfo, run_underlying hT.u, hi, Sem.run_bind, Sem.run_pure, Result.andThen_ok]
    rw [if_pos ⟨by omega, by omega⟩]
    simp [Sem.run_pure, Result.andThen_ok, Go.program, Sem.run, hi, hz1]
  · injection h1 with e1 e2 e3
    subst e1
    refine ⟨some (if cap = k then ⟨g, 0, none⟩ else ⟨g, 0 + k * n, none⟩), cap - k, fun w2 => ?_, ?_, fun b o e => by split at e <;> cases e <;> rfl⟩
    · rw [sl_drop hT hk hnc w2, List.length_drop]
    · by_cases hc : cap = k
      · rw [if_pos hc, List.drop_of_length_le (by omega)]
        exact .inl rfl
      · rw [if_neg hc]
        exact h2.drop k
end
/-- A node of the document's graph: what it is, and where its roles lie. -/
structure Nq where
  x : Rn
  a : Option Addr
  c : Nat
def nq (y : Nq) : Array Value := #[.int .i64 y.x.id.toInt, .int .i64 y.x.ch.toInt, .slice y.a y.x.l.length y.c]
@[simp] theorem nq_size (y : Nq) : (nq y).size = 3 := rfl
theorem nqT : ElT Try.prog 47 51 nq 3 40 where
  u := Try.underlying47
  info := by
    obtain ⟨i0, hi, hz0, hz1, hz2⟩ := info_parts (show (Try.prog.info? 51).map (fun i => (i.zero, i.size, i.bytes)) = some (some (.agg #[.int .i64 0, .int .i64 0, .slice none 0 0]), 3, 40) by kernel_rfl)
    exact ⟨i0, _, hi, hz0, hz1, hz2, rfl⟩
  pos := by omega
  size x := rfl
  one x u hu := by
    simp [nq] at hu
    rcases hu with rfl | rfl | rfl <;> rfl
theorem rc_onecell (k : Key) (s b : Bool) : ∀ u ∈ (rc k s b).toList, u.oneCell' = true := by
  intro u hu
  unfold rc kx kc at hu
  simp at hu
  rcases hu with ⟨n, _, rfl⟩ | rfl | rfl
  · rfl
  · rfl
  · rfl
theorem roleT : ElT Try.prog 32 31 rcr 34 34 where
  u := Try.underlying32
  info := by
    obtain ⟨i0, hi, hz0, hz1, hz2⟩ := info_parts (show (Try.prog.info? 31).map (fun i => (i.zero, i.size, i.bytes)) = some (some (.agg zRole), 34, 34) by kernel_rfl)
    exact ⟨i0, _, hi, hz0, hz1, hz2, zRole_size⟩
  pos := by omega
  size r := rc_size _ _ _
  one r := rc_onecell _ _ _
theorem nq_at {w : World} {a : Option Addr} {L : List Nq} (h : SlAt nq 3 w a L) {i : Nat} {y : Nq} (hx : L[i]? = some y) : ∃ b o C U fr, a = some ⟨b, o, none⟩ ∧ w.heap[b]? = some (.cells C U fr) ∧ C[o + i * 3]? = some (.int .i64 y.x.id.toInt) ∧ C[o + i * 3 + 1]? = some (.int .i64 y.x.ch.toInt) ∧ C[o + i * 3 + 2]? = some (.slice y.a y.x.l.length y.c) := by
  obtain ⟨b, o, C, U, fr, rfl, hk, he, _⟩ := h.block hx
  exact ⟨b, o, C, U, fr, rfl, hk, by simpa using cellC he (j := 0) (v := .int .i64 y.x.id.toInt) rfl, cellC he (j := 1) (v := .int .i64 y.x.ch.toInt) rfl, cellC he (j := 2) (v := .slice y.a y.x.l.length y.c) rfl⟩
/-- The document's graph at p, of the nodes L. -/
def RQ (p : Nat) (L : List Nq) (T : Nat → Prop) (w : World) : Prop := ∃ v, w.heap[p]? = some (.cells #[v] 49 (0, 0)) ∧ SlOwn nq 3 51 w 0 v L ∧ T p ∧ (∀ g, v.ownBlock = some g → T g) ∧ ∀ y ∈ L, RolesAt w y.a y.x.l ∧ (∀ b o, y.a = some ⟨b, o, none⟩ → T b ∧ b ≠ p ∧ v.ownBlock ≠ some b) ∧ y.x.l.length ≤ 1000
theorem RQ.good (p : Nat) (L : List Nq) : Good (RQ p L) where
  cl := by
    rintro T w w' ⟨v, k, hO, hp, hg, hr⟩ hm
    exact ⟨v, hm.at k (fun h => h hp), hO.mod hm (fun g hv h => h (hg g hv)), hp, hg, fun y hy => ⟨SlAt.mod (hr y hy).1 hm (fun b o e h => h ((hr y hy).2.1 b o e).1), (hr y hy).2⟩⟩
  gr := by
    rintro T T' w hT ⟨v, k, hO, hp, hg, hr⟩
    exact ⟨v, k, hO, hT _ hp, fun g hv => hT _ (hg g hv), fun y hy => ⟨(hr y hy).1, fun b o e => ⟨hT _ ((hr y hy).2.1 b o e).1, ((hr y hy).2.1 b o e).2⟩, (hr y hy).2.2⟩⟩
theorem RQ.mod0 {p : Nat} {L : List Nq} {T : Nat → Prop} {w w' : World} (h : RQ p L T w) (hm : Mod (fun _ => False) w w') : RQ p L T w' := (RQ.good p L).cl T w w' h (hm.mono (fun _ _ h => h.elim))
theorem RQ.sl {w : World} {p : Nat} {L : List Nq} {T : Nat → Prop} (h : RQ p L T w) : ∃ a c, w.heap[p]? = some (.cells #[.slice a L.length c] 49 (0, 0)) ∧ SlAt nq 3 w a L := by
  obtain ⟨v, k, hO, _⟩ := h
  obtain ⟨a, c, rfl, hs, _⟩ := hO.at nqT
  exact ⟨a, c, k, hs⟩
theorem RQ.roles {w : World} {p : Nat} {L : List Nq} {T : Nat → Prop} (h : RQ p L T w) : ∀ y ∈ L, RolesAt w y.a y.x.l ∧ y.x.l.length ≤ 1000 := fun y hy => by
  obtain ⟨v, k, hO, _, _, hr⟩ := h
  exact ⟨(hr y hy).1, (hr y hy).2.2⟩
theorem bldG (w : World) : (Instr.build 49 #[]).run Try.prog w = .ok (.agg #[.slice none 0 0]) w := by kernel_rfl
theorem qnew_c (w : World) : Calls Try.prog 15 #[] w fun e w' => e = .returned (ptrV w.heap.size) ∧ w' = w.alloc (.cells #[.slice none 0 0] 49) := by
  have hb := bldG
  go_enter Try.func15, Try.ntmps15
  go_wp2_with fail
  go_ret
  exact ⟨rfl, rfl⟩
set_option maxHeartbeats 1600000 in
theorem qat_c {p : Nat} {L : List Nq} {T : Nat → Prop} {w : World} (h : RQ p L T w) (id : Int64) (hL : L.length ≤ 900000) : Calls Try.prog 33 #[ptrV p, .int .i64 id.toInt] w fun e w' =>
    ((∃ (i : Nat) (x : Nq), e = .returned (.int .i64 (i : Int)) ∧ L[i]? = some x ∧ x.x.id = id) ∨ (e = .returned (.int .i64 (-1)) ∧ ∀ x ∈ L, x.x.id ≠ id)) ∧ Mod (fun _ => False) w w' := by
  obtain ⟨a, c, kr, hs⟩ := h.sl
  clear h
  go_enter Try.func33, Try.ntmps33
  go_wp2_with fail
  go_loopw [5] (fun s5 ws => ∃ i : Nat, i ≤ L.length ∧ s5 = .int .i64 (i : Int) ∧ Hid (∀ j x, j < i → L[j]? = some x → x.x.id ≠ id) ∧ Mod (fun _ => False) w ws) (fun s5 _ => L.length - (intOf s5).toNat)
  case atStart => exact ⟨0, by omega, rfl, Lib.hid (fun j x hj => by omega), Mod.refl _ _⟩
  case round =>
    obtain ⟨i, hi, rfl, HG, hm⟩ := hrel
    have kr := hm.at0 kr
    by_cases hlt : i < L.length
    · obtain ⟨x, hx⟩ : ∃ x, L[i]? = some x := ⟨_, List.getElem?_eq_getElem hlt⟩
      obtain ⟨g, o, C, U, fr, rfl, kl, he, _, _⟩ := nq_at (hs.mod0 hm) hx
      have HX := Lib.hid hx
      clear hx hs
      by_cases hxk : x.x.id = id
      · have hde : (x.x.id.toInt == id.toInt) = true := by rw [hxk]; simp
        have HK := Lib.hid hxk
        clear hxk
        go_wp2_with fail
        go_ret
        exact ⟨.inl ⟨i, x, rfl, HX.out, HK.out⟩, hm⟩
      · have hde : (x.x.id.toInt == id.toInt) = false := by
          rw [beq_eq_false_iff_ne]
          exact fun e => hxk (Int64.toInt_inj.1 e)
        have HK := Lib.hid hxk
        clear hxk
        go_wp2_with fail
        go_roundw
        case rel => exact ⟨i + 1, by omega, by go_num, Lib.hid (fun j y hj hy => by
          by_cases e : j = i
          · subst e
            rw [HX.out] at hy
            cases hy
            exact HK.out
          · exact HG.out j y (by omega) hy), hm⟩
        case measure => simp [intOf]; omega
    · obtain rfl : i = L.length := by omega
      go_wp2_with fail
      go_ret
      refine ⟨.inr ⟨rfl, fun x hx => ?_⟩, hm⟩
      obtain ⟨j, hj⟩ := List.mem_iff_getElem?.1 hx
      exact HG.out j x (List.getElem?_eq_some_iff.1 hj).1 hj
/-- The latest of the first n that conflicts. -/
theorem lastHit_some {K : List Rn} {n i : Nat} {x : Rn} {l : List Role} (hi : i < n) (hx : K[i]? = some x) (hc : conf x.l l = true) (hn : ∀ j y, i < j → j < n → K[j]? = some y → conf y.l l = false) : ((K.take n).filter fun y => conf y.l l).getLast? = some x := by
  have h1 : K.take n = K.take i ++ x :: (K.take n).drop (i + 1) := by
    have h2 : (K.take n)[i]? = some x := by rw [List.getElem?_take, if_pos hi, hx]
    have h3 := split_at h2
    rw [List.take_take, Nat.min_eq_left (by omega)] at h3
    exact h3
  have h4 : ((K.take n).drop (i + 1)).filter (fun y => conf y.l l) = [] := by
    rw [List.filter_eq_nil_iff]
    intro y hy hh
    obtain ⟨j, hj⟩ := List.mem_iff_getElem?.1 hy
    rw [List.getElem?_drop, List.getElem?_take] at hj
    split at hj
    · have := hn _ y (by omega) (by omega) hj
      rw [this] at hh
      cases hh
    · cases hj
  rw [h1, List.filter_append, List.filter_cons, if_pos hc, h4]
  simp
theorem lastHit_none {K : List Rn} {n : Nat} {l : List Role} (hn : ∀ j y, j < n → K[j]? = some y → conf y.l l = false) : (K.take n).any (fun y => conf y.l l) = false := by
  rw [List.any_eq_false]
  intro y hy hh
  obtain ⟨j, hj⟩ := List.mem_iff_getElem?.1 hy
  rw [List.getElem?_take] at hj
  split at hj
  · have := hn j y (by assumption) hj
    rw [this] at hh
    cases hh
  · cases hj
end Go.Proofs.Ytffcnnogkpdinaa
