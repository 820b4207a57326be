/- The walks of accounts.Put, Coins; of stores that are not there. -/
import Derived.Test.YtknmiojegnbakaaSt
import Derived.Shelf.Spec.BitsCarry
namespace Go.Proofs.Ytknmiojegnbakaa
open Go.RowKit
open Go.ChangeMaps (setBlock)
set_option linter.unusedSimpArgs false
set_option linter.unusedVariables false
attribute [local go_sem ↓] wlKey ldKey stKey wlAcct ldAcct stAcct wlHold ldHold stHold eqKey1 eqAcct eqHold
attribute [local go_sem] eqMap neMap av_size av_c av_s av_c' av_s' av_o av_all av_one hd_size hd_key hd_acct hd_all hd_one zKey_size zAcct_size zHold_size cell_blk frozen_blk kc_ext one_int one_bool one_ptr one_slice one_map kc_one kc_one0 kc_size Value.cells
def PutPost (w : World) (p b : Nat) (m : List (Key × Acct)) (w' : World) : Prop := StAt w' p b m ∧ Mod (fun i => i = b) w w'
set_option maxHeartbeats 1600000 in
theorem put_zero (p b : Nat) (m : List (Key × Acct)) (k : Key)  (w : World) (h : StAt w p b m)  : Calls Try.prog 13 #[.pointer (some ⟨p, 0, none⟩), .agg (kc k), .agg (av acct0)] w fun e w' => e = .returned (.int .i64 0) ∧ PutPost w p b (del k m) w' := by
  obtain ⟨kp, es, cl, kb, M⟩ := id h
  obtain ⟨lp, lb, hpb⟩ := h.lt
  have H := Lib.hid h
  clear h lp lb
  have hb0 := build0
  go_enter Try.func13, Try.ntmps13
  go_upto_region 0 with fail
  have Lkp := lt_size kp
  have Lkb := lt_size kb
  refine wp_pass0 (C := fun _ _ _ => False) (κ := fun i => [3, 3, 0].getD i 0) [0, 1, 2] (by kernel_rfl) (by kernel_rfl) (fun _ _ d _ _ h => by cases d <;> exact h) ?_
  (refine TD.box (v := ?v1) (by simp only [List.getElem?_toArray, List.getElem?_cons_succ, List.getElem?_cons_zero]; rfl) rfl ?hw1 rfl rfl ?hx1 (fun p4 hp4 => ?hn1); (case hw1 => rfl); (case hx1 => (simp only [Act.eval, Array.getD_eq_getD_getElem?, List.getElem?_toArray, List.getElem?_cons_succ, List.getElem?_cons_zero, Option.getD_some]; (try rfl))); (try simp only [Act.put, List.setIfInBounds_toArray, List.set_cons_zero, List.set_cons_succ]))
  (refine TD.box (v := ?v2) (by simp only [List.getElem?_toArray, List.getElem?_cons_succ, List.getElem?_cons_zero]; rfl) rfl ?hw2 rfl rfl ?hx2 (fun p5 hp5 => ?hn2); (case hw2 => rfl); (case hx2 => (simp only [Act.eval, Array.getD_eq_getD_getElem?, List.getElem?_toArray, List.getElem?_cons_succ, List.getElem?_cons_zero, Option.getD_some]; (try rfl))); (try simp only [Act.put, List.setIfInBounds_toArray, List.set_cons_zero, List.set_cons_succ]))
  obtain ⟨ne_p5_p4, hp5⟩ := Bx.set_none hp5
  (refine TD.val0 (v := ?v3) (by simp only [List.getElem?_toArray, List.getElem?_cons_succ, List.getElem?_cons_zero]; rfl) rfl ?hw3 (fun w1 => ?hy3) ?hn3; (case hw3 => rfl); (case hy3 => (go_simp; (try with_reducible rfl))); (try simp only [Act.put, List.setIfInBounds_toArray, List.set_cons_zero, List.set_cons_succ]))
  refine TD.nil (fun w1 hr => ?_)
  have kp := hr.mod.at kp (fun h => h)
  have kb := hr.mod.at kb (fun h => h)
  have kp4 := hr.box p4 _ (by first | exact Bx.set_same _ _ _ | (simp only [Bx.set_ne _ (Ne.symm ne_p5_p4), Bx.set_ne _ ne_p5_p4, Bx.set_same]; rfl)); dsimp only [Value.cells] at kp4; obtain ⟨gp4, kp4⟩ := kp4
  have kp5 := hr.box p5 _ (by first | exact Bx.set_same _ _ _ | (simp only [Bx.set_ne _ (Ne.symm ne_p5_p4), Bx.set_ne _ ne_p5_p4, Bx.set_same]; rfl)); dsimp only [Value.cells] at kp5; obtain ⟨gp5, kp5⟩ := kp5
  have m1 := hr.mod
  go_wp2_with fail
  go_at_call 25
  refine (there_c p b m _ (H.out.mod0 m1)).mono ?_
  rintro e w2 ⟨rfl, rfl⟩
  go_upto_region 3 with fail
  have hne4 : p4 ≠ b := ne_of_obj kp4 kb (by simp)
  have hne5 : p5 ≠ b := ne_of_obj kp5 kb (by simp)
  have Lkp := lt_size kp
  have Lkb := lt_size kb
  have Lkp4 := lt_size kp4
  have Lkp5 := lt_size kp5
  refine wp_pass0 (C := fun _ _ _ => False) (κ := fun i => [1, 0, 0].getD i 0) [0, 1, 2] (by kernel_rfl) (by kernel_rfl) (fun _ _ d _ _ h => by cases d <;> exact h) ?_
  (refine TD.load (v := ?v4) (p := ?p4) (Mod.refl _ _) (by simp only [List.getElem?_toArray, List.getElem?_cons_succ, List.getElem?_cons_zero]; rfl) rfl ?hw4 rfl ?hx4 (fun wq hSq => ?hy4) ?hn4; (case hw4 => rfl); (case hx4 => (simp only [Act.eval, Array.getD_eq_getD_getElem?, List.getElem?_toArray, List.getElem?_cons_succ, List.getElem?_cons_zero, Option.getD_some]; (try rfl))); (case hy4 => (have kpq := hSq.at kp (fun h => h); have kbq := hSq.at kb (fun h => h); have kp4q := hSq.at kp4 (fun h => h); have kp5q := hSq.at kp5 (fun h => h); go_simp; (try with_reducible rfl))); (try simp only [Act.put, List.setIfInBounds_toArray, List.set_cons_zero, List.set_cons_succ]))
  (refine TD.build (v := ?v5) (ps := ?p5) (by simp only [List.getElem?_toArray, List.getElem?_cons_succ, List.getElem?_cons_zero]; rfl) rfl ?hw5 rfl ?hx5 (fun w1 => ?hy5) ?hn5; (case hw5 => rfl); (case hx5 => (simp only [List.map_toArray, List.map_cons, List.map_nil, Act.eval, Array.getD_eq_getD_getElem?, List.getElem?_toArray, List.getElem?_cons_succ, List.getElem?_cons_zero, Option.getD_some]; (try rfl))); (case hy5 => (rw [hb0]; (try with_reducible rfl))); (try simp only [Act.put, List.setIfInBounds_toArray, List.set_cons_zero, List.set_cons_succ]))
  (refine TD.val0 (v := ?v6) (by simp only [List.getElem?_toArray, List.getElem?_cons_succ, List.getElem?_cons_zero]; rfl) rfl ?hw6 (fun w1 => ?hy6) ?hn6; (case hw6 => rfl); (case hy6 => (go_simp; (try with_reducible rfl))); (try simp only [Act.put, List.setIfInBounds_toArray, List.set_cons_zero, List.set_cons_succ]))
  refine TD.nil (fun w3 hr => ?_)
  have kp := hr.mod.at kp (fun h => h)
  have kb := hr.mod.at kb (fun h => h)
  have kp4 := hr.mod.at kp4 (fun h => h)
  have kp5 := hr.mod.at kp5 (fun h => h)
  have m3 := m1.then0 hr.mod
  clear hb0
  go_upto_region 4 with fail
  have Lkp := lt_size kp
  have Lkp4 := lt_size kp4
  have Lkp5 := lt_size kp5
  have Lkb := lt_size kb
  refine wp_pass (C := fun _ _ _ => False) (κ := fun i => [0, 0, 0, 1, 1, 5].getD i 0) [0, 1, 2, 3, 4, 5] (by kernel_rfl) (by kernel_rfl) (fun _ _ d _ _ h => by cases d <;> exact h) ?_
  (refine TD.val0 (v := ?v7) (by simp only [List.getElem?_toArray, List.getElem?_cons_succ, List.getElem?_cons_zero]; rfl) rfl ?hw7 (fun w1 => ?hy7) ?hn7; (case hw7 => rfl); (case hy7 => (go_simp; (try with_reducible rfl))); (try simp only [Act.put, List.setIfInBounds_toArray, List.set_cons_zero, List.set_cons_succ]))
  (refine TD.val0 (v := ?v8) (by simp only [List.getElem?_toArray, List.getElem?_cons_succ, List.getElem?_cons_zero]; rfl) rfl ?hw8 (fun w1 => ?hy8) ?hn8; (case hw8 => rfl); (case hy8 => (go_simp; (try with_reducible rfl))); (try simp only [Act.put, List.setIfInBounds_toArray, List.set_cons_zero, List.set_cons_succ]))
  (refine TD.val0 (v := ?v9) (by simp only [List.getElem?_toArray, List.getElem?_cons_succ, List.getElem?_cons_zero]; rfl) rfl ?hw9 (fun w1 => ?hy9) ?hn9; (case hw9 => rfl); (case hy9 => (go_simp; (try with_reducible rfl))); (try simp only [Act.put, List.setIfInBounds_toArray, List.set_cons_zero, List.set_cons_succ]))
  (refine TD.load (v := ?v10) (p := ?p10) (Mod.refl _ _) (by simp only [List.getElem?_toArray, List.getElem?_cons_succ, List.getElem?_cons_zero]; rfl) rfl ?hw10 rfl ?hx10 (fun wq hSq => ?hy10) ?hn10; (case hw10 => rfl); (case hx10 => (simp only [Act.eval, Array.getD_eq_getD_getElem?, List.getElem?_toArray, List.getElem?_cons_succ, List.getElem?_cons_zero, Option.getD_some]; (try rfl))); (case hy10 => (have kpq := hSq.at kp (fun h => h); have kp4q := hSq.at kp4 (fun h => h); have kp5q := hSq.at kp5 (fun h => h); have kbq := hSq.at kb (fun h => h); go_simp; (try with_reducible rfl))); (try simp only [Act.put, List.setIfInBounds_toArray, List.set_cons_zero, List.set_cons_succ]))
  (refine TD.load (v := ?v11) (p := ?p11) (Mod.refl _ _) (by simp only [List.getElem?_toArray, List.getElem?_cons_succ, List.getElem?_cons_zero]; rfl) rfl ?hw11 rfl ?hx11 (fun wq hSq => ?hy11) ?hn11; (case hw11 => rfl); (case hx11 => (simp only [Act.eval, Array.getD_eq_getD_getElem?, List.getElem?_toArray, List.getElem?_cons_succ, List.getElem?_cons_zero, Option.getD_some]; (try rfl))); (case hy11 => (have kpq := hSq.at kp (fun h => h); have kp4q := hSq.at kp4 (fun h => h); have kp5q := hSq.at kp5 (fun h => h); have kbq := hSq.at kb (fun h => h); go_simp; (try with_reducible rfl))); (try simp only [Act.put, List.setIfInBounds_toArray, List.set_cons_zero, List.set_cons_succ]))
  refine TD.eff (by simp only [List.getElem?_toArray, List.getElem?_cons_succ, List.getElem?_cons_zero]; rfl) rfl (fun wE hr => ?_)
  have kp := hr.mod.at0 kp
  have kp4 := hr.mod.at0 kp4
  have kp5 := hr.mod.at0 kp5
  have kb := hr.mod.at0 kb
  have mE := hr.mod
  obtain ⟨es12, hrun12, Mkb⟩ := M.delete (ty := _) keyT Try.underlying26 wE kb k
  (refine eff_delete (X := ?X12) (Y := ?Y12) (v := ?v12) (w' := ?w12) (by simp only [List.getElem?_toArray, List.getElem?_cons_succ, List.getElem?_cons_zero]; rfl) ?hw12 rfl ?hx12 ?hz12 ?hy12 ?hn12; (case hw12 => rfl); (case hx12 => (simp only [Act.eval, Array.getD_eq_getD_getElem?, List.getElem?_toArray, List.getElem?_cons_succ, List.getElem?_cons_zero, Option.getD_some]; (try rfl))); (case hz12 => (simp only [Act.eval, Array.getD_eq_getD_getElem?, List.getElem?_toArray, List.getElem?_cons_succ, List.getElem?_cons_zero, Option.getD_some]; (try rfl))); (case hy12 => exact hrun12))
  (first | refine TE.nil_set kb (fun w4 kb mS => ?_) | refine TE.nil_setCell kb (fun w4 kb mS => ?_))
  (try simp only [Array.setIfInBounds, List.setIfInBounds_toArray, List.set_cons_zero, List.set_cons_succ] at kb)
  have kp := mS.at_ne kp (by omega)
  have kp4 := mS.at_ne kp4 (by omega)
  have kp5 := mS.at_ne kp5 (by omega)
  have m4 := (m3.mono (T := fun i => i = b) (fun _ _ h => h.elim)).then (mE.mono (T := fun i => i = b) (fun _ _ h => h.elim)) (fun _ _ h => h)
  have m5 := m4.then mS (fun _ _ h => h)
  go_wp2_with fail
  go_ret
  exact ⟨rfl, ⟨kp, _, _, kb, Mkb⟩, m5⟩
set_option maxHeartbeats 1600000 in
theorem put_some (p b : Nat) (m : List (Key × Acct)) (k : Key) (a : Acct) (w : World) (h : StAt w p b m) (ha : ¬ a = acct0) : Calls Try.prog 13 #[.pointer (some ⟨p, 0, none⟩), .agg (kc k), .agg (av a)] w fun e w' => e = .returned (.int .i64 0) ∧ PutPost w p b (put k a m) w' := by
  obtain ⟨kp, es, cl, kb, M⟩ := id h
  obtain ⟨lp, lb, hpb⟩ := h.lt
  have H := Lib.hid h
  clear h lp lb
  have hb0 := build0
  go_enter Try.func13, Try.ntmps13
  go_upto_region 0 with fail
  have Lkp := lt_size kp
  have Lkb := lt_size kb
  refine wp_pass0 (C := fun _ _ _ => False) (κ := fun i => [3, 3, 0].getD i 0) [0, 1, 2] (by kernel_rfl) (by kernel_rfl) (fun _ _ d _ _ h => by cases d <;> exact h) ?_
  (refine TD.box (v := ?v13) (by simp only [List.getElem?_toArray, List.getElem?_cons_succ, List.getElem?_cons_zero]; rfl) rfl ?hw13 rfl rfl ?hx13 (fun p4 hp4 => ?hn13); (case hw13 => rfl); (case hx13 => (simp only [Act.eval, Array.getD_eq_getD_getElem?, List.getElem?_toArray, List.getElem?_cons_succ, List.getElem?_cons_zero, Option.getD_some]; (try rfl))); (try simp only [Act.put, List.setIfInBounds_toArray, List.set_cons_zero, List.set_cons_succ]))
  (refine TD.box (v := ?v14) (by simp only [List.getElem?_toArray, List.getElem?_cons_succ, List.getElem?_cons_zero]; rfl) rfl ?hw14 rfl rfl ?hx14 (fun p5 hp5 => ?hn14); (case hw14 => rfl); (case hx14 => (simp only [Act.eval, Array.getD_eq_getD_getElem?, List.getElem?_toArray, List.getElem?_cons_succ, List.getElem?_cons_zero, Option.getD_some]; (try rfl))); (try simp only [Act.put, List.setIfInBounds_toArray, List.set_cons_zero, List.set_cons_succ]))
  obtain ⟨ne_p5_p4, hp5⟩ := Bx.set_none hp5
  (refine TD.val0 (v := ?v15) (by simp only [List.getElem?_toArray, List.getElem?_cons_succ, List.getElem?_cons_zero]; rfl) rfl ?hw15 (fun w1 => ?hy15) ?hn15; (case hw15 => rfl); (case hy15 => (go_simp; (try with_reducible rfl))); (try simp only [Act.put, List.setIfInBounds_toArray, List.set_cons_zero, List.set_cons_succ]))
  refine TD.nil (fun w1 hr => ?_)
  have kp := hr.mod.at kp (fun h => h)
  have kb := hr.mod.at kb (fun h => h)
  have kp4 := hr.box p4 _ (by first | exact Bx.set_same _ _ _ | (simp only [Bx.set_ne _ (Ne.symm ne_p5_p4), Bx.set_ne _ ne_p5_p4, Bx.set_same]; rfl)); dsimp only [Value.cells] at kp4; obtain ⟨gp4, kp4⟩ := kp4
  have kp5 := hr.box p5 _ (by first | exact Bx.set_same _ _ _ | (simp only [Bx.set_ne _ (Ne.symm ne_p5_p4), Bx.set_ne _ ne_p5_p4, Bx.set_same]; rfl)); dsimp only [Value.cells] at kp5; obtain ⟨gp5, kp5⟩ := kp5
  have m1 := hr.mod
  go_wp2_with fail
  go_at_call 25
  refine (there_c p b m _ (H.out.mod0 m1)).mono ?_
  rintro e w2 ⟨rfl, rfl⟩
  go_upto_region 3 with fail
  have hne4 : p4 ≠ b := ne_of_obj kp4 kb (by simp)
  have hne5 : p5 ≠ b := ne_of_obj kp5 kb (by simp)
  have Lkp := lt_size kp
  have Lkb := lt_size kb
  have Lkp4 := lt_size kp4
  have Lkp5 := lt_size kp5
  refine wp_pass0 (C := fun _ _ _ => False) (κ := fun i => [1, 0, 0].getD i 0) [0, 1, 2] (by kernel_rfl) (by kernel_rfl) (fun _ _ d _ _ h => by cases d <;> exact h) ?_
  (refine TD.load (v := ?v16) (p := ?p16) (Mod.refl _ _) (by simp only [List.getElem?_toArray, List.getElem?_cons_succ, List.getElem?_cons_zero]; rfl) rfl ?hw16 rfl ?hx16 (fun wq hSq => ?hy16) ?hn16; (case hw16 => rfl); (case hx16 => (simp only [Act.eval, Array.getD_eq_getD_getElem?, List.getElem?_toArray, List.getElem?_cons_succ, List.getElem?_cons_zero, Option.getD_some]; (try rfl))); (case hy16 => (have kpq := hSq.at kp (fun h => h); have kbq := hSq.at kb (fun h => h); have kp4q := hSq.at kp4 (fun h => h); have kp5q := hSq.at kp5 (fun h => h); go_simp; (try with_reducible rfl))); (try simp only [Act.put, List.setIfInBounds_toArray, List.set_cons_zero, List.set_cons_succ]))
  (refine TD.build (v := ?v17) (ps := ?p17) (by simp only [List.getElem?_toArray, List.getElem?_cons_succ, List.getElem?_cons_zero]; rfl) rfl ?hw17 rfl ?hx17 (fun w1 => ?hy17) ?hn17; (case hw17 => rfl); (case hx17 => (simp only [List.map_toArray, List.map_cons, List.map_nil, Act.eval, Array.getD_eq_getD_getElem?, List.getElem?_toArray, List.getElem?_cons_succ, List.getElem?_cons_zero, Option.getD_some]; (try rfl))); (case hy17 => (rw [hb0]; (try with_reducible rfl))); (try simp only [Act.put, List.setIfInBounds_toArray, List.set_cons_zero, List.set_cons_succ]))
  (refine TD.val0 (v := ?v18) (by simp only [List.getElem?_toArray, List.getElem?_cons_succ, List.getElem?_cons_zero]; rfl) rfl ?hw18 (fun w1 => ?hy18) ?hn18; (case hw18 => rfl); (case hy18 => (go_simp; (try with_reducible rfl))); (try simp only [Act.put, List.setIfInBounds_toArray, List.set_cons_zero, List.set_cons_succ]))
  refine TD.nil (fun w3 hr => ?_)
  have kp := hr.mod.at kp (fun h => h)
  have kb := hr.mod.at kb (fun h => h)
  have kp4 := hr.mod.at kp4 (fun h => h)
  have kp5 := hr.mod.at kp5 (fun h => h)
  have m3 := m1.then0 hr.mod
  clear hb0
  go_upto_region 6 with fail
  have Lkp := lt_size kp
  have Lkp4 := lt_size kp4
  have Lkp5 := lt_size kp5
  have Lkb := lt_size kb
  refine wp_pass (C := fun _ _ _ => False) (κ := fun i => [0, 0, 0, 1, 1, 1, 5].getD i 0) [0, 1, 2, 3, 4, 5, 6] (by kernel_rfl) (by kernel_rfl) (fun _ _ d _ _ h => by cases d <;> exact h) ?_
  (refine TD.val0 (v := ?v19) (by simp only [List.getElem?_toArray, List.getElem?_cons_succ, List.getElem?_cons_zero]; rfl) rfl ?hw19 (fun w1 => ?hy19) ?hn19; (case hw19 => rfl); (case hy19 => (go_simp; (try with_reducible rfl))); (try simp only [Act.put, List.setIfInBounds_toArray, List.set_cons_zero, List.set_cons_succ]))
  (refine TD.val0 (v := ?v20) (by simp only [List.getElem?_toArray, List.getElem?_cons_succ, List.getElem?_cons_zero]; rfl) rfl ?hw20 (fun w1 => ?hy20) ?hn20; (case hw20 => rfl); (case hy20 => (go_simp; (try with_reducible rfl))); (try simp only [Act.put, List.setIfInBounds_toArray, List.set_cons_zero, List.set_cons_succ]))
  (refine TD.val0 (v := ?v21) (by simp only [List.getElem?_toArray, List.getElem?_cons_succ, List.getElem?_cons_zero]; rfl) rfl ?hw21 (fun w1 => ?hy21) ?hn21; (case hw21 => rfl); (case hy21 => (go_simp; (try with_reducible rfl))); (try simp only [Act.put, List.setIfInBounds_toArray, List.set_cons_zero, List.set_cons_succ]))
  (refine TD.load (v := ?v22) (p := ?p22) (Mod.refl _ _) (by simp only [List.getElem?_toArray, List.getElem?_cons_succ, List.getElem?_cons_zero]; rfl) rfl ?hw22 rfl ?hx22 (fun wq hSq => ?hy22) ?hn22; (case hw22 => rfl); (case hx22 => (simp only [Act.eval, Array.getD_eq_getD_getElem?, List.getElem?_toArray, List.getElem?_cons_succ, List.getElem?_cons_zero, Option.getD_some]; (try rfl))); (case hy22 => (have kpq := hSq.at kp (fun h => h); have kp4q := hSq.at kp4 (fun h => h); have kp5q := hSq.at kp5 (fun h => h); have kbq := hSq.at kb (fun h => h); go_simp; (try with_reducible rfl))); (try simp only [Act.put, List.setIfInBounds_toArray, List.set_cons_zero, List.set_cons_succ]))
  (refine TD.load (v := ?v23) (p := ?p23) (Mod.refl _ _) (by simp only [List.getElem?_toArray, List.getElem?_cons_succ, List.getElem?_cons_zero]; rfl) rfl ?hw23 rfl ?hx23 (fun wq hSq => ?hy23) ?hn23; (case hw23 => rfl); (case hx23 => (simp only [Act.eval, Array.getD_eq_getD_getElem?, List.getElem?_toArray, List.getElem?_cons_succ, List.getElem?_cons_zero, Option.getD_some]; (try rfl))); (case hy23 => (have kpq := hSq.at kp (fun h => h); have kp4q := hSq.at kp4 (fun h => h); have kp5q := hSq.at kp5 (fun h => h); have kbq := hSq.at kb (fun h => h); go_simp; (try with_reducible rfl))); (try simp only [Act.put, List.setIfInBounds_toArray, List.set_cons_zero, List.set_cons_succ]))
  (refine TD.load (v := ?v24) (p := ?p24) (Mod.refl _ _) (by simp only [List.getElem?_toArray, List.getElem?_cons_succ, List.getElem?_cons_zero]; rfl) rfl ?hw24 rfl ?hx24 (fun wq hSq => ?hy24) ?hn24; (case hw24 => rfl); (case hx24 => (simp only [Act.eval, Array.getD_eq_getD_getElem?, List.getElem?_toArray, List.getElem?_cons_succ, List.getElem?_cons_zero, Option.getD_some]; (try rfl))); (case hy24 => (have kpq := hSq.at kp (fun h => h); have kp4q := hSq.at kp4 (fun h => h); have kp5q := hSq.at kp5 (fun h => h); have kbq := hSq.at kb (fun h => h); go_simp; (try with_reducible rfl))); (try simp only [Act.put, List.setIfInBounds_toArray, List.set_cons_zero, List.set_cons_succ]))
  refine TD.eff (by simp only [List.getElem?_toArray, List.getElem?_cons_succ, List.getElem?_cons_zero]; rfl) rfl (fun wE hr => ?_)
  have kp := hr.mod.at0 kp
  have kp4 := hr.mod.at0 kp4
  have kp5 := hr.mod.at0 kp5
  have kb := hr.mod.at0 kb
  have mE := hr.mod
  obtain ⟨es25, cl25, hrun25, Mkb⟩ := M.update keyT Try.underlying26 wE kb k a
  (refine eff_update (X := ?X25) (Y := ?Y25) (Z := ?Z25) (w' := ?w25) (by simp only [List.getElem?_toArray, List.getElem?_cons_succ, List.getElem?_cons_zero]; rfl) ?hw25 rfl ?hx25 ?hz25 ?hv25 ?hy25 ?hn25; (case hw25 => rfl); (case hx25 => (simp only [Act.eval, Array.getD_eq_getD_getElem?, List.getElem?_toArray, List.getElem?_cons_succ, List.getElem?_cons_zero, Option.getD_some]; (try rfl))); (case hz25 => (simp only [Act.eval, Array.getD_eq_getD_getElem?, List.getElem?_toArray, List.getElem?_cons_succ, List.getElem?_cons_zero, Option.getD_some]; (try rfl))); (case hv25 => (simp only [Act.eval, Array.getD_eq_getD_getElem?, List.getElem?_toArray, List.getElem?_cons_succ, List.getElem?_cons_zero, Option.getD_some]; (try rfl))); (case hy25 => exact hrun25))
  (first | refine TE.nil_set kb (fun w4 kb mS => ?_) | refine TE.nil_setCell kb (fun w4 kb mS => ?_))
  (try simp only [Array.setIfInBounds, List.setIfInBounds_toArray, List.set_cons_zero, List.set_cons_succ] at kb)
  have kp := mS.at_ne kp (by omega)
  have kp4 := mS.at_ne kp4 (by omega)
  have kp5 := mS.at_ne kp5 (by omega)
  have m4 := (m3.mono (T := fun i => i = b) (fun _ _ h => h.elim)).then (mE.mono (T := fun i => i = b) (fun _ _ h => h.elim)) (fun _ _ h => h)
  have m5 := m4.then mS (fun _ _ h => h)
  go_wp2_with fail
  go_ret
  exact ⟨rfl, ⟨kp, _, _, kb, Mkb⟩, m5⟩
theorem put_c (p b : Nat) (m : List (Key × Acct)) (k : Key) (a : Acct) (w : World) (h : StAt w p b m) : Calls Try.prog 13 #[.pointer (some ⟨p, 0, none⟩), .agg (kc k), .agg (av a)] w fun e w' => e = .returned (.int .i64 0) ∧ PutPost w p b (putA m k a) w' := by
  by_cases ha : a = acct0
  · subst ha
    rw [show putA m k acct0 = del k m from if_pos rfl]
    exact put_zero p b m k w h
  · rw [show putA m k a = put k a m from if_neg ha]
    exact put_some p b m k a w h ha
/-- The sum of all coins. -/
def sumC (m : List (Key × Acct)) : Nat := (m.map fun p => p.2.c.toNat).sum
theorem sumC_perm {m n : List (Key × Acct)} (h : m.Perm n) : sumC m = sumC n := (h.map _).sum_nat
theorem sumC_le : ∀ m : List (Key × Acct), sumC m ≤ m.length * 18446744073709551616
  | [] => by simp [sumC]
  | p :: m => by
    have := sumC_le m
    have h2 := p.2.c.toNat_lt
    unfold sumC at this ⊢
    simp only [List.map_cons, List.sum_cons, List.length_cons]
    omega
theorem addLaid (x y : Nat) (hx : x < 18446744073709551616) (hy : y < 18446744073709551616) (w : World) : (callFunc 30 #[.int .u64 (x : Int), .int .u64 (y : Int), .int .u64 0]).run Try.prog w =
    .ok (.value (.tuple #[.int .u64 (((x + y) % 18446744073709551616 : Nat) : Int), .int .u64 (((x + y) / 18446744073709551616 : Nat) : Int)])) w := by
  rw [run_callFunc_extern Try.func30 (by kernel_rfl) (by kernel_rfl) (by kernel_rfl) (e := add64Entry) (by kernel_rfl), run_add64 x y 0 (by omega) (by omega) (by omega) (by omega)]
  simp only [Result.andThen]
  congr 5 <;> omega
set_option maxRecDepth 20000 in
set_option maxHeartbeats 1600000 in
theorem coins_c (p b : Nat) (m : List (Key × Acct)) (w : World) (h : StAt w p b m) (hlen : m.length ≤ 1000000) : Calls Try.prog 12 #[.pointer (some ⟨p, 0, none⟩)] w fun e w' => e = .returned (.tuple #[.int .u64 ((sumC m / 18446744073709551616 : Nat) : Int), .int .u64 ((sumC m % 18446744073709551616 : Nat) : Int)]) ∧ Mod (fun _ => False) w w' := by
  obtain ⟨kp, es, ck, kb, M⟩ := id h
  have H := Lib.hid h
  clear h
  have hrg := run_range_map (P := Try.prog) w 26 28 31 b es ck Try.underlying26 kb
  go_enter Try.func12, Try.ntmps12
  go_wp2_with fail
  go_at_call 25
  refine (there_c p b m _ H.out).mono ?_
  rintro e w2 ⟨rfl, rfl⟩
  go_wp2_with fail
  obtain ⟨w2, rb, hrb, kr, m2, e2⟩ : ∃ w2 rb, w.heap.size = rb ∧ w2.heap[rb]? = some (.mapIter (some b) ck #[] ck) ∧ Mod (fun _ => False) w w2 ∧ w2 = w.alloc (.mapIter (some b) ck #[] ck) := ⟨_, _, rfl, heap_alloc_new _ _, (Mod.refl _ _).alloc _, rfl⟩
  rw [← e2, hrb]
  have hrb2 : w.heap.size ≤ rb := by omega
  have hit := IterAt.start M kr
  have kb2 := m2.at0 kb
  have hle := sumC_le m
  have hmul : m.length * 18446744073709551616 ≤ 1000000 * 18446744073709551616 := Nat.mul_le_mul_right _ hlen
  have HLE := Lib.hid hle
  have HMUL := Lib.hid hmul
  clear e2 hrb hrg kb kr hle hmul
  go_loopw [2, 3] (fun s2 s3 ws => ∃ (S : Nat) (rem : List (Key × Acct)), s2 = .int .u64 ((S / 18446744073709551616 : Nat) : Int) ∧ s3 = .int .u64 ((S % 18446744073709551616 : Nat) : Int) ∧ Hid (S + sumC rem = sumC m) ∧ IterAt ws rb b kv avv es ck rem ∧ Mod (fun _ => False) w ws ∧ ws.heap[b]? = some (.map es ck)) (fun _ _ ws => leftN ws rb b)
  case atStart => exact ⟨0, m, rfl, rfl, Lib.hid (by simp), hit, m2, kb2⟩
  case round =>
    clear hit kb2 m2 w2
    obtain ⟨S, rem, rfl, rfl, HS, hit, hm, kb⟩ := hrel
    have hmeas := hit.leftN kb
    have HL := Lib.hid hmeas
    clear hmeas
    rcases hit.next (P := Try.prog) M kb 0 with ⟨rfl, hrun⟩ | ⟨q, rem', w3, it, hperm, hrun, kr3, m3, kb3, hent⟩
    · have HS2 := HS
      clear hit HL kb M HS HLE HMUL
      go_wp2_with fail
      go_ret2
      exact ⟨by rw [show S = sumC m by have := HS2.out; simpa [sumC] using this]; rfl, hm⟩
    · obtain ⟨qk, qa⟩ := q
      have hlen2 := hperm.length_eq
      have HP := Lib.hid hperm
      have mm := hm.thenB m3 (.inl hrb2)
      have HE : Hid (∀ wq, Mod (fun _ => False) w3 wq → (Instr.entry (.pointer (some ⟨rb, 0, none⟩))).run Try.prog wq = .ok (.tuple #[.agg (kc qk), .agg (av qa)]) wq) := Lib.hid fun wq hm => (hent wq (hm.at0 kr3) (hm.at0 kb3)).1
      have HI := Lib.hid hent
      have hrun2 : (Instr.next (.pointer (some ⟨rb, 0, none⟩)) false 0).run Try.prog wr = .ok (.tuple #[.bool true, .agg (kc qk), .agg (av qa)]) w3 := hrun
      clear hperm hit hent hm m3 hrun kb
      go_upto_region 5 with fail
      have hent2 := HE.out
      have Lkr3 := lt_size kr3
      have Lkb3 := lt_size kb3
      refine wp_pass0 (C := fun _ _ _ => False) (κ := fun i => [1, 0, 3, 4].getD i 0) [0, 1, 2, 3] (by kernel_rfl) (by kernel_rfl) (fun _ _ d _ _ h => by cases d <;> exact h) ?_
      (refine TD.entry (v := ?v26) (p := ?p26) (Mod.refl _ _) (by simp only [List.getElem?_toArray, List.getElem?_cons_succ, List.getElem?_cons_zero]; rfl) rfl ?hw26 rfl ?hx26 (fun wq hSq => ?hy26) ?hn26; (case hw26 => rfl); (case hx26 => (simp only [Act.eval, Array.getD_eq_getD_getElem?, List.getElem?_toArray, List.getElem?_cons_succ, List.getElem?_cons_zero, Option.getD_some]; (try rfl))); (case hy26 => (rw [hent2 wq hSq]; (try with_reducible rfl))); (try simp only [Act.put, List.setIfInBounds_toArray, List.set_cons_zero, List.set_cons_succ]))
      (refine TD.val0 (v := ?v27) (by simp only [List.getElem?_toArray, List.getElem?_cons_succ, List.getElem?_cons_zero]; rfl) rfl ?hw27 (fun w1 => ?hy27) ?hn27; (case hw27 => rfl); (case hy27 => (go_simp; (try with_reducible rfl))); (try simp only [Act.put, List.setIfInBounds_toArray, List.set_cons_zero, List.set_cons_succ]))
      (refine TD.allocB (by simp only [List.getElem?_toArray, List.getElem?_cons_succ, List.getElem?_cons_zero]; rfl) rfl ?hw28 rfl rfl alAcct (fun p5 hp5 => ?hn28); (case hw28 => rfl); (try simp only [Act.put, List.setIfInBounds_toArray, List.set_cons_zero, List.set_cons_succ]))
      (refine TD.storeB (d := ?d29) (T := ?T29) (y := ?y29) (p := ?p29) (b := ?b29) (v := ?v29) (by simp only [List.getElem?_toArray, List.getElem?_cons_succ, List.getElem?_cons_zero]; rfl) rfl ?hw29 ?hd29 ?hop29 ?hev29 ?hx29 ?hb29 ?htag29 (fun w1 hb1 => ?hy29) ?hn29; (case hw29 => rfl); (case hd29 => rfl); (case hop29 => rfl); (case hev29 => (simp only [Act.eval, Array.getD_eq_getD_getElem?, List.getElem?_toArray, List.getElem?_cons_succ, List.getElem?_cons_zero, Option.getD_some]; (try rfl))); (case hx29 => (simp only [Act.eval, Array.getD_eq_getD_getElem?, List.getElem?_toArray, List.getElem?_cons_succ, List.getElem?_cons_zero, Option.getD_some]; (try rfl))); (case hb29 => first | exact Bx.set_same _ _ _ | (simp only [Bx.set_same]; rfl)); (case hy29 => (go_simp; (try with_reducible rfl))); (try simp only [Act.put, List.setIfInBounds_toArray, List.set_cons_zero, List.set_cons_succ]))
      refine TD.nil (fun w4 hr => ?_)
      have kr3 := hr.mod.at kr3 (fun h => h)
      have kb3 := hr.mod.at kb3 (fun h => h)
      have kp5 := hr.box p5 _ (by first | exact Bx.set_same _ _ _ | (simp only [Bx.set_same]; rfl)); dsimp only [Value.cells] at kp5; obtain ⟨gp5, kp5⟩ := kp5
      clear hent2 HE
      have mm := mm.then0 hr.mod
      have hS2 : S + qa.c.toNat + sumC rem' = sumC m := by
        have h1 := HS.out
        rw [sumC_perm HP.out] at h1
        simp [sumC] at h1 ⊢
        omega
      have hc := qa.c.toNat_lt
      have hadd := addLaid (S % 18446744073709551616) qa.c.toNat (by omega) (by omega)
      have e1 : (S % 18446744073709551616 + qa.c.toNat) % 18446744073709551616 = (S + qa.c.toNat) % 18446744073709551616 := by omega
      have e2 : S / 18446744073709551616 + (S % 18446744073709551616 + qa.c.toNat) / 18446744073709551616 = (S + qa.c.toNat) / 18446744073709551616 := by omega
      have e3 : (S + qa.c.toNat) / 18446744073709551616 ≤ 1000000 := by
        have := HLE.out
        have := HMUL.out
        omega
      rw [e1] at hadd
      have HS2 := Lib.hid hS2
      have hw : IntKind.u64.wrap (((S / 18446744073709551616 : Nat) : Int) + (((S % 18446744073709551616 + qa.c.toNat) / 18446744073709551616 : Nat) : Int)) = (((S + qa.c.toNat) / 18446744073709551616 : Nat) : Int) := by
        rw [IntKind.wrap_u64]
        omega
      clear e1 e2 e3 hS2 hc HS
      go_upto_region 6 with fail
      generalize (S % 18446744073709551616 + qa.c.toNat) / 18446744073709551616 = cy at *
      generalize hg1 : (S + qa.c.toNat) / 18446744073709551616 = hi2 at *
      generalize hg2 : (S + qa.c.toNat) % 18446744073709551616 = lo2 at *
      generalize S / 18446744073709551616 = hi1 at *
      generalize S % 18446744073709551616 = lo1 at *
      have HG1 := Lib.hid hg1
      have HG2 := Lib.hid hg2
      clear hg1 hg2
      have Lkr3 := lt_size kr3
      have Lkb3 := lt_size kb3
      have Lkp5 := lt_size kp5
      refine wp_pass0 (C := fun _ _ _ => False) (κ := fun i => [0, 0, 1, 0, 0, 0, 0, 0, 0].getD i 0) [0, 1, 2, 3, 4, 5, 6, 7, 8] (by kernel_rfl) (by kernel_rfl) (fun _ _ d _ _ h => by cases d <;> exact h) ?_
      (refine TD.val0 (v := ?v30) (by simp only [List.getElem?_toArray, List.getElem?_cons_succ, List.getElem?_cons_zero]; rfl) rfl ?hw30 (fun w1 => ?hy30) ?hn30; (case hw30 => rfl); (case hy30 => (go_simp; (try with_reducible rfl))); (try simp only [Act.put, List.setIfInBounds_toArray, List.set_cons_zero, List.set_cons_succ]))
      (refine TD.val0 (v := ?v31) (by simp only [List.getElem?_toArray, List.getElem?_cons_succ, List.getElem?_cons_zero]; rfl) rfl ?hw31 (fun w1 => ?hy31) ?hn31; (case hw31 => rfl); (case hy31 => (go_simp; (try with_reducible rfl))); (try simp only [Act.put, List.setIfInBounds_toArray, List.set_cons_zero, List.set_cons_succ]))
      (refine TD.load (v := ?v32) (p := ?p32) (Mod.refl _ _) (by simp only [List.getElem?_toArray, List.getElem?_cons_succ, List.getElem?_cons_zero]; rfl) rfl ?hw32 rfl ?hx32 (fun wq hSq => ?hy32) ?hn32; (case hw32 => rfl); (case hx32 => (simp only [Act.eval, Array.getD_eq_getD_getElem?, List.getElem?_toArray, List.getElem?_cons_succ, List.getElem?_cons_zero, Option.getD_some]; (try rfl))); (case hy32 => (have kr3q := hSq.at kr3 (fun h => h); have kb3q := hSq.at kb3 (fun h => h); have kp5q := hSq.at kp5 (fun h => h); go_simp; (try with_reducible rfl))); (try simp only [Act.put, List.setIfInBounds_toArray, List.set_cons_zero, List.set_cons_succ]))
      (refine TD.xcall (by simp only [List.getElem?_toArray, List.getElem?_cons_succ, List.getElem?_cons_zero]; rfl) rfl ?hw33 rfl ?hx33 hadd ?hn33; (case hw33 => rfl); (case hx33 => (simp only [List.map_toArray, List.map_cons, List.map_nil, Act.eval, Array.getD_eq_getD_getElem?, List.getElem?_toArray, List.getElem?_cons_succ, List.getElem?_cons_zero, Option.getD_some]; (try rfl))); (try simp only [Act.put, List.setIfInBounds_toArray, List.set_cons_zero, List.set_cons_succ]))
      (refine TD.val0 (v := ?v34) (by simp only [List.getElem?_toArray, List.getElem?_cons_succ, List.getElem?_cons_zero]; rfl) rfl ?hw34 (fun w1 => ?hy34) ?hn34; (case hw34 => rfl); (case hy34 => (go_simp; (try with_reducible rfl))); (try simp only [Act.put, List.setIfInBounds_toArray, List.set_cons_zero, List.set_cons_succ]))
      (refine TD.val0 (v := ?v35) (by simp only [List.getElem?_toArray, List.getElem?_cons_succ, List.getElem?_cons_zero]; rfl) rfl ?hw35 (fun w1 => ?hy35) ?hn35; (case hw35 => rfl); (case hy35 => (go_simp; (try with_reducible rfl))); (try simp only [Act.put, List.setIfInBounds_toArray, List.set_cons_zero, List.set_cons_succ]))
      (refine TD.val0 (v := ?v36) (by simp only [List.getElem?_toArray, List.getElem?_cons_succ, List.getElem?_cons_zero]; rfl) rfl ?hw36 (fun w1 => ?hy36) ?hn36; (case hw36 => rfl); (case hy36 => (go_simp; (try with_reducible rfl))); (try simp only [Act.put, List.setIfInBounds_toArray, List.set_cons_zero, List.set_cons_succ]))
      (refine TD.val0 (v := ?v37) (by simp only [List.getElem?_toArray, List.getElem?_cons_succ, List.getElem?_cons_zero]; rfl) rfl ?hw37 (fun w1 => ?hy37) ?hn37; (case hw37 => rfl); (case hy37 => (go_simp; (try with_reducible rfl))); (try simp only [Act.put, List.setIfInBounds_toArray, List.set_cons_zero, List.set_cons_succ]))
      (refine TD.val0 (v := ?v38) (by simp only [List.getElem?_toArray, List.getElem?_cons_succ, List.getElem?_cons_zero]; rfl) rfl ?hw38 (fun w1 => ?hy38) ?hn38; (case hw38 => rfl); (case hy38 => (go_simp; (try with_reducible rfl))); (try simp only [Act.put, List.setIfInBounds_toArray, List.set_cons_zero, List.set_cons_succ]))
      refine TD.nil (fun w5 hr => ?_)
      have kr3 := hr.mod.at kr3 (fun h => h)
      have kb3 := hr.mod.at kb3 (fun h => h)
      have kp5 := hr.mod.at kp5 (fun h => h)
      have mm := mm.then0 hr.mod
      clear hadd
      have hit' := (HI.out _ kr3 kb3).2
      have hm6 := hit'.leftN kb3
      go_wp2_with fail
      go_roundw
      case rel => exact ⟨S + qa.c.toNat, rem', by rw [HG1.out], by rw [HG2.out], HS2, hit', mm, kb3⟩
      case measure =>
        rw [hm6, HL.out]
        simp at hlen2
        omega
end Go.Proofs.Ytknmiojegnbakaa
