/- The walks of RanksAhead, RanksOne. -/
import Derived.Test.YtnibhnnpjkemhaaRlv
namespace Go.Proofs.Ytnibhnnpjkemhaa
open Go.RowKit Go.Sort
open Go.ChangeMaps (setBlock)
set_option linter.unusedSimpArgs false
set_option linter.unusedVariables false
attribute [local go_sem ↓] wlRk ldRk stRk wlNdR ldNdR stNdR eqRk eqRk2
attribute [local go_sem] rkc_size ndc_size rn_size cell_blk frozen_blk one_int one_bool one_ptr one_slice one_map Value.cells rkc_all1 rn_r rn_i rn_all rkc_ext zRk_size zNdR_size
theorem aheadC (a b : Rk) (w : World) : Calls Try.prog 20 #[.agg (rkc a), .agg (rkc b)] w fun e w' => ∃ v, e = .returned v ∧ v = .bool (Ahead a b) ∧ Mod (fun _ => False) w w' :=
  (Ahead_c a b w).mono fun e w' h => by
    obtain ⟨h1, q, os, rfl⟩ := h
    exact ⟨_, h1, rfl, grow_mod _ _ _⟩
set_option maxRecDepth 20000 in
set_option maxHeartbeats 3200000 in
theorem aheadLaw_c (a b : Rk) (w : World) : Calls Try.prog 4 #[.agg (rkc a), .agg (rkc b)] w fun e w' => e = .returned (.bool true) ∧ Mod (fun _ => False) w w' := by
  go_enter Try.func4, Try.ntmps4
  go_upto_region 0 with fail
  refine wp_pass0 (C := fun _ _ _ => False) (κ := fun i => [3, 3, 0].getD i 0) [0, 1, 2] (by kernel_rfl) (by kernel_rfl) (fun _ _ d _ _ h => by cases d <;> exact h) ?_
  (refine TD.box (v := ?v1) (by simp only [List.getElem?_toArray, List.getElem?_cons_succ, List.getElem?_cons_zero]; rfl) rfl ?hw1 rfl rfl ?hx1 (fun p2 hp2 => ?hn1); (case hw1 => rfl); (case hx1 => (simp only [Act.eval, Array.getD_eq_getD_getElem?, List.getElem?_toArray, List.getElem?_cons_succ, List.getElem?_cons_zero, Option.getD_some]; (try rfl))); (try simp only [Act.put, List.setIfInBounds_toArray, List.set_cons_zero, List.set_cons_succ]))
  (refine TD.box (v := ?v2) (by simp only [List.getElem?_toArray, List.getElem?_cons_succ, List.getElem?_cons_zero]; rfl) rfl ?hw2 rfl rfl ?hx2 (fun p3 hp3 => ?hn2); (case hw2 => rfl); (case hx2 => (simp only [Act.eval, Array.getD_eq_getD_getElem?, List.getElem?_toArray, List.getElem?_cons_succ, List.getElem?_cons_zero, Option.getD_some]; (try rfl))); (try simp only [Act.put, List.setIfInBounds_toArray, List.set_cons_zero, List.set_cons_succ]))
  obtain ⟨ne_p3_p2, hp3⟩ := Bx.set_none hp3
  (refine TD.val0 (v := ?v3) (by simp only [List.getElem?_toArray, List.getElem?_cons_succ, List.getElem?_cons_zero]; rfl) rfl ?hw3 (fun w1 => ?hy3) ?hn3; (case hw3 => rfl); (case hy3 => (go_simp; (try with_reducible rfl))); (try simp only [Act.put, List.setIfInBounds_toArray, List.set_cons_zero, List.set_cons_succ]))
  refine TD.nil (fun w1 hr => ?_)
  have kp2 := hr.box p2 _ (by first | exact Bx.set_same _ _ _ | (simp only [Bx.set_ne _ (Ne.symm ne_p3_p2), Bx.set_ne _ ne_p3_p2, Bx.set_same]; rfl)); dsimp only [Value.cells] at kp2; obtain ⟨gp2, kp2⟩ := kp2
  have kp3 := hr.box p3 _ (by first | exact Bx.set_same _ _ _ | (simp only [Bx.set_ne _ (Ne.symm ne_p3_p2), Bx.set_ne _ ne_p3_p2, Bx.set_same]; rfl)); dsimp only [Value.cells] at kp3; obtain ⟨gp3, kp3⟩ := kp3
  have m1 := hr.mod
  clear hr
  go_upto_region 1 with fail
  generalize hA : Ahead a b = z
  have Lkp2 := lt_size kp2
  have Lkp3 := lt_size kp3
  refine wp_gpass (T0 := fun _ => False) (K := fun _ _ => True) (κ := fun i => [0, 0, 6, 0, 0, 6, 0, 0, 6, 0, 0].getD i 0) (υ := fun i => [[], [], [], [], [], [], [], [], [], [], []].getD i []) [0, 1, 2, 3, 4, 5, 6, 7, 8, 9, 10] (by kernel_rfl) (by kernel_rfl) (Good.true).cl (trivial) (fun _ h => h.elim) ?_
  have gK := Good.true
  (refine TG.load (v := ?v4) (p := ?p4) (by simp only [List.getElem?_toArray, List.getElem?_cons_succ, List.getElem?_cons_zero]; rfl) rfl ?hw4 rfl ?hx4 (fun wq hSq => ?hy4) ?hn4; (case hw4 => rfl); (case hx4 => (simp only [Act.eval, Array.getD_eq_getD_getElem?, List.getElem?_toArray, List.getElem?_cons_succ, List.getElem?_cons_zero, Option.getD_some]; (try rfl))); (case hy4 => (have kp2q := hSq.at kp2 (by intro hT; first | exact hT | exact absurd hT (by assumption) | (simp only at hT; omega)); have kp3q := hSq.at kp3 (by intro hT; first | exact hT | exact absurd hT (by assumption) | (simp only at hT; omega)); go_simp; (try with_reducible rfl))); (try simp only [Act.put, List.setIfInBounds_toArray, List.set_cons_zero, List.set_cons_succ]))
  (refine TG.load (v := ?v5) (p := ?p5) (by simp only [List.getElem?_toArray, List.getElem?_cons_succ, List.getElem?_cons_zero]; rfl) rfl ?hw5 rfl ?hx5 (fun wq hSq => ?hy5) ?hn5; (case hw5 => rfl); (case hx5 => (simp only [Act.eval, Array.getD_eq_getD_getElem?, List.getElem?_toArray, List.getElem?_cons_succ, List.getElem?_cons_zero, Option.getD_some]; (try rfl))); (case hy5 => (have kp2q := hSq.at kp2 (by intro hT; first | exact hT | exact absurd hT (by assumption) | (simp only at hT; omega)); have kp3q := hSq.at kp3 (by intro hT; first | exact hT | exact absurd hT (by assumption) | (simp only at hT; omega)); go_simp; (try with_reducible rfl))); (try simp only [Act.put, List.setIfInBounds_toArray, List.set_cons_zero, List.set_cons_succ]))
  (refine TG.callN (f := ?f6) (args := ?r6) (fun v => v = .bool z) gK (by simp only [List.getElem?_toArray, List.getElem?_cons_succ, List.getElem?_cons_zero]; rfl) rfl ?hw6 (fun w1 => ?hy6) (fun T wq kq ltq hSq ub => ?hsp6) ?hn6; (case hw6 => rfl); (case hy6 => (go_simp; (first | with_reducible rfl | (constructor <;> with_reducible rfl)))); (case hsp6 => (have kp2q := hSq.at kp2 (by intro hT; first | exact hT | exact absurd hT (by assumption) | (simp only at hT; omega)); have kp3q := hSq.at kp3 (by intro hT; first | exact hT | exact absurd hT (by assumption) | (simp only at hT; omega)); exact (aheadC a b wq).mono (fun e w' h => by obtain ⟨v, h1, h2, h3⟩ := h; exact ⟨v, h1, by rw [h2, hA], h3⟩))); rintro v6 hC; subst hC; (try simp only [Act.put, List.setIfInBounds_toArray, List.set_cons_zero, List.set_cons_succ]))
  (refine TG.load (v := ?v7) (p := ?p7) (by simp only [List.getElem?_toArray, List.getElem?_cons_succ, List.getElem?_cons_zero]; rfl) rfl ?hw7 rfl ?hx7 (fun wq hSq => ?hy7) ?hn7; (case hw7 => rfl); (case hx7 => (simp only [Act.eval, Array.getD_eq_getD_getElem?, List.getElem?_toArray, List.getElem?_cons_succ, List.getElem?_cons_zero, Option.getD_some]; (try rfl))); (case hy7 => (have kp2q := hSq.at kp2 (by intro hT; first | exact hT | exact absurd hT (by assumption) | (simp only at hT; omega)); have kp3q := hSq.at kp3 (by intro hT; first | exact hT | exact absurd hT (by assumption) | (simp only at hT; omega)); go_simp; (try with_reducible rfl))); (try simp only [Act.put, List.setIfInBounds_toArray, List.set_cons_zero, List.set_cons_succ]))
  (refine TG.load (v := ?v8) (p := ?p8) (by simp only [List.getElem?_toArray, List.getElem?_cons_succ, List.getElem?_cons_zero]; rfl) rfl ?hw8 rfl ?hx8 (fun wq hSq => ?hy8) ?hn8; (case hw8 => rfl); (case hx8 => (simp only [Act.eval, Array.getD_eq_getD_getElem?, List.getElem?_toArray, List.getElem?_cons_succ, List.getElem?_cons_zero, Option.getD_some]; (try rfl))); (case hy8 => (have kp2q := hSq.at kp2 (by intro hT; first | exact hT | exact absurd hT (by assumption) | (simp only at hT; omega)); have kp3q := hSq.at kp3 (by intro hT; first | exact hT | exact absurd hT (by assumption) | (simp only at hT; omega)); go_simp; (try with_reducible rfl))); (try simp only [Act.put, List.setIfInBounds_toArray, List.set_cons_zero, List.set_cons_succ]))
  (refine TG.callN (f := ?f9) (args := ?r9) (fun v => v = .bool z) gK (by simp only [List.getElem?_toArray, List.getElem?_cons_succ, List.getElem?_cons_zero]; rfl) rfl ?hw9 (fun w1 => ?hy9) (fun T wq kq ltq hSq ub => ?hsp9) ?hn9; (case hw9 => rfl); (case hy9 => (go_simp; (first | with_reducible rfl | (constructor <;> with_reducible rfl)))); (case hsp9 => (have kp2q := hSq.at kp2 (by intro hT; first | exact hT | exact absurd hT (by assumption) | (simp only at hT; omega)); have kp3q := hSq.at kp3 (by intro hT; first | exact hT | exact absurd hT (by assumption) | (simp only at hT; omega)); exact (rAhead_c a b wq).mono (fun e w' h => ⟨_, h.1, by rw [hA], h.2⟩))); rintro v9 hC; subst hC; (try simp only [Act.put, List.setIfInBounds_toArray, List.set_cons_zero, List.set_cons_succ]))
  (refine TG.v0 (v := ?v10) (by simp only [List.getElem?_toArray, List.getElem?_cons_succ, List.getElem?_cons_zero]; rfl) rfl ?hw10 (fun w1 => ?hy10) ?hn10; (case hw10 => rfl); (case hy10 => (go_simp; (try with_reducible rfl))); (try simp only [Act.put, List.setIfInBounds_toArray, List.set_cons_zero, List.set_cons_succ]))
  (refine TG.v0 (v := ?v11) (by simp only [List.getElem?_toArray, List.getElem?_cons_succ, List.getElem?_cons_zero]; rfl) rfl ?hw11 (fun w1 => ?hy11) ?hn11; (case hw11 => rfl); (case hy11 => (go_simp; (try with_reducible rfl))); (try simp only [Act.put, List.setIfInBounds_toArray, List.set_cons_zero, List.set_cons_succ]))
  (refine TG.callN (f := ?f12) (args := ?r12) (fun v => v = .bool true) gK (by simp only [List.getElem?_toArray, List.getElem?_cons_succ, List.getElem?_cons_zero]; rfl) rfl ?hw12 (fun w1 => ?hy12) (fun T wq kq ltq hSq ub => ?hsp12) ?hn12; (case hw12 => rfl); (case hy12 => (go_simp; (first | with_reducible rfl | (constructor <;> with_reducible rfl)))); (case hsp12 => (have kp2q := hSq.at kp2 (by intro hT; first | exact hT | exact absurd hT (by assumption) | (simp only at hT; omega)); have kp3q := hSq.at kp3 (by intro hT; first | exact hT | exact absurd hT (by assumption) | (simp only at hT; omega)); exact (lives_c wq).mono (fun e w' h => ⟨_, h.1, rfl, h.2⟩))); rintro v12 hC; subst hC; (try simp only [Act.put, List.setIfInBounds_toArray, List.set_cons_zero, List.set_cons_succ]))
  (refine TG.v0 (v := ?v13) (by simp only [List.getElem?_toArray, List.getElem?_cons_succ, List.getElem?_cons_zero]; rfl) rfl ?hw13 (fun w1 => ?hy13) ?hn13; (case hw13 => rfl); (case hy13 => (go_simp; (try with_reducible rfl))); (try simp only [Act.put, List.setIfInBounds_toArray, List.set_cons_zero, List.set_cons_succ]))
  (refine TG.v0 (v := ?v14) (by simp only [List.getElem?_toArray, List.getElem?_cons_succ, List.getElem?_cons_zero]; rfl) rfl ?hw14 (fun w1 => ?hy14) ?hn14; (case hw14 => rfl); (case hy14 => (go_simp; (try with_reducible rfl))); (try simp only [Act.put, List.setIfInBounds_toArray, List.set_cons_zero, List.set_cons_succ]))
  refine TG.nil (fun w2 ⟨TR, hr⟩ => ?_)
  have kp2 := hr.mod.at kp2 (by intro hT; first | exact hT | exact absurd hT (by assumption) | (simp only at hT; omega))
  have kp3 := hr.mod.at kp3 (by intro hT; first | exact hT | exact absurd hT (by assumption) | (simp only at hT; omega))
  clear gK
  have m2 := m1.then0 hr.mod
  clear hr
  go_wp2_with fail
  go_ret
  exact ⟨rfl, m2⟩
theorem Ahead_self (a : Rk) : Ahead a a = false := by simp [Ahead]
theorem Ahead_asymm {a b : Rk} (h : Ahead a b = true) : Ahead b a = false := by
  obtain ⟨p, n⟩ := a
  obtain ⟨q, m⟩ := b
  simp only [Ahead, ← UInt64.toNat_inj] at *
  grind
theorem Ahead_total {a b : Rk} (h1 : Ahead a b = false) (h2 : Ahead b a = false) : a = b := by
  obtain ⟨p, n⟩ := a
  obtain ⟨q, m⟩ := b
  simp only [Ahead, Rk.mk.injEq, ← UInt64.toNat_inj] at *
  grind
theorem Ahead_trans {a b c : Rk} (h1 : Ahead a b = true) (h2 : Ahead b c = true) : Ahead a c = true := by
  obtain ⟨p, n⟩ := a
  obtain ⟨q, m⟩ := b
  obtain ⟨s, o⟩ := c
  simp only [Ahead, ← UInt64.toNat_inj] at *
  grind
set_option maxRecDepth 20000 in
set_option maxHeartbeats 6400000 in
theorem oneLaw_c (a b c : Rk) (w : World) : Calls Try.prog 8 #[.agg (rkc a), .agg (rkc b), .agg (rkc c)] w fun e w' => e = .returned (.bool true) ∧ Mod (fun _ => False) w w' := by
  go_enter Try.func8, Try.ntmps8
  go_upto_region 0 with fail
  refine wp_pass0 (C := fun _ _ _ => False) (κ := fun i => [3, 3, 3, 0].getD i 0) [0, 1, 2, 3] (by kernel_rfl) (by kernel_rfl) (fun _ _ d _ _ h => by cases d <;> exact h) ?_
  (refine TD.box (v := ?v15) (by simp only [List.getElem?_toArray, List.getElem?_cons_succ, List.getElem?_cons_zero]; rfl) rfl ?hw15 rfl rfl ?hx15 (fun p3 hp3 => ?hn15); (case hw15 => rfl); (case hx15 => (simp only [Act.eval, Array.getD_eq_getD_getElem?, List.getElem?_toArray, List.getElem?_cons_succ, List.getElem?_cons_zero, Option.getD_some]; (try rfl))); (try simp only [Act.put, List.setIfInBounds_toArray, List.set_cons_zero, List.set_cons_succ]))
  (refine TD.box (v := ?v16) (by simp only [List.getElem?_toArray, List.getElem?_cons_succ, List.getElem?_cons_zero]; rfl) rfl ?hw16 rfl rfl ?hx16 (fun p4 hp4 => ?hn16); (case hw16 => rfl); (case hx16 => (simp only [Act.eval, Array.getD_eq_getD_getElem?, List.getElem?_toArray, List.getElem?_cons_succ, List.getElem?_cons_zero, Option.getD_some]; (try rfl))); (try simp only [Act.put, List.setIfInBounds_toArray, List.set_cons_zero, List.set_cons_succ]))
  obtain ⟨ne_p4_p3, hp4⟩ := Bx.set_none hp4
  (refine TD.box (v := ?v17) (by simp only [List.getElem?_toArray, List.getElem?_cons_succ, List.getElem?_cons_zero]; rfl) rfl ?hw17 rfl rfl ?hx17 (fun p5 hp5 => ?hn17); (case hw17 => rfl); (case hx17 => (simp only [Act.eval, Array.getD_eq_getD_getElem?, List.getElem?_toArray, List.getElem?_cons_succ, List.getElem?_cons_zero, Option.getD_some]; (try rfl))); (try simp only [Act.put, List.setIfInBounds_toArray, List.set_cons_zero, List.set_cons_succ]))
  obtain ⟨ne_p5_p4, hp5⟩ := Bx.set_none hp5
  obtain ⟨ne_p5_p3, hp5⟩ := Bx.set_none hp5
  (refine TD.val0 (v := ?v18) (by simp only [List.getElem?_toArray, List.getElem?_cons_succ, List.getElem?_cons_zero]; rfl) rfl ?hw18 (fun w1 => ?hy18) ?hn18; (case hw18 => rfl); (case hy18 => (go_simp; (try with_reducible rfl))); (try simp only [Act.put, List.setIfInBounds_toArray, List.set_cons_zero, List.set_cons_succ]))
  refine TD.nil (fun w1 hr => ?_)
  have kp3 := hr.box p3 _ (by first | exact Bx.set_same _ _ _ | (simp only [Bx.set_ne _ (Ne.symm ne_p4_p3), Bx.set_ne _ (Ne.symm ne_p5_p3), Bx.set_ne _ (Ne.symm ne_p5_p4), Bx.set_ne _ ne_p4_p3, Bx.set_ne _ ne_p5_p3, Bx.set_ne _ ne_p5_p4, Bx.set_same]; rfl)); dsimp only [Value.cells] at kp3; obtain ⟨gp3, kp3⟩ := kp3
  have kp4 := hr.box p4 _ (by first | exact Bx.set_same _ _ _ | (simp only [Bx.set_ne _ (Ne.symm ne_p4_p3), Bx.set_ne _ (Ne.symm ne_p5_p3), Bx.set_ne _ (Ne.symm ne_p5_p4), Bx.set_ne _ ne_p4_p3, Bx.set_ne _ ne_p5_p3, Bx.set_ne _ ne_p5_p4, Bx.set_same]; rfl)); dsimp only [Value.cells] at kp4; obtain ⟨gp4, kp4⟩ := kp4
  have kp5 := hr.box p5 _ (by first | exact Bx.set_same _ _ _ | (simp only [Bx.set_ne _ (Ne.symm ne_p4_p3), Bx.set_ne _ (Ne.symm ne_p5_p3), Bx.set_ne _ (Ne.symm ne_p5_p4), Bx.set_ne _ ne_p4_p3, Bx.set_ne _ ne_p5_p3, Bx.set_ne _ ne_p5_p4, Bx.set_same]; rfl)); dsimp only [Value.cells] at kp5; obtain ⟨gp5, kp5⟩ := kp5
  have m1 := hr.mod
  clear hr
  go_wp2_with fail
  go_at_call 20
  refine (aheadC a b _).mono ?_
  rintro e w2 ⟨v, rfl, rfl, mq⟩
  have ma := m1.then0 mq
  replace kp3 := mq.at0 kp3
  replace kp4 := mq.at0 kp4
  replace kp5 := mq.at0 kp5
  clear mq
  go_wp2_with fail
  go_at_call 20
  refine (aheadC b a _).mono ?_
  rintro e w3 ⟨v, rfl, rfl, mq⟩
  have mb := ma.then0 mq
  replace kp3 := mq.at0 kp3
  replace kp4 := mq.at0 kp4
  replace kp5 := mq.at0 kp5
  clear mq
  cases hx : Ahead a b
  · cases hy : Ahead b a
    · have he := Ahead_total hx hy
      have hde := decide_eq_true he
      clear hx hy he
      go_wp2_with fail
      go_at_call 9
      refine (lives_c _).mono ?_
      rintro e w4 ⟨rfl, mq⟩
      have mc := mb.then0 mq
      clear mq
      go_wp2_with fail
      go_ret
      exact ⟨rfl, mc⟩
    · have hde : decide (a = b) = false := decide_eq_false (fun e => by subst e; rw [Ahead_self] at hx; rw [Ahead_self] at hy; cases hy)
      clear hx hy
      go_wp2_with fail
      go_at_call 9
      refine (lives_c _).mono ?_
      rintro e w4 ⟨rfl, mq⟩
      have mc := mb.then0 mq
      clear mq
      go_wp2_with fail
      go_ret
      exact ⟨rfl, mc⟩
  · have hy := Ahead_asymm hx
    have hde : decide (a = b) = false := decide_eq_false (fun e => by subst e; rw [Ahead_self] at hx; cases hx)
    rw [hy]
    have HX := Lib.hid hx
    clear hx hy
    go_wp2_with fail
    go_at_call 20
    refine (aheadC b c _).mono ?_
    rintro e w4 ⟨v, rfl, rfl, mq⟩
    have mc := mb.then0 mq
    replace kp3 := mq.at0 kp3
    replace kp4 := mq.at0 kp4
    replace kp5 := mq.at0 kp5
    clear mq
    cases hz : Ahead b c
    · clear hz
      go_wp2_with fail
      go_at_call 9
      refine (lives_c _).mono ?_
      rintro e w5 ⟨rfl, mq⟩
      have md := mc.then0 mq
      clear mq
      go_wp2_with fail
      go_ret
      exact ⟨rfl, md⟩
    · have HZ := Lib.hid hz
      clear hz
      go_wp2_with fail
      go_at_call 20
      refine (aheadC a c _).mono ?_
      rintro e w5 ⟨v, rfl, rfl, mq⟩
      have md := mc.then0 mq
      replace kp3 := mq.at0 kp3
      replace kp4 := mq.at0 kp4
      replace kp5 := mq.at0 kp5
      clear mq
      rw [Ahead_trans HX.out HZ.out]
      go_wp2_with fail
      go_at_call 9
      refine (lives_c _).mono ?_
      rintro e w6 ⟨rfl, mq⟩
      have mf := md.then0 mq
      clear mq
      go_wp2_with fail
      go_ret
      exact ⟨rfl, mf⟩
end Go.Proofs.Ytnibhnnpjkemhaa
