/- The heap of both sides: Top, Bottom. -/
import Derived.Test.YtdeghpmlhcaedaaDoorRe
namespace Go.Proofs.YtdeghpmlhcaedaaDoor
open Go.RowKit Go.Sort
open Go.ChangeMaps (setBlock)
set_option linter.unusedSimpArgs false
set_option linter.unusedVariables false
attribute [local go_sem ↓] wlRk ldRk stRk eqRk eqRk2
attribute [local go_sem] rkc_size ndc_size cell_blk frozen_blk one_int one_bool one_ptr one_slice one_map Value.cells enter_fn eqMap neMap
theorem rkc_all1 (r : Rk) : (rkc r).all (·.oneCell') 0 2 = true := all_of (rkc_size r) (by simp [rkc, Value.oneCell'])
attribute [local go_sem] rkc_all1
set_option maxRecDepth 20000 in
set_option maxHeartbeats 3200000 in
theorem top_c {h : Nat} {C : List Nd} {T : Nat → Prop} {w : World} (hA : HAt h C T w) (hC : C ≠ []) : Calls Tryd.prog 37 #[ptrV h] w fun e w' => ∃ x, Best false C x ∧ e = .returned (.tuple #[.agg (rkc x.r), .int .i64 x.id.toInt, .bool true]) ∧ Mod (fun _ => False) w w' := by
  have HA := Lib.hid hA
  clear hA
  go_enter Tryd.func37, Tryd.ntmps37
  go_upto_region 0 with fail
  refine wp_pass0 (C := fun _ _ _ => False) (κ := fun i => [3, 0, 0].getD i 0) [0, 1, 2] (by kernel_rfl) (by kernel_rfl) (fun _ _ d _ _ h => by cases d <;> first | exact h | exact absurd h (hP _ _ _)) ?_
  (refine TD.allocB (by simp only [zA, zB, zC]; rfl) rfl ?hw1 rfl rfl alRk (fun p2 hp2 => ?hn1); (case hw1 => rfl); (try simp only [Act.put, zF, zG, zH]))
  (refine TD.val0 (v := ?v2) (by simp only [zA, zB, zC]; rfl) rfl ?hw2 (fun w1 => ?hy2) ?hn2; (case hw2 => rfl); (case hy2 => (go_simp; (try with_reducible rfl))); (try simp only [Act.put, zF, zG, zH]))
  (refine TD.val0 (v := ?v3) (by simp only [zA, zB, zC]; rfl) rfl ?hw3 (fun w1 => ?hy3) ?hn3; (case hw3 => rfl); (case hy3 => (go_simp; (try with_reducible rfl))); (try simp only [Act.put, zF, zG, zH]))
  refine TD.nil (fun w1 hr => ?_)
  have kp2 := hr.box p2 _ (by first | exact Bx.set_same _ _ _ | (simp only [Bx.set_same]; rfl)); dsimp only [Value.cells] at kp2; obtain ⟨gp2, kp2⟩ := kp2
  have m1 := hr.mod
  clear hr
  have hA1 := (HAt.good h C).cl T w w1 HA.out (m1.mono (fun _ _ h => h.elim))
  have hcall : ∀ wq, Mod (fun _ => False) w1 wq → Calls Tryd.prog 54 #[ptrV h, .int .i64 0] wq fun e w' => ∃ x, Best false C x ∧ e = .returned (.tuple #[.agg (rkc x.r), .int .i64 x.id.toInt, .bool true]) ∧ Mod (fun _ => False) wq w' := fun wq hq => end1_c ((HAt.good h C).cl T w1 wq hA1 (hq.mono (fun _ _ h => h.elim))) hC false
  have HC := Lib.hid hcall
  clear hA1 hcall
  replace kp2 : w1.heap[p2]? = some (.cells #[.int .u64 0, .int .u64 0] 60 (0, 0)) := kp2
  go_upto_region 1 with fail
  have Lkp2 := lt_size kp2
  refine wp_pass0 (C := fun _ _ v => ∃ x, Best false C x ∧ v = .tuple #[.agg (rkc x.r), .int .i64 x.id.toInt, .bool true]) (κ := fun i => [0, 2, 0, 0, 0, 5, 0, 0].getD i 0) [0, 1, 2, 3, 4, 5, 6, 7] (by kernel_rfl) (by kernel_rfl) (fun _ _ d _ _ h => by cases d <;> first | exact h | exact absurd h (hP _ _ _)) ?_
  (refine TD.val0 (v := ?v4) (by simp only [zA, zB, zC]; rfl) rfl ?hw4 (fun w1 => ?hy4) ?hn4; (case hw4 => rfl); (case hy4 => (go_simp; (try with_reducible rfl))); (try simp only [Act.put, zF, zG, zH]))
  (refine TD.call (f := ?f5) (args := ?r5) (Mod.refl _ _) (by simp only [zA, zB, zC]; rfl) rfl ?hw5 (fun w1 => ?hy5) ?hsp5 ?hn5; (case hw5 => rfl); (case hy5 => (go_simp; (first | with_reducible rfl | (constructor <;> with_reducible rfl)))); (case hsp5 => (intro wq hSq; have kp2q := hSq.at kp2 (fun h => h); exact (HC.out wq hSq).mono (fun e w' h => by obtain ⟨x, h1, h2, h3⟩ := h; exact ⟨_, h2, ⟨x, h1, rfl⟩, h3⟩))); rintro _ ⟨x, hB, rfl⟩; (try simp only [Act.put, zF, zG, zH]))
  (refine TD.val0 (v := ?v6) (by simp only [zA, zB, zC]; rfl) rfl ?hw6 (fun w1 => ?hy6) ?hn6; (case hw6 => rfl); (case hy6 => (go_simp; (try with_reducible rfl))); (try simp only [Act.put, zF, zG, zH]))
  (refine TD.val0 (v := ?v7) (by simp only [zA, zB, zC]; rfl) rfl ?hw7 (fun w1 => ?hy7) ?hn7; (case hw7 => rfl); (case hy7 => (go_simp; (try with_reducible rfl))); (try simp only [Act.put, zF, zG, zH]))
  (refine TD.val0 (v := ?v8) (by simp only [zA, zB, zC]; rfl) rfl ?hw8 (fun w1 => ?hy8) ?hn8; (case hw8 => rfl); (case hy8 => (go_simp; (try with_reducible rfl))); (try simp only [Act.put, zF, zG, zH]))
  refine TD.eff (by simp only [zA, zB, zC]; rfl) rfl (fun w2 hr => ?_)
  have kp2 := hr.mod.at kp2 (fun h => h)
  have HB := Lib.hid hB
  clear hB
  have m2 := m1.then0 hr.mod
  clear hr
  (refine eff_store (X := ?X10) (Y := ?Y10) (w' := ?w10) (by simp only [zA, zB, zC]; rfl) ?hw10 rfl ?hx10 ?hz10 ?hy10 ?hn10; (case hw10 => rfl); (case hx10 => (simp only [Act.eval, zD, zA, zB, zC, zE]; (try rfl))); (case hz10 => (simp only [Act.eval, zD, zA, zB, zC, zE]; (try rfl))); (case hy10 => (go_simp; (try with_reducible rfl))))
  (first | refine TE.mid_set kp2 (fun wn kp2 mS => ?_) | refine TE.mid_setCell kp2 (fun wn kp2 mS => ?_))
  (try simp only [Array.setIfInBounds, zF, zG, zH] at kp2)
  have m3 := m2.thenB mS (.inl gp2)
  clear mS
  (refine TE.val0 (v := ?v11) (by simp only [zA, zB, zC]; rfl) ?hw11 (fun w1 => ?hy11) ?hn11; (case hw11 => rfl); (case hy11 => (go_simp; (try with_reducible rfl))); (try simp only [Act.put, zF, zG, zH]))
  (refine TE.val0 (v := ?v12) (by simp only [zA, zB, zC]; rfl) ?hw12 (fun w1 => ?hy12) ?hn12; (case hw12 => rfl); (case hy12 => (go_simp; (try with_reducible rfl))); (try simp only [Act.put, zF, zG, zH]))
  refine TE.nil ?_
  go_wp2_with fail
  exact bodyPost_ret (results_cell3 (x := .agg (rkc x.r)) rfl rfl (by rw [ldRk]; simp [kp2, rkc])) rfl ⟨x, HB.out, rfl, m3⟩
set_option maxRecDepth 20000 in
set_option maxHeartbeats 3200000 in
theorem bot_c {h : Nat} {C : List Nd} {T : Nat → Prop} {w : World} (hA : HAt h C T w) (hC : C ≠ []) : Calls Tryd.prog 29 #[ptrV h] w fun e w' => ∃ x, Best true C x ∧ e = .returned (.tuple #[.agg (rkc x.r), .int .i64 x.id.toInt, .bool true]) ∧ Mod (fun _ => False) w w' := by
  have HA := Lib.hid hA
  clear hA
  go_enter Tryd.func29, Tryd.ntmps29
  go_upto_region 0 with fail
  refine wp_pass0 (C := fun _ _ _ => False) (κ := fun i => [3, 0, 0].getD i 0) [0, 1, 2] (by kernel_rfl) (by kernel_rfl) (fun _ _ d _ _ h => by cases d <;> first | exact h | exact absurd h (hP _ _ _)) ?_
  (refine TD.allocB (by simp only [zA, zB, zC]; rfl) rfl ?hw13 rfl rfl alRk (fun p2 hp2 => ?hn13); (case hw13 => rfl); (try simp only [Act.put, zF, zG, zH]))
  (refine TD.val0 (v := ?v14) (by simp only [zA, zB, zC]; rfl) rfl ?hw14 (fun w1 => ?hy14) ?hn14; (case hw14 => rfl); (case hy14 => (go_simp; (try with_reducible rfl))); (try simp only [Act.put, zF, zG, zH]))
  (refine TD.val0 (v := ?v15) (by simp only [zA, zB, zC]; rfl) rfl ?hw15 (fun w1 => ?hy15) ?hn15; (case hw15 => rfl); (case hy15 => (go_simp; (try with_reducible rfl))); (try simp only [Act.put, zF, zG, zH]))
  refine TD.nil (fun w1 hr => ?_)
  have kp2 := hr.box p2 _ (by first | exact Bx.set_same _ _ _ | (simp only [Bx.set_same]; rfl)); dsimp only [Value.cells] at kp2; obtain ⟨gp2, kp2⟩ := kp2
  have m1 := hr.mod
  clear hr
  have hA1 := (HAt.good h C).cl T w w1 HA.out (m1.mono (fun _ _ h => h.elim))
  have hcall : ∀ wq, Mod (fun _ => False) w1 wq → Calls Tryd.prog 54 #[ptrV h, .int .i64 1] wq fun e w' => ∃ x, Best true C x ∧ e = .returned (.tuple #[.agg (rkc x.r), .int .i64 x.id.toInt, .bool true]) ∧ Mod (fun _ => False) wq w' := fun wq hq => end1_c ((HAt.good h C).cl T w1 wq hA1 (hq.mono (fun _ _ h => h.elim))) hC true
  have HC := Lib.hid hcall
  clear hA1 hcall
  replace kp2 : w1.heap[p2]? = some (.cells #[.int .u64 0, .int .u64 0] 60 (0, 0)) := kp2
  go_upto_region 1 with fail
  have Lkp2 := lt_size kp2
  refine wp_pass0 (C := fun _ _ v => ∃ x, Best true C x ∧ v = .tuple #[.agg (rkc x.r), .int .i64 x.id.toInt, .bool true]) (κ := fun i => [0, 2, 0, 0, 0, 5, 0, 0].getD i 0) [0, 1, 2, 3, 4, 5, 6, 7] (by kernel_rfl) (by kernel_rfl) (fun _ _ d _ _ h => by cases d <;> first | exact h | exact absurd h (hP _ _ _)) ?_
  (refine TD.val0 (v := ?v16) (by simp only [zA, zB, zC]; rfl) rfl ?hw16 (fun w1 => ?hy16) ?hn16; (case hw16 => rfl); (case hy16 => (go_simp; (try with_reducible rfl))); (try simp only [Act.put, zF, zG, zH]))
  (refine TD.call (f := ?f17) (args := ?r17) (Mod.refl _ _) (by simp only [zA, zB, zC]; rfl) rfl ?hw17 (fun w1 => ?hy17) ?hsp17 ?hn17; (case hw17 => rfl); (case hy17 => (go_simp; (first | with_reducible rfl | (constructor <;> with_reducible rfl)))); (case hsp17 => (intro wq hSq; have kp2q := hSq.at kp2 (fun h => h); exact (HC.out wq hSq).mono (fun e w' h => by obtain ⟨x, h1, h2, h3⟩ := h; exact ⟨_, h2, ⟨x, h1, rfl⟩, h3⟩))); rintro _ ⟨x, hB, rfl⟩; (try simp only [Act.put, zF, zG, zH]))
  (refine TD.val0 (v := ?v18) (by simp only [zA, zB, zC]; rfl) rfl ?hw18 (fun w1 => ?hy18) ?hn18; (case hw18 => rfl); (case hy18 => (go_simp; (try with_reducible rfl))); (try simp only [Act.put, zF, zG, zH]))
  (refine TD.val0 (v := ?v19) (by simp only [zA, zB, zC]; rfl) rfl ?hw19 (fun w1 => ?hy19) ?hn19; (case hw19 => rfl); (case hy19 => (go_simp; (try with_reducible rfl))); (try simp only [Act.put, zF, zG, zH]))
  (refine TD.val0 (v := ?v20) (by simp only [zA, zB, zC]; rfl) rfl ?hw20 (fun w1 => ?hy20) ?hn20; (case hw20 => rfl); (case hy20 => (go_simp; (try with_reducible rfl))); (try simp only [Act.put, zF, zG, zH]))
  refine TD.eff (by simp only [zA, zB, zC]; rfl) rfl (fun w2 hr => ?_)
  have kp2 := hr.mod.at kp2 (fun h => h)
  have HB := Lib.hid hB
  clear hB
  have m2 := m1.then0 hr.mod
  clear hr
  (refine eff_store (X := ?X22) (Y := ?Y22) (w' := ?w22) (by simp only [zA, zB, zC]; rfl) ?hw22 rfl ?hx22 ?hz22 ?hy22 ?hn22; (case hw22 => rfl); (case hx22 => (simp only [Act.eval, zD, zA, zB, zC, zE]; (try rfl))); (case hz22 => (simp only [Act.eval, zD, zA, zB, zC, zE]; (try rfl))); (case hy22 => (go_simp; (try with_reducible rfl))))
  (first | refine TE.mid_set kp2 (fun wn kp2 mS => ?_) | refine TE.mid_setCell kp2 (fun wn kp2 mS => ?_))
  (try simp only [Array.setIfInBounds, zF, zG, zH] at kp2)
  have m3 := m2.thenB mS (.inl gp2)
  clear mS
  (refine TE.val0 (v := ?v23) (by simp only [zA, zB, zC]; rfl) ?hw23 (fun w1 => ?hy23) ?hn23; (case hw23 => rfl); (case hy23 => (go_simp; (try with_reducible rfl))); (try simp only [Act.put, zF, zG, zH]))
  (refine TE.val0 (v := ?v24) (by simp only [zA, zB, zC]; rfl) ?hw24 (fun w1 => ?hy24) ?hn24; (case hw24 => rfl); (case hy24 => (go_simp; (try with_reducible rfl))); (try simp only [Act.put, zF, zG, zH]))
  refine TE.nil ?_
  go_wp2_with fail
  exact bodyPost_ret (results_cell3 (x := .agg (rkc x.r)) rfl rfl (by rw [ldRk]; simp [kp2, rkc])) rfl ⟨x, HB.out, rfl, m3⟩
end Go.Proofs.YtdeghpmlhcaedaaDoor
