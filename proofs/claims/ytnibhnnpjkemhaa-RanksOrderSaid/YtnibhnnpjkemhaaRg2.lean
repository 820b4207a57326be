/- Both ends of both heaps; alike. -/
import Derived.Test.YtnibhnnpjkemhaaRg
namespace Go.Proofs.Ytnibhnnpjkemhaa
open Go.RowKit Go.Sort
open Go.ChangeMaps (setBlock)
set_option linter.unusedSimpArgs false
set_option linter.unusedVariables false
attribute [local go_sem ↓] wlRk ldRk stRk wlNdR ldNdR stNdR eqRk eqRk2
attribute [local go_sem] rkc_size ndc_size rn_size cell_blk frozen_blk one_int one_bool one_ptr one_slice one_map Value.cells rkc_all1 rn_r rn_i rn_all rkc_ext zRk_size zNdR_size
theorem srt_unique : ∀ {l D : List Nd}, l.Perm D → Srt l → Srt D → l = D
  | [], D, h, _, _ => h.nil_eq
  | x :: l, [], h, _, _ => absurd h.length_eq (by simp)
  | x :: l, y :: D, h, h1, h2 => by
    have e1 := h1.head y (h.mem_iff.2 (by simp))
    have e2 := h2.head x (h.mem_iff.1 (by simp))
    have e := nlt_total e1 e2
    subst e
    rw [srt_unique h.cons_inv (List.Pairwise.of_cons h1) (List.Pairwise.of_cons h2)]
set_option maxRecDepth 20000 in
set_option maxHeartbeats 3200000 in
theorem top0_c {h : Nat} {T : Nat → Prop} {w : World} (hA : HAt h [] T w) : Calls Try.prog 22 #[ptrV h] w fun e w' => e = .returned (.tuple #[.agg (rkc rk0), .int .i64 0, .bool false]) ∧ Mod (fun _ => False) w w' := by
  have HA := Lib.hid hA
  clear hA
  go_enter Try.func22, Try.ntmps22
  go_upto_region 0 with fail
  refine wp_pass0 (C := fun _ _ _ => False) (κ := fun i => [3, 0, 0].getD i 0) [0, 1, 2] (by kernel_rfl) (by kernel_rfl) (fun _ _ d _ _ h => by cases d <;> exact h) ?_
  (refine TD.allocB (by simp only [List.getElem?_toArray, List.getElem?_cons_succ, List.getElem?_cons_zero]; rfl) rfl ?hw1 rfl rfl alRk (fun p2 hp2 => ?hn1); (case hw1 => rfl); (try simp only [Act.put, List.setIfInBounds_toArray, List.set_cons_zero, List.set_cons_succ]))
  (refine TD.val0 (v := ?v2) (by simp only [List.getElem?_toArray, List.getElem?_cons_succ, List.getElem?_cons_zero]; rfl) rfl ?hw2 (fun w1 => ?hy2) ?hn2; (case hw2 => rfl); (case hy2 => (go_simp; (try with_reducible rfl))); (try simp only [Act.put, List.setIfInBounds_toArray, List.set_cons_zero, List.set_cons_succ]))
  (refine TD.val0 (v := ?v3) (by simp only [List.getElem?_toArray, List.getElem?_cons_succ, List.getElem?_cons_zero]; rfl) rfl ?hw3 (fun w1 => ?hy3) ?hn3; (case hw3 => rfl); (case hy3 => (go_simp; (try with_reducible rfl))); (try simp only [Act.put, List.setIfInBounds_toArray, List.set_cons_zero, List.set_cons_succ]))
  refine TD.nil (fun w1 hr => ?_)
  have kp2 := hr.box p2 _ (by first | exact Bx.set_same _ _ _ | (simp only [Bx.set_same]; rfl)); dsimp only [Value.cells] at kp2; obtain ⟨gp2, kp2⟩ := kp2
  have m1 := hr.mod
  clear hr
  have hA1 := (HAt.good h []).cl T w w1 HA.out (m1.mono (fun _ _ h => h.elim))
  have hcall : ∀ wq, Mod (fun _ => False) w1 wq → Calls Try.prog 38 #[ptrV h, .int .i64 0] wq fun e w' => e = .returned (.tuple #[.agg (rkc rk0), .int .i64 0, .bool false]) ∧ Mod (fun _ => False) wq w' := fun wq hq => end0_c ((HAt.good h []).cl T w1 wq hA1 (hq.mono (fun _ _ h => h.elim))) 0
  have HC := Lib.hid hcall
  clear hA1 hcall
  replace kp2 : w1.heap[p2]? = some (.cells #[.int .u64 0, .int .u64 0] 30 (0, 0)) := kp2
  go_upto_region 1 with fail
  have Lkp2 := lt_size kp2
  refine wp_pass0 (C := fun _ _ v => v = .tuple #[.agg (rkc rk0), .int .i64 0, .bool false]) (κ := fun i => [0, 2, 0, 0, 0, 5, 0, 0].getD i 0) [0, 1, 2, 3, 4, 5, 6, 7] (by kernel_rfl) (by kernel_rfl) (fun _ _ d _ _ h => by cases d <;> exact h) ?_
  (refine TD.val0 (v := ?v4) (by simp only [List.getElem?_toArray, List.getElem?_cons_succ, List.getElem?_cons_zero]; rfl) rfl ?hw4 (fun w1 => ?hy4) ?hn4; (case hw4 => rfl); (case hy4 => (go_simp; (try with_reducible rfl))); (try simp only [Act.put, List.setIfInBounds_toArray, List.set_cons_zero, List.set_cons_succ]))
  (refine TD.call (f := ?f5) (args := ?r5) (Mod.refl _ _) (by simp only [List.getElem?_toArray, List.getElem?_cons_succ, List.getElem?_cons_zero]; rfl) rfl ?hw5 (fun w1 => ?hy5) ?hsp5 ?hn5; (case hw5 => rfl); (case hy5 => (go_simp; (first | with_reducible rfl | (constructor <;> with_reducible rfl)))); (case hsp5 => (intro wq hSq; have kp2q := hSq.at kp2 (fun h => h); exact (HC.out wq hSq).mono (fun e w' h => ⟨_, h.1, rfl, h.2⟩))); rintro _ rfl; (try simp only [Act.put, List.setIfInBounds_toArray, List.set_cons_zero, List.set_cons_succ]))
  (refine TD.val0 (v := ?v6) (by simp only [List.getElem?_toArray, List.getElem?_cons_succ, List.getElem?_cons_zero]; rfl) rfl ?hw6 (fun w1 => ?hy6) ?hn6; (case hw6 => rfl); (case hy6 => (go_simp; (try with_reducible rfl))); (try simp only [Act.put, List.setIfInBounds_toArray, List.set_cons_zero, List.set_cons_succ]))
  (refine TD.val0 (v := ?v7) (by simp only [List.getElem?_toArray, List.getElem?_cons_succ, List.getElem?_cons_zero]; rfl) rfl ?hw7 (fun w1 => ?hy7) ?hn7; (case hw7 => rfl); (case hy7 => (go_simp; (try with_reducible rfl))); (try simp only [Act.put, List.setIfInBounds_toArray, List.set_cons_zero, List.set_cons_succ]))
  (refine TD.val0 (v := ?v8) (by simp only [List.getElem?_toArray, List.getElem?_cons_succ, List.getElem?_cons_zero]; rfl) rfl ?hw8 (fun w1 => ?hy8) ?hn8; (case hw8 => rfl); (case hy8 => (go_simp; (try with_reducible rfl))); (try simp only [Act.put, List.setIfInBounds_toArray, List.set_cons_zero, List.set_cons_succ]))
  refine TD.eff (by simp only [List.getElem?_toArray, List.getElem?_cons_succ, List.getElem?_cons_zero]; rfl) rfl (fun w2 hr => ?_)
  have kp2 := hr.mod.at kp2 (fun h => h)
  have m2 := m1.then0 hr.mod
  clear hr
  (refine eff_store (X := ?X10) (Y := ?Y10) (w' := ?w10) (by simp only [List.getElem?_toArray, List.getElem?_cons_succ, List.getElem?_cons_zero]; rfl) ?hw10 rfl ?hx10 ?hz10 ?hy10 ?hn10; (case hw10 => rfl); (case hx10 => (simp only [Act.eval, Array.getD_eq_getD_getElem?, List.getElem?_toArray, List.getElem?_cons_succ, List.getElem?_cons_zero, Option.getD_some]; (try rfl))); (case hz10 => (simp only [Act.eval, Array.getD_eq_getD_getElem?, List.getElem?_toArray, List.getElem?_cons_succ, List.getElem?_cons_zero, Option.getD_some]; (try rfl))); (case hy10 => (go_simp; (try with_reducible rfl))))
  (first | refine TE.mid_set kp2 (fun wn kp2 mS => ?_) | refine TE.mid_setCell kp2 (fun wn kp2 mS => ?_))
  (try simp only [Array.setIfInBounds, List.setIfInBounds_toArray, List.set_cons_zero, List.set_cons_succ] at kp2)
  have m3 := m2.thenB mS (.inl gp2)
  clear mS
  (refine TE.val0 (v := ?v11) (by simp only [List.getElem?_toArray, List.getElem?_cons_succ, List.getElem?_cons_zero]; rfl) ?hw11 (fun w1 => ?hy11) ?hn11; (case hw11 => rfl); (case hy11 => (go_simp; (try with_reducible rfl))); (try simp only [Act.put, List.setIfInBounds_toArray, List.set_cons_zero, List.set_cons_succ]))
  (refine TE.val0 (v := ?v12) (by simp only [List.getElem?_toArray, List.getElem?_cons_succ, List.getElem?_cons_zero]; rfl) ?hw12 (fun w1 => ?hy12) ?hn12; (case hw12 => rfl); (case hy12 => (go_simp; (try with_reducible rfl))); (try simp only [Act.put, List.setIfInBounds_toArray, List.set_cons_zero, List.set_cons_succ]))
  refine TE.nil ?_
  go_wp2_with fail
  exact bodyPost_ret (results_cell3 (x := .agg (rkc rk0)) rfl rfl (by rw [ldRk]; simp [kp2, rkc, rk0])) rfl ⟨rfl, m3⟩
set_option maxRecDepth 20000 in
set_option maxHeartbeats 3200000 in
theorem bot0_c {h : Nat} {T : Nat → Prop} {w : World} (hA : HAt h [] T w) : Calls Try.prog 23 #[ptrV h] w fun e w' => e = .returned (.tuple #[.agg (rkc rk0), .int .i64 0, .bool false]) ∧ Mod (fun _ => False) w w' := by
  have HA := Lib.hid hA
  clear hA
  go_enter Try.func23, Try.ntmps23
  go_upto_region 0 with fail
  refine wp_pass0 (C := fun _ _ _ => False) (κ := fun i => [3, 0, 0].getD i 0) [0, 1, 2] (by kernel_rfl) (by kernel_rfl) (fun _ _ d _ _ h => by cases d <;> exact h) ?_
  (refine TD.allocB (by simp only [List.getElem?_toArray, List.getElem?_cons_succ, List.getElem?_cons_zero]; rfl) rfl ?hw13 rfl rfl alRk (fun p2 hp2 => ?hn13); (case hw13 => rfl); (try simp only [Act.put, List.setIfInBounds_toArray, List.set_cons_zero, List.set_cons_succ]))
  (refine TD.val0 (v := ?v14) (by simp only [List.getElem?_toArray, List.getElem?_cons_succ, List.getElem?_cons_zero]; rfl) rfl ?hw14 (fun w1 => ?hy14) ?hn14; (case hw14 => rfl); (case hy14 => (go_simp; (try with_reducible rfl))); (try simp only [Act.put, List.setIfInBounds_toArray, List.set_cons_zero, List.set_cons_succ]))
  (refine TD.val0 (v := ?v15) (by simp only [List.getElem?_toArray, List.getElem?_cons_succ, List.getElem?_cons_zero]; rfl) rfl ?hw15 (fun w1 => ?hy15) ?hn15; (case hw15 => rfl); (case hy15 => (go_simp; (try with_reducible rfl))); (try simp only [Act.put, List.setIfInBounds_toArray, List.set_cons_zero, List.set_cons_succ]))
  refine TD.nil (fun w1 hr => ?_)
  have kp2 := hr.box p2 _ (by first | exact Bx.set_same _ _ _ | (simp only [Bx.set_same]; rfl)); dsimp only [Value.cells] at kp2; obtain ⟨gp2, kp2⟩ := kp2
  have m1 := hr.mod
  clear hr
  have hA1 := (HAt.good h []).cl T w w1 HA.out (m1.mono (fun _ _ h => h.elim))
  have hcall : ∀ wq, Mod (fun _ => False) w1 wq → Calls Try.prog 38 #[ptrV h, .int .i64 1] wq fun e w' => e = .returned (.tuple #[.agg (rkc rk0), .int .i64 0, .bool false]) ∧ Mod (fun _ => False) wq w' := fun wq hq => end0_c ((HAt.good h []).cl T w1 wq hA1 (hq.mono (fun _ _ h => h.elim))) 1
  have HC := Lib.hid hcall
  clear hA1 hcall
  replace kp2 : w1.heap[p2]? = some (.cells #[.int .u64 0, .int .u64 0] 30 (0, 0)) := kp2
  go_upto_region 1 with fail
  have Lkp2 := lt_size kp2
  refine wp_pass0 (C := fun _ _ v => v = .tuple #[.agg (rkc rk0), .int .i64 0, .bool false]) (κ := fun i => [0, 2, 0, 0, 0, 5, 0, 0].getD i 0) [0, 1, 2, 3, 4, 5, 6, 7] (by kernel_rfl) (by kernel_rfl) (fun _ _ d _ _ h => by cases d <;> exact h) ?_
  (refine TD.val0 (v := ?v16) (by simp only [List.getElem?_toArray, List.getElem?_cons_succ, List.getElem?_cons_zero]; rfl) rfl ?hw16 (fun w1 => ?hy16) ?hn16; (case hw16 => rfl); (case hy16 => (go_simp; (try with_reducible rfl))); (try simp only [Act.put, List.setIfInBounds_toArray, List.set_cons_zero, List.set_cons_succ]))
  (refine TD.call (f := ?f17) (args := ?r17) (Mod.refl _ _) (by simp only [List.getElem?_toArray, List.getElem?_cons_succ, List.getElem?_cons_zero]; rfl) rfl ?hw17 (fun w1 => ?hy17) ?hsp17 ?hn17; (case hw17 => rfl); (case hy17 => (go_simp; (first | with_reducible rfl | (constructor <;> with_reducible rfl)))); (case hsp17 => (intro wq hSq; have kp2q := hSq.at kp2 (fun h => h); exact (HC.out wq hSq).mono (fun e w' h => ⟨_, h.1, rfl, h.2⟩))); rintro _ rfl; (try simp only [Act.put, List.setIfInBounds_toArray, List.set_cons_zero, List.set_cons_succ]))
  (refine TD.val0 (v := ?v18) (by simp only [List.getElem?_toArray, List.getElem?_cons_succ, List.getElem?_cons_zero]; rfl) rfl ?hw18 (fun w1 => ?hy18) ?hn18; (case hw18 => rfl); (case hy18 => (go_simp; (try with_reducible rfl))); (try simp only [Act.put, List.setIfInBounds_toArray, List.set_cons_zero, List.set_cons_succ]))
  (refine TD.val0 (v := ?v19) (by simp only [List.getElem?_toArray, List.getElem?_cons_succ, List.getElem?_cons_zero]; rfl) rfl ?hw19 (fun w1 => ?hy19) ?hn19; (case hw19 => rfl); (case hy19 => (go_simp; (try with_reducible rfl))); (try simp only [Act.put, List.setIfInBounds_toArray, List.set_cons_zero, List.set_cons_succ]))
  (refine TD.val0 (v := ?v20) (by simp only [List.getElem?_toArray, List.getElem?_cons_succ, List.getElem?_cons_zero]; rfl) rfl ?hw20 (fun w1 => ?hy20) ?hn20; (case hw20 => rfl); (case hy20 => (go_simp; (try with_reducible rfl))); (try simp only [Act.put, List.setIfInBounds_toArray, List.set_cons_zero, List.set_cons_succ]))
  refine TD.eff (by simp only [List.getElem?_toArray, List.getElem?_cons_succ, List.getElem?_cons_zero]; rfl) rfl (fun w2 hr => ?_)
  have kp2 := hr.mod.at kp2 (fun h => h)
  have m2 := m1.then0 hr.mod
  clear hr
  (refine eff_store (X := ?X22) (Y := ?Y22) (w' := ?w22) (by simp only [List.getElem?_toArray, List.getElem?_cons_succ, List.getElem?_cons_zero]; rfl) ?hw22 rfl ?hx22 ?hz22 ?hy22 ?hn22; (case hw22 => rfl); (case hx22 => (simp only [Act.eval, Array.getD_eq_getD_getElem?, List.getElem?_toArray, List.getElem?_cons_succ, List.getElem?_cons_zero, Option.getD_some]; (try rfl))); (case hz22 => (simp only [Act.eval, Array.getD_eq_getD_getElem?, List.getElem?_toArray, List.getElem?_cons_succ, List.getElem?_cons_zero, Option.getD_some]; (try rfl))); (case hy22 => (go_simp; (try with_reducible rfl))))
  (first | refine TE.mid_set kp2 (fun wn kp2 mS => ?_) | refine TE.mid_setCell kp2 (fun wn kp2 mS => ?_))
  (try simp only [Array.setIfInBounds, List.setIfInBounds_toArray, List.set_cons_zero, List.set_cons_succ] at kp2)
  have m3 := m2.thenB mS (.inl gp2)
  clear mS
  (refine TE.val0 (v := ?v23) (by simp only [List.getElem?_toArray, List.getElem?_cons_succ, List.getElem?_cons_zero]; rfl) ?hw23 (fun w1 => ?hy23) ?hn23; (case hw23 => rfl); (case hy23 => (go_simp; (try with_reducible rfl))); (try simp only [Act.put, List.setIfInBounds_toArray, List.set_cons_zero, List.set_cons_succ]))
  (refine TE.val0 (v := ?v24) (by simp only [List.getElem?_toArray, List.getElem?_cons_succ, List.getElem?_cons_zero]; rfl) ?hw24 (fun w1 => ?hy24) ?hn24; (case hw24 => rfl); (case hy24 => (go_simp; (try with_reducible rfl))); (try simp only [Act.put, List.setIfInBounds_toArray, List.set_cons_zero, List.set_cons_succ]))
  refine TE.nil ?_
  go_wp2_with fail
  exact bodyPost_ret (results_cell3 (x := .agg (rkc rk0)) rfl rfl (by rw [ldRk]; simp [kp2, rkc, rk0])) rfl ⟨rfl, m3⟩
section
variable {h p : Nat} {C D : List Nd} {T : Nat → Prop} {w : World}
theorem topS_c (hA : HAt h C T w) (hD : D.Perm C) (hS : Srt D) : Calls Try.prog 22 #[ptrV h] w fun e w' => e = .returned (env (enOf D.head?)) ∧ Mod (fun _ => False) w w' := by
  match D, hD, hS with
  | [], hD, _ =>
    obtain rfl := (endS0 hD).2 rfl
    exact top0_c hA
  | y :: r, hD, hS =>
    refine (top_c hA (fun e => by have := (endS0 hD).1 e; cases this)).mono ?_
    rintro e w' ⟨x, hx, rfl, hm⟩
    rw [best_top hD hS hx rfl]
    exact ⟨rfl, hm⟩
theorem botS_c (hA : HAt h C T w) (hD : D.Perm C) (hS : Srt D) : Calls Try.prog 23 #[ptrV h] w fun e w' => e = .returned (env (enOf D.getLast?)) ∧ Mod (fun _ => False) w w' := by
  by_cases he : D = []
  · subst he
    obtain rfl := (endS0 hD).2 rfl
    exact bot0_c hA
  · refine (bot_c hA (fun e => he ((endS0 hD).1 e))).mono ?_
    rintro e w' ⟨x, hx, rfl, hm⟩
    have hl := List.getLast?_eq_some_getLast he
    rw [hl, best_bot hD hS hx hl]
    exact ⟨rfl, hm⟩
theorem rtopS_c (hR : RAt p D T w) : Calls Try.prog 12 #[ptrV p] w fun e w' => e = .returned (env (enOf D.head?)) ∧ Mod (fun _ => False) w w' := by
  match D, hR with
  | [], hR => exact rtop0_c hR
  | y :: r, hR => exact rtop_c hR
theorem rbotS_c (hR : RAt p D T w) (hD : D.length ≤ 900000) : Calls Try.prog 13 #[ptrV p] w fun e w' => e = .returned (env (enOf D.getLast?)) ∧ Mod (fun _ => False) w w' := by
  by_cases he : D = []
  · subst he
    exact rbot0_c hR
  · have hl := List.getLast?_eq_some_getLast he
    rw [hl]
    generalize D.getLast he = x at *
    obtain ⟨r, rfl⟩ := List.getLast?_eq_some_iff.1 hl
    exact rbot_c hR (by simp at hD; omega)
theorem listS_c (hA : HAt h C T w) (hD : D.Perm C) (hS : Srt D) (hC : C.length ≤ 700000) : Calls Try.prog 19 #[ptrV h] w fun e w' => ∃ v, e = .returned v ∧ SlOwn ic 1 3 w' w.heap.size v (D.map Nd.id) ∧ Mod (fun _ => False) w w' :=
  (list_c hA hC).mono fun e w' h => by
    obtain ⟨v, l, he, hp, hs, ho, hm⟩ := h
    obtain rfl := srt_unique (hp.trans hD.symm) hs hS
    exact ⟨v, he, ho, hm⟩
end
/-- A list of ids that a pass has made. -/
def OwnI (l : List Int64) (v : Value) : Land := fun T w => SlOwn ic 1 3 w 0 v l ∧ ∀ g, v.ownBlock = some g → T g
theorem goodI (l : List Int64) (v : Value) : Good (OwnI l v) where
  cl := fun T w w' h hm => ⟨h.1.mod hm (fun b hb hn => hn (h.2 b hb)), h.2⟩
  gr := fun T T' w hT h => ⟨h.1, fun g hg => hT g (h.2 g hg)⟩
theorem ownI_base {w : World} {base : Nat} {v : Value} {l : List Int64} (h : SlOwn ic 1 3 w base v l) : SlOwn ic 1 3 w 0 v l := by
  refine ⟨h.1, ?_⟩
  rcases h.2 with h | ⟨g, cap, cur, e, hb, r⟩
  · exact .inl h
  · exact .inr ⟨g, cap, cur, e, Nat.zero_le _, r⟩
theorem ownI_new {w w' : World} {v : Value} {l : List Int64} {T : Nat → Prop} (h : SlOwn ic 1 3 w' w.heap.size v l) : OwnI l v (Grow T w w') w' := ⟨ownI_base h, fun g hg => .inr (h.lt g hg)⟩
set_option maxRecDepth 20000 in
set_option maxHeartbeats 6400000 in
theorem alike_c {h p : Nat} {C D : List Nd} {T T2 : Nat → Prop} {w : World} (hA : HAt h C T w) (hR : RAt p D T2 w) (hD : D.Perm C) (hS : Srt D) (hC : C.length ≤ 700000) : Calls Try.prog 18 #[ptrV h, ptrV p] w fun e w' => e = .returned (.bool true) ∧ Mod (fun _ => False) w w' := by
  have hAq : ∀ wq, Mod (fun _ => False) w wq → HAt h C T wq := fun wq hq => (HAt.good h C).cl T w wq hA (hq.mono (fun _ _ e => e.elim))
  have hRq : ∀ wq, Mod (fun _ => False) w wq → RAt p D T2 wq := fun wq hq => (RAt.good p D).cl T2 w wq hR (hq.mono (fun _ _ e => e.elim))
  have hDl : D.length ≤ 700000 := by rw [hD.length_eq]; exact hC
  have H1 := Lib.hid (fun wq (hq : Mod (fun _ => False) w wq) => topS_c (hAq wq hq) hD hS)
  have H2 := Lib.hid (fun wq (hq : Mod (fun _ => False) w wq) => rtopS_c (hRq wq hq))
  have H3 := Lib.hid (fun wq (hq : Mod (fun _ => False) w wq) => botS_c (hAq wq hq) hD hS)
  have H4 := Lib.hid (fun wq (hq : Mod (fun _ => False) w wq) => rbotS_c (hRq wq hq) (by omega))
  have H5 := Lib.hid (fun wq (hq : Mod (fun _ => False) w wq) => lenH_c (hAq wq hq))
  have H6 := Lib.hid (fun wq (hq : Mod (fun _ => False) w wq) => listS_c (hAq wq hq) hD hS hC)
  have H7 := Lib.hid (fun wq (hq : Mod (fun _ => False) w wq) => rlist_c (hRq wq hq) (by omega))
  obtain ⟨a, c, kr, _⟩ := hR.sl
  rw [hD.length_eq] at kr
  have hml : (D.map Nd.id).length ≤ 900000 := by rw [List.length_map]; omega
  have HML := Lib.hid hml
  generalize enOf D.head? = t at *
  generalize enOf D.getLast? = b at *
  clear hA hR hAq hRq hD hS hDl hml
  have m0 := Mod.refl (fun _ => False) w
  go_enter Try.func18, Try.ntmps18
  go_upto_region 1 with fail
  have Lkr := lt_size kr
  refine wp_pass0 (C := fun _ _ v => v = .tuple #[.agg (rkc t.r), .int .i64 t.id.toInt, .bool t.ok]) (κ := fun i => [0, 2, 0, 0, 0, 0, 3, 4, 0, 0].getD i 0) [0, 1, 2, 3, 4, 5, 6, 7, 8, 9] (by kernel_rfl) (by kernel_rfl) (fun _ _ d _ _ h => by cases d <;> exact h) ?_
  (refine TD.val0 (v := ?v25) (by simp only [List.getElem?_toArray, List.getElem?_cons_succ, List.getElem?_cons_zero]; rfl) rfl ?hw25 (fun w1 => ?hy25) ?hn25; (case hw25 => rfl); (case hy25 => (go_simp; (try with_reducible rfl))); (try simp only [Act.put, List.setIfInBounds_toArray, List.set_cons_zero, List.set_cons_succ]))
  (refine TD.call (f := ?f26) (args := ?r26) (Mod.refl _ _) (by simp only [List.getElem?_toArray, List.getElem?_cons_succ, List.getElem?_cons_zero]; rfl) rfl ?hw26 (fun w1 => ?hy26) ?hsp26 ?hn26; (case hw26 => rfl); (case hy26 => (go_simp; (first | with_reducible rfl | (constructor <;> with_reducible rfl)))); (case hsp26 => (intro wq hSq; have krq := hSq.at kr (fun h => h); exact (H1.out wq (m0.then0 hSq)).mono (fun e w' h => ⟨_, h.1, rfl, h.2⟩))); rintro _ rfl; (try simp only [Act.put, List.setIfInBounds_toArray, List.set_cons_zero, List.set_cons_succ]))
  (refine TD.val0 (v := ?v27) (by simp only [List.getElem?_toArray, List.getElem?_cons_succ, List.getElem?_cons_zero]; rfl) rfl ?hw27 (fun w1 => ?hy27) ?hn27; (case hw27 => rfl); (case hy27 => (go_simp; (try with_reducible rfl))); (try simp only [Act.put, List.setIfInBounds_toArray, List.set_cons_zero, List.set_cons_succ]))
  (refine TD.val0 (v := ?v28) (by simp only [List.getElem?_toArray, List.getElem?_cons_succ, List.getElem?_cons_zero]; rfl) rfl ?hw28 (fun w1 => ?hy28) ?hn28; (case hw28 => rfl); (case hy28 => (go_simp; (try with_reducible rfl))); (try simp only [Act.put, List.setIfInBounds_toArray, List.set_cons_zero, List.set_cons_succ]))
  (refine TD.val0 (v := ?v29) (by simp only [List.getElem?_toArray, List.getElem?_cons_succ, List.getElem?_cons_zero]; rfl) rfl ?hw29 (fun w1 => ?hy29) ?hn29; (case hw29 => rfl); (case hy29 => (go_simp; (try with_reducible rfl))); (try simp only [Act.put, List.setIfInBounds_toArray, List.set_cons_zero, List.set_cons_succ]))
  (refine TD.val0 (v := ?v30) (by simp only [List.getElem?_toArray, List.getElem?_cons_succ, List.getElem?_cons_zero]; rfl) rfl ?hw30 (fun w1 => ?hy30) ?hn30; (case hw30 => rfl); (case hy30 => (go_simp; (try with_reducible rfl))); (try simp only [Act.put, List.setIfInBounds_toArray, List.set_cons_zero, List.set_cons_succ]))
  (refine TD.allocB (by simp only [List.getElem?_toArray, List.getElem?_cons_succ, List.getElem?_cons_zero]; rfl) rfl ?hw31 rfl rfl alRk (fun p5 hp5 => ?hn31); (case hw31 => rfl); (try simp only [Act.put, List.setIfInBounds_toArray, List.set_cons_zero, List.set_cons_succ]))
  (refine TD.storeB (d := ?d32) (T := ?T32) (y := ?y32) (p := ?p32) (b := ?b32) (v := ?v32) (by simp only [List.getElem?_toArray, List.getElem?_cons_succ, List.getElem?_cons_zero]; rfl) rfl ?hw32 ?hd32 ?hop32 ?hev32 ?hx32 ?hb32 ?htag32 (fun w1 hb1 => ?hy32) ?hn32; (case hw32 => rfl); (case hd32 => rfl); (case hop32 => rfl); (case hev32 => (simp only [Act.eval, Array.getD_eq_getD_getElem?, List.getElem?_toArray, List.getElem?_cons_succ, List.getElem?_cons_zero, Option.getD_some]; (try rfl))); (case hx32 => (simp only [Act.eval, Array.getD_eq_getD_getElem?, List.getElem?_toArray, List.getElem?_cons_succ, List.getElem?_cons_zero, Option.getD_some]; (try rfl))); (case hb32 => first | exact Bx.set_same _ _ _ | (simp only [Bx.set_same]; rfl)); (case hy32 => (go_simp; (try with_reducible rfl))); (try simp only [Act.put, List.setIfInBounds_toArray, List.set_cons_zero, List.set_cons_succ]))
  (refine TD.val0 (v := ?v33) (by simp only [List.getElem?_toArray, List.getElem?_cons_succ, List.getElem?_cons_zero]; rfl) rfl ?hw33 (fun w1 => ?hy33) ?hn33; (case hw33 => rfl); (case hy33 => (go_simp; (try with_reducible rfl))); (try simp only [Act.put, List.setIfInBounds_toArray, List.set_cons_zero, List.set_cons_succ]))
  (refine TD.val0 (v := ?v34) (by simp only [List.getElem?_toArray, List.getElem?_cons_succ, List.getElem?_cons_zero]; rfl) rfl ?hw34 (fun w1 => ?hy34) ?hn34; (case hw34 => rfl); (case hy34 => (go_simp; (try with_reducible rfl))); (try simp only [Act.put, List.setIfInBounds_toArray, List.set_cons_zero, List.set_cons_succ]))
  refine TD.nil (fun w1 hr => ?_)
  have kr := hr.mod.at kr (fun h => h)
  have kp5 := hr.box p5 _ (by first | exact Bx.set_same _ _ _ | (simp only [Bx.set_same]; rfl)); dsimp only [Value.cells] at kp5; obtain ⟨gp5, kp5⟩ := kp5
  have m1 := m0.then0 hr.mod
  clear hr
  go_upto_region 2 with fail
  have Lkr := lt_size kr
  have Lkp5 := lt_size kp5
  refine wp_pass0 (C := fun _ _ v => v = .tuple #[.agg (rkc t.r), .int .i64 t.id.toInt, .bool t.ok]) (κ := fun i => [0, 2, 0, 0, 0, 0, 3, 4, 0, 0].getD i 0) [0, 1, 2, 3, 4, 5, 6, 7, 8, 9] (by kernel_rfl) (by kernel_rfl) (fun _ _ d _ _ h => by cases d <;> exact h) ?_
  (refine TD.val0 (v := ?v35) (by simp only [List.getElem?_toArray, List.getElem?_cons_succ, List.getElem?_cons_zero]; rfl) rfl ?hw35 (fun w1 => ?hy35) ?hn35; (case hw35 => rfl); (case hy35 => (go_simp; (try with_reducible rfl))); (try simp only [Act.put, List.setIfInBounds_toArray, List.set_cons_zero, List.set_cons_succ]))
  (refine TD.call (f := ?f36) (args := ?r36) (Mod.refl _ _) (by simp only [List.getElem?_toArray, List.getElem?_cons_succ, List.getElem?_cons_zero]; rfl) rfl ?hw36 (fun w1 => ?hy36) ?hsp36 ?hn36; (case hw36 => rfl); (case hy36 => (go_simp; (first | with_reducible rfl | (constructor <;> with_reducible rfl)))); (case hsp36 => (intro wq hSq; have krq := hSq.at kr (fun h => h); have kp5q := hSq.at kp5 (fun h => h); exact (H2.out wq (m1.then0 hSq)).mono (fun e w' h => ⟨_, h.1, rfl, h.2⟩))); rintro _ rfl; (try simp only [Act.put, List.setIfInBounds_toArray, List.set_cons_zero, List.set_cons_succ]))
  (refine TD.val0 (v := ?v37) (by simp only [List.getElem?_toArray, List.getElem?_cons_succ, List.getElem?_cons_zero]; rfl) rfl ?hw37 (fun w1 => ?hy37) ?hn37; (case hw37 => rfl); (case hy37 => (go_simp; (try with_reducible rfl))); (try simp only [Act.put, List.setIfInBounds_toArray, List.set_cons_zero, List.set_cons_succ]))
  (refine TD.val0 (v := ?v38) (by simp only [List.getElem?_toArray, List.getElem?_cons_succ, List.getElem?_cons_zero]; rfl) rfl ?hw38 (fun w1 => ?hy38) ?hn38; (case hw38 => rfl); (case hy38 => (go_simp; (try with_reducible rfl))); (try simp only [Act.put, List.setIfInBounds_toArray, List.set_cons_zero, List.set_cons_succ]))
  (refine TD.val0 (v := ?v39) (by simp only [List.getElem?_toArray, List.getElem?_cons_succ, List.getElem?_cons_zero]; rfl) rfl ?hw39 (fun w1 => ?hy39) ?hn39; (case hw39 => rfl); (case hy39 => (go_simp; (try with_reducible rfl))); (try simp only [Act.put, List.setIfInBounds_toArray, List.set_cons_zero, List.set_cons_succ]))
  (refine TD.val0 (v := ?v40) (by simp only [List.getElem?_toArray, List.getElem?_cons_succ, List.getElem?_cons_zero]; rfl) rfl ?hw40 (fun w1 => ?hy40) ?hn40; (case hw40 => rfl); (case hy40 => (go_simp; (try with_reducible rfl))); (try simp only [Act.put, List.setIfInBounds_toArray, List.set_cons_zero, List.set_cons_succ]))
  (refine TD.allocB (by simp only [List.getElem?_toArray, List.getElem?_cons_succ, List.getElem?_cons_zero]; rfl) rfl ?hw41 rfl rfl alRk (fun p8 hp8 => ?hn41); (case hw41 => rfl); (try simp only [Act.put, List.setIfInBounds_toArray, List.set_cons_zero, List.set_cons_succ]))
  (refine TD.storeB (d := ?d42) (T := ?T42) (y := ?y42) (p := ?p42) (b := ?b42) (v := ?v42) (by simp only [List.getElem?_toArray, List.getElem?_cons_succ, List.getElem?_cons_zero]; rfl) rfl ?hw42 ?hd42 ?hop42 ?hev42 ?hx42 ?hb42 ?htag42 (fun w1 hb1 => ?hy42) ?hn42; (case hw42 => rfl); (case hd42 => rfl); (case hop42 => rfl); (case hev42 => (simp only [Act.eval, Array.getD_eq_getD_getElem?, List.getElem?_toArray, List.getElem?_cons_succ, List.getElem?_cons_zero, Option.getD_some]; (try rfl))); (case hx42 => (simp only [Act.eval, Array.getD_eq_getD_getElem?, List.getElem?_toArray, List.getElem?_cons_succ, List.getElem?_cons_zero, Option.getD_some]; (try rfl))); (case hb42 => first | exact Bx.set_same _ _ _ | (simp only [Bx.set_same]; rfl)); (case hy42 => (go_simp; (try with_reducible rfl))); (try simp only [Act.put, List.setIfInBounds_toArray, List.set_cons_zero, List.set_cons_succ]))
  (refine TD.val0 (v := ?v43) (by simp only [List.getElem?_toArray, List.getElem?_cons_succ, List.getElem?_cons_zero]; rfl) rfl ?hw43 (fun w1 => ?hy43) ?hn43; (case hw43 => rfl); (case hy43 => (go_simp; (try with_reducible rfl))); (try simp only [Act.put, List.setIfInBounds_toArray, List.set_cons_zero, List.set_cons_succ]))
  (refine TD.val0 (v := ?v44) (by simp only [List.getElem?_toArray, List.getElem?_cons_succ, List.getElem?_cons_zero]; rfl) rfl ?hw44 (fun w1 => ?hy44) ?hn44; (case hw44 => rfl); (case hy44 => (go_simp; (try with_reducible rfl))); (try simp only [Act.put, List.setIfInBounds_toArray, List.set_cons_zero, List.set_cons_succ]))
  refine TD.nil (fun w2 hr => ?_)
  have kr := hr.mod.at kr (fun h => h)
  have kp5 := hr.mod.at kp5 (fun h => h)
  have kp8 := hr.box p8 _ (by first | exact Bx.set_same _ _ _ | (simp only [Bx.set_same]; rfl)); dsimp only [Value.cells] at kp8; obtain ⟨gp8, kp8⟩ := kp8
  have m2 := m1.then0 hr.mod
  clear hr
  go_upto_region 3 with fail
  have Lkr := lt_size kr
  have Lkp5 := lt_size kp5
  have Lkp8 := lt_size kp8
  refine wp_pass0 (C := fun _ _ v => v = .tuple #[.agg (rkc b.r), .int .i64 b.id.toInt, .bool b.ok]) (κ := fun i => [0, 2, 0, 0, 0, 0, 3, 4, 0, 0].getD i 0) [0, 1, 2, 3, 4, 5, 6, 7, 8, 9] (by kernel_rfl) (by kernel_rfl) (fun _ _ d _ _ h => by cases d <;> exact h) ?_
  (refine TD.val0 (v := ?v45) (by simp only [List.getElem?_toArray, List.getElem?_cons_succ, List.getElem?_cons_zero]; rfl) rfl ?hw45 (fun w1 => ?hy45) ?hn45; (case hw45 => rfl); (case hy45 => (go_simp; (try with_reducible rfl))); (try simp only [Act.put, List.setIfInBounds_toArray, List.set_cons_zero, List.set_cons_succ]))
  (refine TD.call (f := ?f46) (args := ?r46) (Mod.refl _ _) (by simp only [List.getElem?_toArray, List.getElem?_cons_succ, List.getElem?_cons_zero]; rfl) rfl ?hw46 (fun w1 => ?hy46) ?hsp46 ?hn46; (case hw46 => rfl); (case hy46 => (go_simp; (first | with_reducible rfl | (constructor <;> with_reducible rfl)))); (case hsp46 => (intro wq hSq; have krq := hSq.at kr (fun h => h); have kp5q := hSq.at kp5 (fun h => h); have kp8q := hSq.at kp8 (fun h => h); exact (H3.out wq (m2.then0 hSq)).mono (fun e w' h => ⟨_, h.1, rfl, h.2⟩))); rintro _ rfl; (try simp only [Act.put, List.setIfInBounds_toArray, List.set_cons_zero, List.set_cons_succ]))
  (refine TD.val0 (v := ?v47) (by simp only [List.getElem?_toArray, List.getElem?_cons_succ, List.getElem?_cons_zero]; rfl) rfl ?hw47 (fun w1 => ?hy47) ?hn47; (case hw47 => rfl); (case hy47 => (go_simp; (try with_reducible rfl))); (try simp only [Act.put, List.setIfInBounds_toArray, List.set_cons_zero, List.set_cons_succ]))
  (refine TD.val0 (v := ?v48) (by simp only [List.getElem?_toArray, List.getElem?_cons_succ, List.getElem?_cons_zero]; rfl) rfl ?hw48 (fun w1 => ?hy48) ?hn48; (case hw48 => rfl); (case hy48 => (go_simp; (try with_reducible rfl))); (try simp only [Act.put, List.setIfInBounds_toArray, List.set_cons_zero, List.set_cons_succ]))
  (refine TD.val0 (v := ?v49) (by simp only [List.getElem?_toArray, List.getElem?_cons_succ, List.getElem?_cons_zero]; rfl) rfl ?hw49 (fun w1 => ?hy49) ?hn49; (case hw49 => rfl); (case hy49 => (go_simp; (try with_reducible rfl))); (try simp only [Act.put, List.setIfInBounds_toArray, List.set_cons_zero, List.set_cons_succ]))
  (refine TD.val0 (v := ?v50) (by simp only [List.getElem?_toArray, List.getElem?_cons_succ, List.getElem?_cons_zero]; rfl) rfl ?hw50 (fun w1 => ?hy50) ?hn50; (case hw50 => rfl); (case hy50 => (go_simp; (try with_reducible rfl))); (try simp only [Act.put, List.setIfInBounds_toArray, List.set_cons_zero, List.set_cons_succ]))
  (refine TD.allocB (by simp only [List.getElem?_toArray, List.getElem?_cons_succ, List.getElem?_cons_zero]; rfl) rfl ?hw51 rfl rfl alRk (fun p11 hp11 => ?hn51); (case hw51 => rfl); (try simp only [Act.put, List.setIfInBounds_toArray, List.set_cons_zero, List.set_cons_succ]))
  (refine TD.storeB (d := ?d52) (T := ?T52) (y := ?y52) (p := ?p52) (b := ?b52) (v := ?v52) (by simp only [List.getElem?_toArray, List.getElem?_cons_succ, List.getElem?_cons_zero]; rfl) rfl ?hw52 ?hd52 ?hop52 ?hev52 ?hx52 ?hb52 ?htag52 (fun w1 hb1 => ?hy52) ?hn52; (case hw52 => rfl); (case hd52 => rfl); (case hop52 => rfl); (case hev52 => (simp only [Act.eval, Array.getD_eq_getD_getElem?, List.getElem?_toArray, List.getElem?_cons_succ, List.getElem?_cons_zero, Option.getD_some]; (try rfl))); (case hx52 => (simp only [Act.eval, Array.getD_eq_getD_getElem?, List.getElem?_toArray, List.getElem?_cons_succ, List.getElem?_cons_zero, Option.getD_some]; (try rfl))); (case hb52 => first | exact Bx.set_same _ _ _ | (simp only [Bx.set_same]; rfl)); (case hy52 => (go_simp; (try with_reducible rfl))); (try simp only [Act.put, List.setIfInBounds_toArray, List.set_cons_zero, List.set_cons_succ]))
  (refine TD.val0 (v := ?v53) (by simp only [List.getElem?_toArray, List.getElem?_cons_succ, List.getElem?_cons_zero]; rfl) rfl ?hw53 (fun w1 => ?hy53) ?hn53; (case hw53 => rfl); (case hy53 => (go_simp; (try with_reducible rfl))); (try simp only [Act.put, List.setIfInBounds_toArray, List.set_cons_zero, List.set_cons_succ]))
  (refine TD.val0 (v := ?v54) (by simp only [List.getElem?_toArray, List.getElem?_cons_succ, List.getElem?_cons_zero]; rfl) rfl ?hw54 (fun w1 => ?hy54) ?hn54; (case hw54 => rfl); (case hy54 => (go_simp; (try with_reducible rfl))); (try simp only [Act.put, List.setIfInBounds_toArray, List.set_cons_zero, List.set_cons_succ]))
  refine TD.nil (fun w3 hr => ?_)
  have kr := hr.mod.at kr (fun h => h)
  have kp5 := hr.mod.at kp5 (fun h => h)
  have kp8 := hr.mod.at kp8 (fun h => h)
  have kp11 := hr.box p11 _ (by first | exact Bx.set_same _ _ _ | (simp only [Bx.set_same]; rfl)); dsimp only [Value.cells] at kp11; obtain ⟨gp11, kp11⟩ := kp11
  have m3 := m2.then0 hr.mod
  clear hr
  go_upto_region 4 with fail
  have Lkr := lt_size kr
  have Lkp5 := lt_size kp5
  have Lkp8 := lt_size kp8
  have Lkp11 := lt_size kp11
  refine wp_pass0 (C := fun _ _ v => v = .tuple #[.agg (rkc b.r), .int .i64 b.id.toInt, .bool b.ok]) (κ := fun i => [0, 2, 0, 0, 0, 0, 3, 4, 0, 0].getD i 0) [0, 1, 2, 3, 4, 5, 6, 7, 8, 9] (by kernel_rfl) (by kernel_rfl) (fun _ _ d _ _ h => by cases d <;> exact h) ?_
  (refine TD.val0 (v := ?v55) (by simp only [List.getElem?_toArray, List.getElem?_cons_succ, List.getElem?_cons_zero]; rfl) rfl ?hw55 (fun w1 => ?hy55) ?hn55; (case hw55 => rfl); (case hy55 => (go_simp; (try with_reducible rfl))); (try simp only [Act.put, List.setIfInBounds_toArray, List.set_cons_zero, List.set_cons_succ]))
  (refine TD.call (f := ?f56) (args := ?r56) (Mod.refl _ _) (by simp only [List.getElem?_toArray, List.getElem?_cons_succ, List.getElem?_cons_zero]; rfl) rfl ?hw56 (fun w1 => ?hy56) ?hsp56 ?hn56; (case hw56 => rfl); (case hy56 => (go_simp; (first | with_reducible rfl | (constructor <;> with_reducible rfl)))); (case hsp56 => (intro wq hSq; have krq := hSq.at kr (fun h => h); have kp5q := hSq.at kp5 (fun h => h); have kp8q := hSq.at kp8 (fun h => h); have kp11q := hSq.at kp11 (fun h => h); exact (H4.out wq (m3.then0 hSq)).mono (fun e w' h => ⟨_, h.1, rfl, h.2⟩))); rintro _ rfl; (try simp only [Act.put, List.setIfInBounds_toArray, List.set_cons_zero, List.set_cons_succ]))
  (refine TD.val0 (v := ?v57) (by simp only [List.getElem?_toArray, List.getElem?_cons_succ, List.getElem?_cons_zero]; rfl) rfl ?hw57 (fun w1 => ?hy57) ?hn57; (case hw57 => rfl); (case hy57 => (go_simp; (try with_reducible rfl))); (try simp only [Act.put, List.setIfInBounds_toArray, List.set_cons_zero, List.set_cons_succ]))
  (refine TD.val0 (v := ?v58) (by simp only [List.getElem?_toArray, List.getElem?_cons_succ, List.getElem?_cons_zero]; rfl) rfl ?hw58 (fun w1 => ?hy58) ?hn58; (case hw58 => rfl); (case hy58 => (go_simp; (try with_reducible rfl))); (try simp only [Act.put, List.setIfInBounds_toArray, List.set_cons_zero, List.set_cons_succ]))
  (refine TD.val0 (v := ?v59) (by simp only [List.getElem?_toArray, List.getElem?_cons_succ, List.getElem?_cons_zero]; rfl) rfl ?hw59 (fun w1 => ?hy59) ?hn59; (case hw59 => rfl); (case hy59 => (go_simp; (try with_reducible rfl))); (try simp only [Act.put, List.setIfInBounds_toArray, List.set_cons_zero, List.set_cons_succ]))
  (refine TD.val0 (v := ?v60) (by simp only [List.getElem?_toArray, List.getElem?_cons_succ, List.getElem?_cons_zero]; rfl) rfl ?hw60 (fun w1 => ?hy60) ?hn60; (case hw60 => rfl); (case hy60 => (go_simp; (try with_reducible rfl))); (try simp only [Act.put, List.setIfInBounds_toArray, List.set_cons_zero, List.set_cons_succ]))
  (refine TD.allocB (by simp only [List.getElem?_toArray, List.getElem?_cons_succ, List.getElem?_cons_zero]; rfl) rfl ?hw61 rfl rfl alRk (fun p14 hp14 => ?hn61); (case hw61 => rfl); (try simp only [Act.put, List.setIfInBounds_toArray, List.set_cons_zero, List.set_cons_succ]))
  (refine TD.storeB (d := ?d62) (T := ?T62) (y := ?y62) (p := ?p62) (b := ?b62) (v := ?v62) (by simp only [List.getElem?_toArray, List.getElem?_cons_succ, List.getElem?_cons_zero]; rfl) rfl ?hw62 ?hd62 ?hop62 ?hev62 ?hx62 ?hb62 ?htag62 (fun w1 hb1 => ?hy62) ?hn62; (case hw62 => rfl); (case hd62 => rfl); (case hop62 => rfl); (case hev62 => (simp only [Act.eval, Array.getD_eq_getD_getElem?, List.getElem?_toArray, List.getElem?_cons_succ, List.getElem?_cons_zero, Option.getD_some]; (try rfl))); (case hx62 => (simp only [Act.eval, Array.getD_eq_getD_getElem?, List.getElem?_toArray, List.getElem?_cons_succ, List.getElem?_cons_zero, Option.getD_some]; (try rfl))); (case hb62 => first | exact Bx.set_same _ _ _ | (simp only [Bx.set_same]; rfl)); (case hy62 => (go_simp; (try with_reducible rfl))); (try simp only [Act.put, List.setIfInBounds_toArray, List.set_cons_zero, List.set_cons_succ]))
  (refine TD.val0 (v := ?v63) (by simp only [List.getElem?_toArray, List.getElem?_cons_succ, List.getElem?_cons_zero]; rfl) rfl ?hw63 (fun w1 => ?hy63) ?hn63; (case hw63 => rfl); (case hy63 => (go_simp; (try with_reducible rfl))); (try simp only [Act.put, List.setIfInBounds_toArray, List.set_cons_zero, List.set_cons_succ]))
  (refine TD.val0 (v := ?v64) (by simp only [List.getElem?_toArray, List.getElem?_cons_succ, List.getElem?_cons_zero]; rfl) rfl ?hw64 (fun w1 => ?hy64) ?hn64; (case hw64 => rfl); (case hy64 => (go_simp; (try with_reducible rfl))); (try simp only [Act.put, List.setIfInBounds_toArray, List.set_cons_zero, List.set_cons_succ]))
  refine TD.nil (fun w4 hr => ?_)
  have kr := hr.mod.at kr (fun h => h)
  have kp5 := hr.mod.at kp5 (fun h => h)
  have kp8 := hr.mod.at kp8 (fun h => h)
  have kp11 := hr.mod.at kp11 (fun h => h)
  have kp14 := hr.box p14 _ (by first | exact Bx.set_same _ _ _ | (simp only [Bx.set_same]; rfl)); dsimp only [Value.cells] at kp14; obtain ⟨gp14, kp14⟩ := kp14
  have m4 := m3.then0 hr.mod
  clear hr
  go_upto_region 5 with fail
  have Lkr := lt_size kr
  have Lkp5 := lt_size kp5
  have Lkp8 := lt_size kp8
  have Lkp11 := lt_size kp11
  have Lkp14 := lt_size kp14
  refine wp_gpass (T0 := fun _ => False) (K := fun _ _ => True) (κ := fun i => [0, 0, 0, 0, 0, 0, 0, 0, 0, 0, 0, 0, 0, 0, 0, 0, 0, 0, 0, 0, 0, 0, 0, 0, 0, 0, 0, 0, 0, 0, 6, 0, 0, 0, 0, 0, 0, 0, 0, 0, 6, 0, 6, 6, 0, 0].getD i 0) (υ := fun i => [[], [], [], [], [], [], [], [], [], [], [], [], [], [], [], [], [], [], [], [], [], [], [], [], [], [], [], [], [], [], [], [], [], [], [], [], [], [], [], [], [], [], [], [], [], []].getD i []) [0, 1, 2, 3, 4, 5, 6, 7, 8, 9, 10, 11, 12, 13, 14, 15, 16, 17, 18, 19, 20, 21, 22, 23, 24, 25, 26, 27, 28, 29, 30, 31, 32, 33, 34, 35, 36, 37, 38, 39, 40, 41, 42, 43, 44, 45] (by kernel_rfl) (by kernel_rfl) (Good.true).cl (trivial) (fun _ h => h.elim) ?_
  have gK := Good.true
  (refine TG.load (v := ?v65) (p := ?p65) (by simp only [List.getElem?_toArray, List.getElem?_cons_succ, List.getElem?_cons_zero]; rfl) rfl ?hw65 rfl ?hx65 (fun wq hSq => ?hy65) ?hn65; (case hw65 => rfl); (case hx65 => (simp only [Act.eval, Array.getD_eq_getD_getElem?, List.getElem?_toArray, List.getElem?_cons_succ, List.getElem?_cons_zero, Option.getD_some]; (try rfl))); (case hy65 => (have krq := hSq.at kr (by intro hT; first | exact hT | exact absurd hT (by assumption) | (simp only at hT; omega)); have kp5q := hSq.at kp5 (by intro hT; first | exact hT | exact absurd hT (by assumption) | (simp only at hT; omega)); have kp8q := hSq.at kp8 (by intro hT; first | exact hT | exact absurd hT (by assumption) | (simp only at hT; omega)); have kp11q := hSq.at kp11 (by intro hT; first | exact hT | exact absurd hT (by assumption) | (simp only at hT; omega)); have kp14q := hSq.at kp14 (by intro hT; first | exact hT | exact absurd hT (by assumption) | (simp only at hT; omega)); go_simp; (try with_reducible rfl))); (try simp only [Act.put, List.setIfInBounds_toArray, List.set_cons_zero, List.set_cons_succ]))
  (refine TG.load (v := ?v66) (p := ?p66) (by simp only [List.getElem?_toArray, List.getElem?_cons_succ, List.getElem?_cons_zero]; rfl) rfl ?hw66 rfl ?hx66 (fun wq hSq => ?hy66) ?hn66; (case hw66 => rfl); (case hx66 => (simp only [Act.eval, Array.getD_eq_getD_getElem?, List.getElem?_toArray, List.getElem?_cons_succ, List.getElem?_cons_zero, Option.getD_some]; (try rfl))); (case hy66 => (have krq := hSq.at kr (by intro hT; first | exact hT | exact absurd hT (by assumption) | (simp only at hT; omega)); have kp5q := hSq.at kp5 (by intro hT; first | exact hT | exact absurd hT (by assumption) | (simp only at hT; omega)); have kp8q := hSq.at kp8 (by intro hT; first | exact hT | exact absurd hT (by assumption) | (simp only at hT; omega)); have kp11q := hSq.at kp11 (by intro hT; first | exact hT | exact absurd hT (by assumption) | (simp only at hT; omega)); have kp14q := hSq.at kp14 (by intro hT; first | exact hT | exact absurd hT (by assumption) | (simp only at hT; omega)); go_simp; (try with_reducible rfl))); (try simp only [Act.put, List.setIfInBounds_toArray, List.set_cons_zero, List.set_cons_succ]))
  (refine TG.v0 (v := ?v67) (by simp only [List.getElem?_toArray, List.getElem?_cons_succ, List.getElem?_cons_zero]; rfl) rfl ?hw67 (fun w1 => ?hy67) ?hn67; (case hw67 => rfl); (case hy67 => (simp only [execOp, Act.eval, Array.getD_eq_getD_getElem?, List.getElem?_toArray, List.getElem?_cons_succ, List.getElem?_cons_zero, Option.getD_some, rkc_ext]; go_simp; (try with_reducible rfl))); (try simp only [Act.put, List.setIfInBounds_toArray, List.set_cons_zero, List.set_cons_succ]))
  (refine TG.v0 (v := ?v68) (by simp only [List.getElem?_toArray, List.getElem?_cons_succ, List.getElem?_cons_zero]; rfl) rfl ?hw68 (fun w1 => ?hy68) ?hn68; (case hw68 => rfl); (case hy68 => (go_simp; (try with_reducible rfl))); (try simp only [Act.put, List.setIfInBounds_toArray, List.set_cons_zero, List.set_cons_succ]))
  (refine TG.v0 (v := ?v69) (by simp only [List.getElem?_toArray, List.getElem?_cons_succ, List.getElem?_cons_zero]; rfl) rfl ?hw69 (fun w1 => ?hy69) ?hn69; (case hw69 => rfl); (case hy69 => (go_simp; (try with_reducible rfl))); (try simp only [Act.put, List.setIfInBounds_toArray, List.set_cons_zero, List.set_cons_succ]))
  (refine TG.v0 (v := ?v70) (by simp only [List.getElem?_toArray, List.getElem?_cons_succ, List.getElem?_cons_zero]; rfl) rfl ?hw70 (fun w1 => ?hy70) ?hn70; (case hw70 => rfl); (case hy70 => (go_simp; (try with_reducible rfl))); (try simp only [Act.put, List.setIfInBounds_toArray, List.set_cons_zero, List.set_cons_succ]))
  (refine TG.v0 (v := ?v71) (by simp only [List.getElem?_toArray, List.getElem?_cons_succ, List.getElem?_cons_zero]; rfl) rfl ?hw71 (fun w1 => ?hy71) ?hn71; (case hw71 => rfl); (case hy71 => (go_simp; (try with_reducible rfl))); (try simp only [Act.put, List.setIfInBounds_toArray, List.set_cons_zero, List.set_cons_succ]))
  (refine TG.v0 (v := ?v72) (by simp only [List.getElem?_toArray, List.getElem?_cons_succ, List.getElem?_cons_zero]; rfl) rfl ?hw72 (fun w1 => ?hy72) ?hn72; (case hw72 => rfl); (case hy72 => (go_simp; (try with_reducible rfl))); (try simp only [Act.put, List.setIfInBounds_toArray, List.set_cons_zero, List.set_cons_succ]))
  (refine TG.v0 (v := ?v73) (by simp only [List.getElem?_toArray, List.getElem?_cons_succ, List.getElem?_cons_zero]; rfl) rfl ?hw73 (fun w1 => ?hy73) ?hn73; (case hw73 => rfl); (case hy73 => (go_simp; (try with_reducible rfl))); (try simp only [Act.put, List.setIfInBounds_toArray, List.set_cons_zero, List.set_cons_succ]))
  (refine TG.v0 (v := ?v74) (by simp only [List.getElem?_toArray, List.getElem?_cons_succ, List.getElem?_cons_zero]; rfl) rfl ?hw74 (fun w1 => ?hy74) ?hn74; (case hw74 => rfl); (case hy74 => (go_simp; (try with_reducible rfl))); (try simp only [Act.put, List.setIfInBounds_toArray, List.set_cons_zero, List.set_cons_succ]))
  (refine TG.v0 (v := ?v75) (by simp only [List.getElem?_toArray, List.getElem?_cons_succ, List.getElem?_cons_zero]; rfl) rfl ?hw75 (fun w1 => ?hy75) ?hn75; (case hw75 => rfl); (case hy75 => (go_simp; (try with_reducible rfl))); (try simp only [Act.put, List.setIfInBounds_toArray, List.set_cons_zero, List.set_cons_succ]))
  (refine TG.v0 (v := ?v76) (by simp only [List.getElem?_toArray, List.getElem?_cons_succ, List.getElem?_cons_zero]; rfl) rfl ?hw76 (fun w1 => ?hy76) ?hn76; (case hw76 => rfl); (case hy76 => (go_simp; (try with_reducible rfl))); (try simp only [Act.put, List.setIfInBounds_toArray, List.set_cons_zero, List.set_cons_succ]))
  (refine TG.v0 (v := ?v77) (by simp only [List.getElem?_toArray, List.getElem?_cons_succ, List.getElem?_cons_zero]; rfl) rfl ?hw77 (fun w1 => ?hy77) ?hn77; (case hw77 => rfl); (case hy77 => (go_simp; (try with_reducible rfl))); (try simp only [Act.put, List.setIfInBounds_toArray, List.set_cons_zero, List.set_cons_succ]))
  (refine TG.v0 (v := ?v78) (by simp only [List.getElem?_toArray, List.getElem?_cons_succ, List.getElem?_cons_zero]; rfl) rfl ?hw78 (fun w1 => ?hy78) ?hn78; (case hw78 => rfl); (case hy78 => (go_simp; (try with_reducible rfl))); (try simp only [Act.put, List.setIfInBounds_toArray, List.set_cons_zero, List.set_cons_succ]))
  (refine TG.load (v := ?v79) (p := ?p79) (by simp only [List.getElem?_toArray, List.getElem?_cons_succ, List.getElem?_cons_zero]; rfl) rfl ?hw79 rfl ?hx79 (fun wq hSq => ?hy79) ?hn79; (case hw79 => rfl); (case hx79 => (simp only [Act.eval, Array.getD_eq_getD_getElem?, List.getElem?_toArray, List.getElem?_cons_succ, List.getElem?_cons_zero, Option.getD_some]; (try rfl))); (case hy79 => (have krq := hSq.at kr (by intro hT; first | exact hT | exact absurd hT (by assumption) | (simp only at hT; omega)); have kp5q := hSq.at kp5 (by intro hT; first | exact hT | exact absurd hT (by assumption) | (simp only at hT; omega)); have kp8q := hSq.at kp8 (by intro hT; first | exact hT | exact absurd hT (by assumption) | (simp only at hT; omega)); have kp11q := hSq.at kp11 (by intro hT; first | exact hT | exact absurd hT (by assumption) | (simp only at hT; omega)); have kp14q := hSq.at kp14 (by intro hT; first | exact hT | exact absurd hT (by assumption) | (simp only at hT; omega)); go_simp; (try with_reducible rfl))); (try simp only [Act.put, List.setIfInBounds_toArray, List.set_cons_zero, List.set_cons_succ]))
  (refine TG.load (v := ?v80) (p := ?p80) (by simp only [List.getElem?_toArray, List.getElem?_cons_succ, List.getElem?_cons_zero]; rfl) rfl ?hw80 rfl ?hx80 (fun wq hSq => ?hy80) ?hn80; (case hw80 => rfl); (case hx80 => (simp only [Act.eval, Array.getD_eq_getD_getElem?, List.getElem?_toArray, List.getElem?_cons_succ, List.getElem?_cons_zero, Option.getD_some]; (try rfl))); (case hy80 => (have krq := hSq.at kr (by intro hT; first | exact hT | exact absurd hT (by assumption) | (simp only at hT; omega)); have kp5q := hSq.at kp5 (by intro hT; first | exact hT | exact absurd hT (by assumption) | (simp only at hT; omega)); have kp8q := hSq.at kp8 (by intro hT; first | exact hT | exact absurd hT (by assumption) | (simp only at hT; omega)); have kp11q := hSq.at kp11 (by intro hT; first | exact hT | exact absurd hT (by assumption) | (simp only at hT; omega)); have kp14q := hSq.at kp14 (by intro hT; first | exact hT | exact absurd hT (by assumption) | (simp only at hT; omega)); go_simp; (try with_reducible rfl))); (try simp only [Act.put, List.setIfInBounds_toArray, List.set_cons_zero, List.set_cons_succ]))
  (refine TG.v0 (v := ?v81) (by simp only [List.getElem?_toArray, List.getElem?_cons_succ, List.getElem?_cons_zero]; rfl) rfl ?hw81 (fun w1 => ?hy81) ?hn81; (case hw81 => rfl); (case hy81 => (simp only [execOp, Act.eval, Array.getD_eq_getD_getElem?, List.getElem?_toArray, List.getElem?_cons_succ, List.getElem?_cons_zero, Option.getD_some, rkc_ext]; go_simp; (try with_reducible rfl))); (try simp only [Act.put, List.setIfInBounds_toArray, List.set_cons_zero, List.set_cons_succ]))
  (refine TG.v0 (v := ?v82) (by simp only [List.getElem?_toArray, List.getElem?_cons_succ, List.getElem?_cons_zero]; rfl) rfl ?hw82 (fun w1 => ?hy82) ?hn82; (case hw82 => rfl); (case hy82 => (go_simp; (try with_reducible rfl))); (try simp only [Act.put, List.setIfInBounds_toArray, List.set_cons_zero, List.set_cons_succ]))
  (refine TG.v0 (v := ?v83) (by simp only [List.getElem?_toArray, List.getElem?_cons_succ, List.getElem?_cons_zero]; rfl) rfl ?hw83 (fun w1 => ?hy83) ?hn83; (case hw83 => rfl); (case hy83 => (go_simp; (try with_reducible rfl))); (try simp only [Act.put, List.setIfInBounds_toArray, List.set_cons_zero, List.set_cons_succ]))
  (refine TG.v0 (v := ?v84) (by simp only [List.getElem?_toArray, List.getElem?_cons_succ, List.getElem?_cons_zero]; rfl) rfl ?hw84 (fun w1 => ?hy84) ?hn84; (case hw84 => rfl); (case hy84 => (go_simp; (try with_reducible rfl))); (try simp only [Act.put, List.setIfInBounds_toArray, List.set_cons_zero, List.set_cons_succ]))
  (refine TG.v0 (v := ?v85) (by simp only [List.getElem?_toArray, List.getElem?_cons_succ, List.getElem?_cons_zero]; rfl) rfl ?hw85 (fun w1 => ?hy85) ?hn85; (case hw85 => rfl); (case hy85 => (go_simp; (try with_reducible rfl))); (try simp only [Act.put, List.setIfInBounds_toArray, List.set_cons_zero, List.set_cons_succ]))
  (refine TG.v0 (v := ?v86) (by simp only [List.getElem?_toArray, List.getElem?_cons_succ, List.getElem?_cons_zero]; rfl) rfl ?hw86 (fun w1 => ?hy86) ?hn86; (case hw86 => rfl); (case hy86 => (go_simp; (try with_reducible rfl))); (try simp only [Act.put, List.setIfInBounds_toArray, List.set_cons_zero, List.set_cons_succ]))
  (refine TG.v0 (v := ?v87) (by simp only [List.getElem?_toArray, List.getElem?_cons_succ, List.getElem?_cons_zero]; rfl) rfl ?hw87 (fun w1 => ?hy87) ?hn87; (case hw87 => rfl); (case hy87 => (go_simp; (try with_reducible rfl))); (try simp only [Act.put, List.setIfInBounds_toArray, List.set_cons_zero, List.set_cons_succ]))
  (refine TG.v0 (v := ?v88) (by simp only [List.getElem?_toArray, List.getElem?_cons_succ, List.getElem?_cons_zero]; rfl) rfl ?hw88 (fun w1 => ?hy88) ?hn88; (case hw88 => rfl); (case hy88 => (go_simp; (try with_reducible rfl))); (try simp only [Act.put, List.setIfInBounds_toArray, List.set_cons_zero, List.set_cons_succ]))
  (refine TG.v0 (v := ?v89) (by simp only [List.getElem?_toArray, List.getElem?_cons_succ, List.getElem?_cons_zero]; rfl) rfl ?hw89 (fun w1 => ?hy89) ?hn89; (case hw89 => rfl); (case hy89 => (go_simp; (try with_reducible rfl))); (try simp only [Act.put, List.setIfInBounds_toArray, List.set_cons_zero, List.set_cons_succ]))
  (refine TG.v0 (v := ?v90) (by simp only [List.getElem?_toArray, List.getElem?_cons_succ, List.getElem?_cons_zero]; rfl) rfl ?hw90 (fun w1 => ?hy90) ?hn90; (case hw90 => rfl); (case hy90 => (go_simp; (try with_reducible rfl))); (try simp only [Act.put, List.setIfInBounds_toArray, List.set_cons_zero, List.set_cons_succ]))
  (refine TG.v0 (v := ?v91) (by simp only [List.getElem?_toArray, List.getElem?_cons_succ, List.getElem?_cons_zero]; rfl) rfl ?hw91 (fun w1 => ?hy91) ?hn91; (case hw91 => rfl); (case hy91 => (go_simp; (try with_reducible rfl))); (try simp only [Act.put, List.setIfInBounds_toArray, List.set_cons_zero, List.set_cons_succ]))
  (refine TG.v0 (v := ?v92) (by simp only [List.getElem?_toArray, List.getElem?_cons_succ, List.getElem?_cons_zero]; rfl) rfl ?hw92 (fun w1 => ?hy92) ?hn92; (case hw92 => rfl); (case hy92 => (go_simp; (try with_reducible rfl))); (try simp only [Act.put, List.setIfInBounds_toArray, List.set_cons_zero, List.set_cons_succ]))
  (refine TG.v0 (v := ?v93) (by simp only [List.getElem?_toArray, List.getElem?_cons_succ, List.getElem?_cons_zero]; rfl) rfl ?hw93 (fun w1 => ?hy93) ?hn93; (case hw93 => rfl); (case hy93 => (go_simp; (try with_reducible rfl))); (try simp only [Act.put, List.setIfInBounds_toArray, List.set_cons_zero, List.set_cons_succ]))
  (refine TG.v0 (v := ?v94) (by simp only [List.getElem?_toArray, List.getElem?_cons_succ, List.getElem?_cons_zero]; rfl) rfl ?hw94 (fun w1 => ?hy94) ?hn94; (case hw94 => rfl); (case hy94 => (go_simp; (try with_reducible rfl))); (try simp only [Act.put, List.setIfInBounds_toArray, List.set_cons_zero, List.set_cons_succ]))
  (refine TG.callN (f := ?f95) (args := ?r95) (fun v => v = .int .i64 (C.length : Int)) gK (by simp only [List.getElem?_toArray, List.getElem?_cons_succ, List.getElem?_cons_zero]; rfl) rfl ?hw95 (fun w1 => ?hy95) (fun T wq kq ltq hSq ub => ?hsp95) ?hn95; (case hw95 => rfl); (case hy95 => (go_simp; (first | with_reducible rfl | (constructor <;> with_reducible rfl)))); (case hsp95 => (have krq := hSq.at kr (by intro hT; first | exact hT | exact absurd hT (by assumption) | (simp only at hT; omega)); have kp5q := hSq.at kp5 (by intro hT; first | exact hT | exact absurd hT (by assumption) | (simp only at hT; omega)); have kp8q := hSq.at kp8 (by intro hT; first | exact hT | exact absurd hT (by assumption) | (simp only at hT; omega)); have kp11q := hSq.at kp11 (by intro hT; first | exact hT | exact absurd hT (by assumption) | (simp only at hT; omega)); have kp14q := hSq.at kp14 (by intro hT; first | exact hT | exact absurd hT (by assumption) | (simp only at hT; omega)); exact (H5.out wq (m4.then0 hSq)).mono (fun e w' h => ⟨_, h.1, rfl, by rw [h.2]; exact Mod.refl _ _⟩))); rintro v95 hC; subst hC; (try simp only [Act.put, List.setIfInBounds_toArray, List.set_cons_zero, List.set_cons_succ]))
  (refine TG.v0 (v := ?v96) (by simp only [List.getElem?_toArray, List.getElem?_cons_succ, List.getElem?_cons_zero]; rfl) rfl ?hw96 (fun w1 => ?hy96) ?hn96; (case hw96 => rfl); (case hy96 => (go_simp; (try with_reducible rfl))); (try simp only [Act.put, List.setIfInBounds_toArray, List.set_cons_zero, List.set_cons_succ]))
  (refine TG.v0 (v := ?v97) (by simp only [List.getElem?_toArray, List.getElem?_cons_succ, List.getElem?_cons_zero]; rfl) rfl ?hw97 (fun w1 => ?hy97) ?hn97; (case hw97 => rfl); (case hy97 => (go_simp; (try with_reducible rfl))); (try simp only [Act.put, List.setIfInBounds_toArray, List.set_cons_zero, List.set_cons_succ]))
  (refine TG.v0 (v := ?v98) (by simp only [List.getElem?_toArray, List.getElem?_cons_succ, List.getElem?_cons_zero]; rfl) rfl ?hw98 (fun w1 => ?hy98) ?hn98; (case hw98 => rfl); (case hy98 => (go_simp; (try with_reducible rfl))); (try simp only [Act.put, List.setIfInBounds_toArray, List.set_cons_zero, List.set_cons_succ]))
  (refine TG.load (v := ?v99) (p := ?p99) (by simp only [List.getElem?_toArray, List.getElem?_cons_succ, List.getElem?_cons_zero]; rfl) rfl ?hw99 rfl ?hx99 (fun wq hSq => ?hy99) ?hn99; (case hw99 => rfl); (case hx99 => (simp only [Act.eval, Array.getD_eq_getD_getElem?, List.getElem?_toArray, List.getElem?_cons_succ, List.getElem?_cons_zero, Option.getD_some]; (try rfl))); (case hy99 => (have krq := hSq.at kr (by intro hT; first | exact hT | exact absurd hT (by assumption) | (simp only at hT; omega)); have kp5q := hSq.at kp5 (by intro hT; first | exact hT | exact absurd hT (by assumption) | (simp only at hT; omega)); have kp8q := hSq.at kp8 (by intro hT; first | exact hT | exact absurd hT (by assumption) | (simp only at hT; omega)); have kp11q := hSq.at kp11 (by intro hT; first | exact hT | exact absurd hT (by assumption) | (simp only at hT; omega)); have kp14q := hSq.at kp14 (by intro hT; first | exact hT | exact absurd hT (by assumption) | (simp only at hT; omega)); go_simp; (try with_reducible rfl))); (try simp only [Act.put, List.setIfInBounds_toArray, List.set_cons_zero, List.set_cons_succ]))
  (refine TG.v0 (v := ?v100) (by simp only [List.getElem?_toArray, List.getElem?_cons_succ, List.getElem?_cons_zero]; rfl) rfl ?hw100 (fun w1 => ?hy100) ?hn100; (case hw100 => rfl); (case hy100 => (go_simp; (try with_reducible rfl))); (try simp only [Act.put, List.setIfInBounds_toArray, List.set_cons_zero, List.set_cons_succ]))
  (refine TG.v0 (v := ?v101) (by simp only [List.getElem?_toArray, List.getElem?_cons_succ, List.getElem?_cons_zero]; rfl) rfl ?hw101 (fun w1 => ?hy101) ?hn101; (case hw101 => rfl); (case hy101 => (go_simp; (try with_reducible rfl))); (try simp only [Act.put, List.setIfInBounds_toArray, List.set_cons_zero, List.set_cons_succ]))
  (refine TG.v0 (v := ?v102) (by simp only [List.getElem?_toArray, List.getElem?_cons_succ, List.getElem?_cons_zero]; rfl) rfl ?hw102 (fun w1 => ?hy102) ?hn102; (case hw102 => rfl); (case hy102 => (go_simp; (try with_reducible rfl))); (try simp only [Act.put, List.setIfInBounds_toArray, List.set_cons_zero, List.set_cons_succ]))
  (refine TG.v0 (v := ?v103) (by simp only [List.getElem?_toArray, List.getElem?_cons_succ, List.getElem?_cons_zero]; rfl) rfl ?hw103 (fun w1 => ?hy103) ?hn103; (case hw103 => rfl); (case hy103 => (go_simp; (try with_reducible rfl))); (try simp only [Act.put, List.setIfInBounds_toArray, List.set_cons_zero, List.set_cons_succ]))
  (refine TG.v0 (v := ?v104) (by simp only [List.getElem?_toArray, List.getElem?_cons_succ, List.getElem?_cons_zero]; rfl) rfl ?hw104 (fun w1 => ?hy104) ?hn104; (case hw104 => rfl); (case hy104 => (go_simp; (try with_reducible rfl))); (try simp only [Act.put, List.setIfInBounds_toArray, List.set_cons_zero, List.set_cons_succ]))
  (refine TG.callM (f := ?f105) (args := ?r105) (OwnI (D.map Nd.id)) (goodI (D.map Nd.id)) gK (by simp only [List.getElem?_toArray, List.getElem?_cons_succ, List.getElem?_cons_zero]; rfl) rfl ?hw105 (fun w1 => ?hy105) (fun T wq kq ltq hSq ub => ?hsp105) ?hn105; (case hw105 => rfl); (case hy105 => (go_simp; (first | with_reducible rfl | (constructor <;> with_reducible rfl)))); (case hsp105 => (have krq := hSq.at kr (by intro hT; first | exact hT | exact absurd hT (by assumption) | (simp only at hT; omega)); have kp5q := hSq.at kp5 (by intro hT; first | exact hT | exact absurd hT (by assumption) | (simp only at hT; omega)); have kp8q := hSq.at kp8 (by intro hT; first | exact hT | exact absurd hT (by assumption) | (simp only at hT; omega)); have kp11q := hSq.at kp11 (by intro hT; first | exact hT | exact absurd hT (by assumption) | (simp only at hT; omega)); have kp14q := hSq.at kp14 (by intro hT; first | exact hT | exact absurd hT (by assumption) | (simp only at hT; omega)); exact (H6.out wq (m4.then0 hSq)).mono (fun e w' h => by obtain ⟨v, h1, h2, h3⟩ := h; exact ⟨v, h1, h3, ownI_new h2⟩))); rintro v105 ⟨wI, TI, hI⟩; replace gK := gK.and ((goodI (D.map Nd.id)) v105); skip; (try clear hI TI wI); (try simp only [Act.put, List.setIfInBounds_toArray, List.set_cons_zero, List.set_cons_succ]))
  (refine TG.v0 (v := ?v106) (by simp only [List.getElem?_toArray, List.getElem?_cons_succ, List.getElem?_cons_zero]; rfl) rfl ?hw106 (fun w1 => ?hy106) ?hn106; (case hw106 => rfl); (case hy106 => (go_simp; (try with_reducible rfl))); (try simp only [Act.put, List.setIfInBounds_toArray, List.set_cons_zero, List.set_cons_succ]))
  (refine TG.callM (f := ?f107) (args := ?r107) (OwnI (D.map Nd.id)) (goodI (D.map Nd.id)) gK (by simp only [List.getElem?_toArray, List.getElem?_cons_succ, List.getElem?_cons_zero]; rfl) rfl ?hw107 (fun w1 => ?hy107) (fun T wq kq ltq hSq ub => ?hsp107) ?hn107; (case hw107 => rfl); (case hy107 => (go_simp; (first | with_reducible rfl | (constructor <;> with_reducible rfl)))); (case hsp107 => (have krq := hSq.at kr (by intro hT; first | exact hT | exact absurd hT (by assumption) | (simp only at hT; omega)); have kp5q := hSq.at kp5 (by intro hT; first | exact hT | exact absurd hT (by assumption) | (simp only at hT; omega)); have kp8q := hSq.at kp8 (by intro hT; first | exact hT | exact absurd hT (by assumption) | (simp only at hT; omega)); have kp11q := hSq.at kp11 (by intro hT; first | exact hT | exact absurd hT (by assumption) | (simp only at hT; omega)); have kp14q := hSq.at kp14 (by intro hT; first | exact hT | exact absurd hT (by assumption) | (simp only at hT; omega)); exact (H7.out wq (m4.then0 hSq)).mono (fun e w' h => by obtain ⟨v, h1, h2, h3⟩ := h; exact ⟨v, h1, h3, ownI_new h2⟩))); rintro v107 ⟨wI, TI, hI⟩; replace gK := gK.and ((goodI (D.map Nd.id)) v107); skip; (try clear hI TI wI); (try simp only [Act.put, List.setIfInBounds_toArray, List.set_cons_zero, List.set_cons_succ]))
  (refine TG.callN (f := ?f108) (args := ?r108) (fun v => v = .bool true) gK (by simp only [List.getElem?_toArray, List.getElem?_cons_succ, List.getElem?_cons_zero]; rfl) rfl ?hw108 (fun w1 => ?hy108) (fun T wq kq ltq hSq ub => ?hsp108) ?hn108; (case hw108 => rfl); (case hy108 => (go_simp; (first | with_reducible rfl | (constructor <;> with_reducible rfl)))); (case hsp108 => (have krq := hSq.at kr (by intro hT; first | exact hT | exact absurd hT (by assumption) | (simp only at hT; omega)); have kp5q := hSq.at kp5 (by intro hT; first | exact hT | exact absurd hT (by assumption) | (simp only at hT; omega)); have kp8q := hSq.at kp8 (by intro hT; first | exact hT | exact absurd hT (by assumption) | (simp only at hT; omega)); have kp11q := hSq.at kp11 (by intro hT; first | exact hT | exact absurd hT (by assumption) | (simp only at hT; omega)); have kp14q := hSq.at kp14 (by intro hT; first | exact hT | exact absurd hT (by assumption) | (simp only at hT; omega)); exact (same_c kq.1.2.1 kq.2.1 HML.out HML.out).mono (fun e w' h => ⟨_, h.1, by simp, h.2⟩))); rintro v108 hC; subst hC; (try simp only [Act.put, List.setIfInBounds_toArray, List.set_cons_zero, List.set_cons_succ]))
  (refine TG.v0 (v := ?v109) (by simp only [List.getElem?_toArray, List.getElem?_cons_succ, List.getElem?_cons_zero]; rfl) rfl ?hw109 (fun w1 => ?hy109) ?hn109; (case hw109 => rfl); (case hy109 => (go_simp; (try with_reducible rfl))); (try simp only [Act.put, List.setIfInBounds_toArray, List.set_cons_zero, List.set_cons_succ]))
  (refine TG.v0 (v := ?v110) (by simp only [List.getElem?_toArray, List.getElem?_cons_succ, List.getElem?_cons_zero]; rfl) rfl ?hw110 (fun w1 => ?hy110) ?hn110; (case hw110 => rfl); (case hy110 => (go_simp; (try with_reducible rfl))); (try simp only [Act.put, List.setIfInBounds_toArray, List.set_cons_zero, List.set_cons_succ]))
  refine TG.nil (fun w5 ⟨TR, hr⟩ => ?_)
  have kr := hr.mod.at kr (by intro hT; first | exact hT | exact absurd hT (by assumption) | (simp only at hT; omega))
  have kp5 := hr.mod.at kp5 (by intro hT; first | exact hT | exact absurd hT (by assumption) | (simp only at hT; omega))
  have kp8 := hr.mod.at kp8 (by intro hT; first | exact hT | exact absurd hT (by assumption) | (simp only at hT; omega))
  have kp11 := hr.mod.at kp11 (by intro hT; first | exact hT | exact absurd hT (by assumption) | (simp only at hT; omega))
  have kp14 := hr.mod.at kp14 (by intro hT; first | exact hT | exact absurd hT (by assumption) | (simp only at hT; omega))
  clear gK
  have m5 := m4.then0 hr.mod
  clear hr
  go_wp2_with fail
  go_ret
  exact ⟨rfl, m5⟩
end Go.Proofs.Ytnibhnnpjkemhaa
