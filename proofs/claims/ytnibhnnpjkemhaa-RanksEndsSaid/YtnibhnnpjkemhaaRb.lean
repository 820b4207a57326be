/- Both heaps side by side. -/
import Derived.Test.YtnibhnnpjkemhaaRlv
namespace Go.Proofs.Ytnibhnnpjkemhaa
open Go.RowKit Go.Sort
open Go.ChangeMaps (setBlock)
set_option linter.unusedSimpArgs false
set_option linter.unusedVariables false
attribute [local go_sem ↓] wlRk ldRk stRk wlNdR ldNdR stNdR eqRk eqRk2
attribute [local go_sem] rkc_size ndc_size rn_size cell_blk frozen_blk one_int one_bool one_ptr one_slice one_map Value.cells rkc_all1 rn_r rn_i rn_all rkc_ext zRk_size zNdR_size
set_option maxRecDepth 20000 in
set_option maxHeartbeats 3200000 in
theorem rpushT_c {p : Nat} {L : List Nd} {T : Nat → Prop} {w : World} (h : RAt p L T w) (r : Rk) (id : Int64) (hL : L.length ≤ 900000) (hid : ∃ y ∈ L, y.id = id) : Calls Try.prog 15 #[ptrV p, .agg (rkc r), .int .i64 id.toInt] w fun e w' => e = .returned (.int .i64 12) ∧ Mod (fun _ => False) w w' := by
  have hat : ∀ wq, Mod (fun _ => False) w wq → Calls Try.prog 32 #[ptrV p, .int .i64 id.toInt] wq fun e w' => (∃ (i : Nat) (x : Nd), e = .returned (.int .i64 (i : Int)) ∧ L[i]? = some x ∧ x.id = id) ∧ Mod (fun _ => False) wq w' := fun wq hq => rat1_c ((RAt.good p L).cl T w wq h (hq.mono (fun _ _ e => e.elim))) id hL hid
  have HAT := Lib.hid hat
  clear hat h hid hL
  go_enter Try.func15, Try.ntmps15
  go_upto_region 0 with fail
  refine wp_pass0 (C := fun _ _ _ => False) (κ := fun i => [3, 0].getD i 0) [0, 1] (by kernel_rfl) (by kernel_rfl) (fun _ _ d _ _ h => by cases d <;> exact h) ?_
  (refine TD.box (v := ?v1) (by simp only [List.getElem?_toArray, List.getElem?_cons_succ, List.getElem?_cons_zero]; rfl) rfl ?hw1 rfl rfl ?hx1 (fun p4 hp4 => ?hn1); (case hw1 => rfl); (case hx1 => (simp only [Act.eval, Array.getD_eq_getD_getElem?, List.getElem?_toArray, List.getElem?_cons_succ, List.getElem?_cons_zero, Option.getD_some]; (try rfl))); (try simp only [Act.put, List.setIfInBounds_toArray, List.set_cons_zero, List.set_cons_succ]))
  (refine TD.val0 (v := ?v2) (by simp only [List.getElem?_toArray, List.getElem?_cons_succ, List.getElem?_cons_zero]; rfl) rfl ?hw2 (fun w1 => ?hy2) ?hn2; (case hw2 => rfl); (case hy2 => (go_simp; (try with_reducible rfl))); (try simp only [Act.put, List.setIfInBounds_toArray, List.set_cons_zero, List.set_cons_succ]))
  refine TD.nil (fun w1 hr => ?_)
  have kp4 := hr.box p4 _ (by first | exact Bx.set_same _ _ _ | (simp only [Bx.set_same]; rfl)); dsimp only [Value.cells] at kp4; obtain ⟨gp4, kp4⟩ := kp4
  have m1 := hr.mod
  clear hr
  go_upto_region 1 with fail
  have Lkp4 := lt_size kp4
  refine wp_pass0 (C := fun _ _ v => ∃ (i : Nat), v = .int .i64 (i : Int)) (κ := fun i => [0, 0, 2, 0].getD i 0) [0, 1, 2, 3] (by kernel_rfl) (by kernel_rfl) (fun _ _ d _ _ h => by cases d <;> exact h) ?_
  (refine TD.val0 (v := ?v3) (by simp only [List.getElem?_toArray, List.getElem?_cons_succ, List.getElem?_cons_zero]; rfl) rfl ?hw3 (fun w1 => ?hy3) ?hn3; (case hw3 => rfl); (case hy3 => (go_simp; (try with_reducible rfl))); (try simp only [Act.put, List.setIfInBounds_toArray, List.set_cons_zero, List.set_cons_succ]))
  (refine TD.val0 (v := ?v4) (by simp only [List.getElem?_toArray, List.getElem?_cons_succ, List.getElem?_cons_zero]; rfl) rfl ?hw4 (fun w1 => ?hy4) ?hn4; (case hw4 => rfl); (case hy4 => (go_simp; (try with_reducible rfl))); (try simp only [Act.put, List.setIfInBounds_toArray, List.set_cons_zero, List.set_cons_succ]))
  (refine TD.call (f := ?f5) (args := ?r5) (Mod.refl _ _) (by simp only [List.getElem?_toArray, List.getElem?_cons_succ, List.getElem?_cons_zero]; rfl) rfl ?hw5 (fun w1 => ?hy5) ?hsp5 ?hn5; (case hw5 => rfl); (case hy5 => (go_simp; (first | with_reducible rfl | (constructor <;> with_reducible rfl)))); (case hsp5 => (intro wq hSq; have kp4q := hSq.at kp4 (fun h => h); exact (HAT.out wq (m1.then0 hSq)).mono (fun e w' h => by obtain ⟨⟨i, x, h1, h2, h3⟩, h4⟩ := h; exact ⟨_, h1, ⟨i, rfl⟩, h4⟩))); rintro _ ⟨i, rfl⟩; (try simp only [Act.put, List.setIfInBounds_toArray, List.set_cons_zero, List.set_cons_succ]))
  (refine TD.val0 (v := ?v6) (by simp only [List.getElem?_toArray, List.getElem?_cons_succ, List.getElem?_cons_zero]; rfl) rfl ?hw6 (fun w1 => ?hy6) ?hn6; (case hw6 => rfl); (case hy6 => (go_simp; (try with_reducible rfl))); (try simp only [Act.put, List.setIfInBounds_toArray, List.set_cons_zero, List.set_cons_succ]))
  refine TD.nil (fun w2 hr => ?_)
  have kp4 := hr.mod.at kp4 (fun h => h)
  have m2 := m1.then0 hr.mod
  clear hr HAT
  go_wp2_with fail
  go_ret
  exact ⟨rfl, m2⟩
/-- The program's heap and the document's, in blocks of T, apart. -/
def BBL (h p : Nat) (C D : List Nd) : Land := fun T w => ∃ T1 T2, HAt h C T1 w ∧ RAt p D T2 w ∧ (∀ i, T1 i → T i ∧ ¬ T2 i) ∧ (∀ i, T2 i → T i) ∧ (∀ i, T1 i → i < w.heap.size) ∧ ∀ i, T2 i → i < w.heap.size
theorem goodBB (h p : Nat) (C D : List Nd) : Good (BBL h p C D) where
  cl := by
    rintro T w w' ⟨T1, T2, hA, hR, h1, h2, h3, h4⟩ hm
    exact ⟨T1, T2, (HAt.good h C).cl T1 w w' hA (hm.mono (fun i _ hn ht => hn (h1 i ht).1)), (RAt.good p D).cl T2 w w' hR (hm.mono (fun i _ hn ht => hn (h2 i ht))), h1, h2, fun i hi => Nat.lt_of_lt_of_le (h3 i hi) hm.size, fun i hi => Nat.lt_of_lt_of_le (h4 i hi) hm.size⟩
  gr := by
    rintro T T' w hT ⟨T1, T2, hA, hR, h1, h2, h3, h4⟩
    exact ⟨T1, T2, hA, hR, fun i hi => ⟨hT i (h1 i hi).1, (h1 i hi).2⟩, fun i hi => hT i (h2 i hi), h3, h4⟩
section
variable {h p : Nat} {C C' D D' : List Nd} {T : Nat → Prop} {w w' : World}
/-- The program's heap has changed. -/
theorem BBL.stepH {T1 T2 T1' : Nat → Prop} (hR : RAt p D T2 w) (h1 : ∀ i, T1 i → T i ∧ ¬ T2 i) (h2 : ∀ i, T2 i → T i) (h4 : ∀ i, T2 i → i < w.heap.size) (hA' : HAt h C' T1' w') (hm : Mod T1 w w') (g1 : ∀ i, T1' i → T1 i ∨ w.heap.size ≤ i) (g2 : ∀ i, T1' i → i < w'.heap.size) :
    Mod T w w' ∧ BBL h p C' D (Grow T w w') w' := by
  refine ⟨hm.mono (fun i _ e => (h1 i e).1), T1', T2, hA', (RAt.good p D).cl T2 w w' hR (hm.mono (fun i _ e ht => (h1 i e).2 ht)), fun i hi => ?_, fun i hi => .inl (h2 i hi), g2, fun i hi => Nat.lt_of_lt_of_le (h4 i hi) hm.size⟩
  rcases g1 i hi with e | e
  · exact ⟨.inl (h1 i e).1, (h1 i e).2⟩
  · exact ⟨.inr ⟨e, g2 i hi⟩, fun ht => by have := h4 i ht; omega⟩
/-- The document's heap has changed. -/
theorem BBL.stepR {T1 T2 T2' : Nat → Prop} (hA : HAt h C T1 w) (h1 : ∀ i, T1 i → T i ∧ ¬ T2 i) (h2 : ∀ i, T2 i → T i) (h3 : ∀ i, T1 i → i < w.heap.size) (hR' : RAt p D' T2' w') (hm : Mod T2 w w') (g1 : ∀ i, T2' i → T2 i ∨ w.heap.size ≤ i) (g2 : ∀ i, T2' i → i < w'.heap.size) :
    Mod T w w' ∧ BBL h p C D' (Grow T w w') w' := by
  refine ⟨hm.mono (fun i _ e => h2 i e), T1, T2', (HAt.good h C).cl T1 w w' hA (hm.mono (fun i _ e ht => (h1 i ht).2 e)), hR', fun i hi => ⟨.inl (h1 i hi).1, fun ht => ?_⟩, fun i hi => ?_, fun i hi => Nat.lt_of_lt_of_le (h3 i hi) hm.size, g2⟩
  · rcases g1 i ht with e | e
    · exact (h1 i hi).2 e
    · have := h3 i hi
      omega
  · rcases g1 i hi with e | e
    · exact .inl (h2 i e)
    · exact .inr ⟨e, g2 i hi⟩
theorem BBL.pushH (H : BBL h p C D T w) (r : Rk) (id : Int64) (hC : C.length ≤ 700000) (hid : ∀ x ∈ C, x.id ≠ id) : Calls Try.prog 14 #[ptrV h, .agg (rkc r), .int .i64 id.toInt] w fun e w' => ∃ v, e = .returned v ∧ Mod T w w' ∧ (v = .int .i64 0 ∧ BBL h p (C ++ [⟨r, id⟩]) D (Grow T w w') w') := by
  obtain ⟨T1, T2, hA, hR, h1, h2, h3, h4⟩ := H
  refine (pushH_c hA h3 r id hC hid).mono ?_
  rintro e w' ⟨he, T1', hA', hm, g1, g2⟩
  obtain ⟨q1, q2⟩ := BBL.stepH hR h1 h2 h4 hA' hm g1 g2
  exact ⟨_, he, q1, rfl, q2⟩
theorem BBL.pushR (H : BBL h p C D T w) (x : Nd) (hD : D.length ≤ 700000) (hid : ∀ y ∈ D, y.id ≠ x.id) : Calls Try.prog 15 #[ptrV p, .agg (rkc x.r), .int .i64 x.id.toInt] w fun e w' => ∃ v, e = .returned v ∧ Mod T w w' ∧ (v = .int .i64 0 ∧ BBL h p C (insAt x D) (Grow T w w') w') := by
  obtain ⟨T1, T2, hA, hR, h1, h2, h3, h4⟩ := H
  refine (rpush_c hR h4 x (by omega) hid).mono ?_
  rintro e w' ⟨he, T2', hR', hm, g1, g2⟩
  obtain ⟨q1, q2⟩ := BBL.stepR hA h1 h2 h3 hR' hm g1 g2
  exact ⟨_, he, q1, rfl, q2⟩
theorem BBL.dropH (H : BBL h p C D T w) (id : Int64) (hC : C.length ≤ 700000) (hid : ∃ x ∈ C, x.id = id) : Calls Try.prog 16 #[ptrV h, .int .i64 id.toInt] w fun e w' => ∃ v, e = .returned v ∧ Mod T w w' ∧ (∃ x ∈ C, x.id = id ∧ v = .tuple #[.agg (rkc x.r), .int .i64 0]) ∧ BBL h p (C.eraseP (fun x => x.id == id)) D (Grow T w w') w' := by
  obtain ⟨T1, T2, hA, hR, h1, h2, h3, h4⟩ := H
  refine (dropH_c hA h3 id hC hid).mono ?_
  rintro e w' ⟨⟨x, hx, hxi, he⟩, hA', hm⟩
  obtain ⟨q1, q2⟩ := BBL.stepH hR h1 h2 h4 hA' hm (fun i hi => .inl hi) (fun i hi => Nat.lt_of_lt_of_le (h3 i hi) hm.size)
  exact ⟨_, he, q1, ⟨x, hx, hxi, rfl⟩, q2⟩
theorem BBL.dropR (H : BBL h p C D T w) (id : Int64) (hD : D.length ≤ 700000) (hid : ∃ x ∈ D, x.id = id) : Calls Try.prog 17 #[ptrV p, .int .i64 id.toInt] w fun e w' => ∃ v, e = .returned v ∧ Mod T w w' ∧ ∃ (i : Nat) (x : Nd), D[i]? = some x ∧ x.id = id ∧ v = .tuple #[.agg (rkc x.r), .int .i64 0] ∧ BBL h p C (D.eraseIdx i) (Grow T w w') w' := by
  obtain ⟨T1, T2, hA, hR, h1, h2, h3, h4⟩ := H
  refine (rdrop_c hR h4 id (by omega) hid).mono ?_
  rintro e w' ⟨i, x, hx, hxi, he, T2', hR', hm, g1, g2⟩
  obtain ⟨q1, q2⟩ := BBL.stepR hA h1 h2 h3 hR' hm g1 g2
  exact ⟨_, he, q1, i, x, hx, hxi, rfl, q2⟩
end
/-- Both, all of it made since w0. -/
def BB (w0 : World) (h p : Nat) (C D : List Nd) (ws : World) : Prop := ∃ T, BBL h p C D T ws ∧ (∀ i, T i → w0.heap.size ≤ i ∧ i < ws.heap.size) ∧ Mod (fun _ => False) w0 ws
section
variable {w0 w1 w2 ws : World} {h p : Nat} {C C' D D' : List Nd}
theorem BB.mod0 (H : BB w0 h p C D w1) (hm : Mod (fun _ => False) w1 w2) : BB w0 h p C D w2 := by
  obtain ⟨T, hA, hT, m⟩ := H
  exact ⟨T, (goodBB h p C D).cl T w1 w2 hA (hm.mono (fun _ _ e => e.elim)), fun i hi => ⟨(hT i hi).1, Nat.lt_of_lt_of_le (hT i hi).2 hm.size⟩, m.then0 hm⟩
theorem BB.m (H : BB w0 h p C D w1) : Mod (fun _ => False) w0 w1 := by
  obtain ⟨T, hA, hT, m⟩ := H
  exact m
theorem BB.rt {B : Bx} {K : Land} {T TR : Nat → Prop} (hT : ∀ i, T i → w0.heap.size ≤ i) (hm : Mod (fun _ => False) w0 w1) (hr : RT T w1 B K TR w2) (hA : BBL h p C' D' TR w2) : BB w0 h p C' D' w2 := by
  refine ⟨TR, hA, fun i hi => ⟨?_, hr.lt i hi⟩, hm.then hr.mod (fun i hi e => by have := hT i e; omega)⟩
  by_cases h1 : i < w1.heap.size
  · exact hT i (hr.old i h1 hi)
  · have := hm.size
    omega
theorem RT.low {B : Bx} {K : Land} {T TR : Nat → Prop} (hT : ∀ i, T i → w0.heap.size ≤ i) (hm : Mod (fun _ => False) w0 w1) (hr : RT T w1 B K TR w2) : ∀ i, TR i → w0.heap.size ≤ i ∧ i < w2.heap.size := fun i hi => ⟨by
  by_cases h1 : i < w1.heap.size
  · exact hT i (hr.old i h1 hi)
  · have := hm.size
    omega, hr.lt i hi⟩
theorem BB.ids (H : BB w0 h p C D ws) : (C.map Nd.id).Nodup := by
  obtain ⟨T, ⟨T1, T2, hA, _⟩, _⟩ := H
  exact hA.ids
theorem BB.alike (H : BB w0 h p C D ws) (hD : D.Perm C) (hS : Srt D) (hC : C.length ≤ 700000) : Calls Try.prog 18 #[ptrV h, ptrV p] ws fun e w' => e = .returned (.bool true) ∧ Mod (fun _ => False) ws w' := by
  obtain ⟨T, ⟨T1, T2, hA, hR, _⟩, _⟩ := H
  exact alike_c hA hR hD hS hC
theorem BB.rtop (H : BB w0 h p C D ws) : Calls Try.prog 12 #[ptrV p] ws fun e w' => e = .returned (env (enOf D.head?)) ∧ Mod (fun _ => False) ws w' := by
  obtain ⟨T, ⟨T1, T2, hA, hR, _⟩, _⟩ := H
  exact rtopS_c hR
theorem BB.rbot (H : BB w0 h p C D ws) (hD : D.length ≤ 700000) : Calls Try.prog 13 #[ptrV p] ws fun e w' => e = .returned (env (enOf D.getLast?)) ∧ Mod (fun _ => False) ws w' := by
  obtain ⟨T, ⟨T1, T2, hA, hR, _⟩, _⟩ := H
  exact rbotS_c hR (by omega)
theorem BB.pushTH (H : BB w0 h p C D ws) (r : Rk) (id : Int64) (hid : ∃ x ∈ C, x.id = id) : Calls Try.prog 14 #[ptrV h, .agg (rkc r), .int .i64 id.toInt] ws fun e w' => e = .returned (.int .i64 12) ∧ Mod (fun _ => False) ws w' := by
  obtain ⟨T, ⟨T1, T2, hA, hR, _⟩, _⟩ := H
  exact pushT_c hA r id hid
theorem BB.pushTR (H : BB w0 h p C D ws) (r : Rk) (id : Int64) (hD : D.length ≤ 700000) (hid : ∃ x ∈ D, x.id = id) : Calls Try.prog 15 #[ptrV p, .agg (rkc r), .int .i64 id.toInt] ws fun e w' => e = .returned (.int .i64 12) ∧ Mod (fun _ => False) ws w' := by
  obtain ⟨T, ⟨T1, T2, hA, hR, _⟩, _⟩ := H
  exact rpushT_c hR r id (by omega) hid
theorem BB.dropNH (H : BB w0 h p C D ws) (id : Int64) (hid : ∀ x ∈ C, x.id ≠ id) : Calls Try.prog 16 #[ptrV h, .int .i64 id.toInt] ws fun e w' => e = .returned (.tuple #[.agg (rkc rk0), .int .i64 11]) ∧ Mod (fun _ => False) ws w' := by
  obtain ⟨T, ⟨T1, T2, hA, hR, _⟩, _⟩ := H
  exact dropN_c hA id hid
theorem BB.dropNR (H : BB w0 h p C D ws) (id : Int64) (hD : D.length ≤ 700000) (hid : ∀ x ∈ D, x.id ≠ id) : Calls Try.prog 17 #[ptrV p, .int .i64 id.toInt] ws fun e w' => e = .returned (.tuple #[.agg (rkc rk0), .int .i64 11]) ∧ Mod (fun _ => False) ws w' := by
  obtain ⟨T, ⟨T1, T2, hA, hR, _⟩, _⟩ := H
  exact rdropN_c hR id (by omega) hid
theorem BB.list (H : BB w0 h p C D ws) (hD : D.Perm C) (hS : Srt D) (hC : C.length ≤ 700000) : Calls Try.prog 19 #[ptrV h] ws fun e w' => ∃ v, e = .returned v ∧ SlOwn ic 1 3 w' ws.heap.size v (D.map Nd.id) ∧ Mod (fun _ => False) ws w' := by
  obtain ⟨T, ⟨T1, T2, hA, hR, _⟩, _⟩ := H
  exact listS_c hA hD hS hC
end
/-! What a push, a drop makes of both lists. -/
theorem insAt_perm (x : Nd) : ∀ (D : List Nd), (insAt x D).Perm (D ++ [x])
  | [] => .refl _
  | y :: r => by
    unfold insAt
    split
    · exact (insAt_perm x r).cons y
    · exact (List.perm_append_singleton x (y :: r)).symm
theorem insAt_srt {x : Nd} : ∀ {D : List Nd}, Srt D → (∀ y ∈ D, y.id ≠ x.id) → Srt (insAt x D)
  | [], _, _ => List.pairwise_singleton _ _
  | y :: r, h, hid => by
    unfold insAt
    split
    · rename_i hy
      refine List.Pairwise.cons (fun z hz => ?_) (insAt_srt (List.Pairwise.of_cons h) (fun z hz => hid z (by simp [hz])))
      rcases List.mem_append.1 ((insAt_perm x r).mem_iff.1 hz) with hz | hz
      · exact List.rel_of_pairwise_cons h hz
      · rw [List.mem_singleton.1 hz]
        exact hy
    · rename_i hy
      have hxy : nlt x y = true := by
        cases hc : nlt x y
        · have := nlt_total hc (by simpa using hy)
          exact absurd (by rw [this]) (hid y (by simp))
        · rfl
      refine List.Pairwise.cons (fun z hz => ?_) h
      rcases List.mem_cons.1 hz with rfl | hz
      · exact hxy
      · exact nlt_trans hxy (List.rel_of_pairwise_cons h hz)
theorem eraseP_idx {C D : List Nd} (hD : D.Perm C) (hn : (C.map Nd.id).Nodup) {i : Nat} {x : Nd} (hx : D[i]? = some x) : (D.eraseIdx i).Perm (C.eraseP (fun y => y.id == x.id)) := by
  have hnD : (D.map Nd.id).Nodup := (hD.map Nd.id).nodup_iff.2 hn
  obtain ⟨hi, rfl⟩ := List.getElem?_eq_some_iff.1 hx
  have h1 : (D[i] :: D.eraseIdx i).Perm D := (erase_perm D i hi).symm
  have hmem : ∃ y ∈ C, (y.id == D[i].id) = true := ⟨D[i], hD.mem_iff.1 (List.getElem_mem hi), by simp⟩
  obtain ⟨a, l1, l2, _, ha, e1, e2⟩ := List.exists_of_eraseP (p := fun y : Nd => y.id == D[i].id) hmem.choose_spec.1 hmem.choose_spec.2
  have hai : a.id = D[i].id := by simpa using ha
  have haC : a ∈ C := by rw [e1]; simp
  have haD : a ∈ D := hD.mem_iff.2 haC
  have hae : a = D[i] := by
    obtain ⟨j, hj⟩ := List.mem_iff_getElem?.1 haD
    have q1 : (D.map Nd.id)[j]? = some D[i].id := by rw [List.getElem?_map, hj]; simp [hai]
    have q2 : (D.map Nd.id)[i]? = some D[i].id := by rw [List.getElem?_map, List.getElem?_eq_getElem hi]; rfl
    have := (List.getElem?_inj (List.getElem?_eq_some_iff.1 q1).1 hnD).1 (q1.trans q2.symm)
    subst this
    rw [List.getElem?_eq_getElem hi] at hj
    exact (Option.some.inj hj).symm
  rw [e2]
  have h2 : C.Perm (D[i] :: (l1 ++ l2)) := by
    rw [e1, hae]
    exact List.perm_middle
  exact (h1.trans (hD.trans h2)).cons_inv
theorem eraseIdx_srt {D : List Nd} (h : Srt D) (i : Nat) : Srt (D.eraseIdx i) := List.Pairwise.sublist (List.eraseIdx_sublist D i) h
end Go.Proofs.Ytnibhnnpjkemhaa
