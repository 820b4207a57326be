/- One side of a heap: Push, Pop. -/
import Derived.Test.YtdeghpmlhcaedaaDoorSd
namespace Go.Proofs.YtdeghpmlhcaedaaDoor
open Go.RowKit Go.Sort
open Go.ChangeMaps (setBlock)
set_option linter.unusedSimpArgs false
set_option linter.unusedVariables false
attribute [local go_sem ↓] wlRk ldRk stRk eqRk eqRk2
attribute [local go_sem] rkc_size ndc_size cell_blk frozen_blk one_int one_bool one_ptr one_slice one_map Value.cells enter_fn
section
variable {w w' : World} {s : Nat} {k : Bool} {v : Value} {L : List Nat} {nd : Nat → Nd} {o : Nat → Int}
theorem own_take {base g cap : Nat} (h : SlOwn pc 1 117 w base (.slice (some ⟨g, 0, none⟩) L.length cap) L) {m : Nat} (hm : m ≤ L.length) : SlOwn pc 1 117 w base (.slice (some ⟨g, 0, none⟩) m cap) (L.take m) := by
  have hl : (L.take m).length = m := by rw [List.length_take]; omega
  rcases h.2 with ⟨h, _⟩ | ⟨g', cap', cur, hv, hb, hg, hnc, hcm, hcs, htake⟩
  · cases h
  · simp only [Value.slice.injEq, Option.some.injEq, Addr.mk.injEq, and_true, true_and] at hv
    obtain ⟨rfl, rfl⟩ := hv
    refine ⟨?_, .inr ⟨g, cap, cur, by rw [hl], hb, hg, by omega, hcm, hcs, ?_⟩⟩
    · rw [cellsOf_pc]
      simp
    · rw [cellsOf_pc, hl, List.map_take, ← cellsOf_pc, ← htake, List.take_take]
      congr 1
      omega
set_option maxRecDepth 20000 in
theorem bsPc (n : Nat) (w : World) : (Instr.buildSlice 114 1 #[(0, ptrV n)]).run Tryd.prog w = .ok (.slice (some ⟨w.heap.size, 0, none⟩) 1 1) (w.alloc (.cells (pc n) 117)) := by
  obtain ⟨i0, z, hi, hz, hz1, hz2, hz3⟩ := ptrT.info
  refine run_buildSlice w _ _ 1 _ _ i0 _ Tryd.underlying114 hi hz (by rw [hz1]; omega) (by rw [hz1]; omega) ?_
  rw [hz1]
  show Instr.fill _ _ [(0, _)] = _
  rw [fill_cons (off := 0) (n := 1) rfl rfl (by simp)]
  show some (wr _ 0 (pc n).toList) = _
  rw [wr_whole (pc n) _ (by simp [pc, hz3])]
theorem ta (n : Nat) (w : World) : (Instr.typeAssert (.iface 117 (ptrV n)) 20 117 true).run Tryd.prog w = .ok (.tuple #[ptrV n, .bool true]) w := by kernel_rfl
set_option maxRecDepth 20000 in
set_option maxHeartbeats 3200000 in
theorem push_c (h : Sd w s k v L nd o) {n : Nat} {i0 : Int} (hn : w.heap[n]? = some (.cells (ndc k (nd n) i0 (o n)) 131 (0, 0))) (hnL : n ∉ L) (hl : L.length ≤ 900000) : Calls Tryd.prog 120 #[ptrV s, .iface 117 (ptrV n)] w fun e w' =>
    e = .returned (.tuple #[]) ∧ ∃ v', Sd w' s k v' (L ++ [n]) nd o ∧ Mod (fun x => x = s ∨ x = n ∨ v.ownBlock = some x) w w' ∧ (v'.ownBlock = v.ownBlock ∨ ∃ g, v'.ownBlock = some g ∧ w.heap.size ≤ g) := by
  have H := Lib.hid h
  have HN := Lib.hid hn
  have HNL := Lib.hid hnL
  obtain ⟨a, c, rfl, _, hown, _⟩ := h.own.at ptrT
  have HO := Lib.hid hown
  have ks := h.side
  have kn0 := hn
  have hns : n ≠ s := ne_of_obj hn ks (obj_ty (by decide))
  have hbs := bsPc n
  have hta := ta n
  clear h hn hnL hown
  go_enter Tryd.func120, Tryd.ntmps120
  cases k
  ·
    replace kn0 := show _ = some (Obj.cells (ndc false (nd n) i0 (o n)) _ _) from kn0
    simp only [ndc, if_true, if_false, Bool.false_eq_true] at kn0
    simp only [sdc, kn, if_true, if_false, Bool.false_eq_true] at ks
    go_upto_region 1 with fail
    have Lks := lt_size ks
    have Lkn0 := lt_size kn0
    refine wp_pass (C := fun _ _ _ => False) (κ := fun i => [0, 0, 0, 0, 1, 0, 0, 0, 1, 0, 0, 0, 0, 5].getD i 0) [0, 1, 2, 3, 4, 5, 6, 7, 8, 9, 10, 11, 12, 13] (by kernel_rfl) (by kernel_rfl) (fun _ _ d _ _ h => by cases d <;> first | exact h | exact absurd h (hP _ _ _)) ?_
    (refine TD.val0 (v := ?v1) (by simp only [zA, zB, zC]; rfl) rfl ?hw1 (fun w1 => ?hy1) ?hn1; (case hw1 => rfl); (case hy1 => (go_simp; (try with_reducible rfl))); (try simp only [Act.put, zF, zG, zH]))
    (refine TD.val0 (v := ?v2) (by simp only [zA, zB, zC]; rfl) rfl ?hw2 (fun w1 => ?hy2) ?hn2; (case hw2 => rfl); (case hy2 => (go_simp; (try with_reducible rfl))); (try simp only [Act.put, zF, zG, zH]))
    (refine TD.val0 (v := ?v3) (by simp only [zA, zB, zC]; rfl) rfl ?hw3 (fun w1 => ?hy3) ?hn3; (case hw3 => rfl); (case hy3 => (go_simp; (try with_reducible rfl))); (try simp only [Act.put, zF, zG, zH]))
    (refine TD.val0 (v := ?v4) (by simp only [zA, zB, zC]; rfl) rfl ?hw4 (fun w1 => ?hy4) ?hn4; (case hw4 => rfl); (case hy4 => (go_simp; (try with_reducible rfl))); (try simp only [Act.put, zF, zG, zH]))
    (refine TD.load (v := ?v5) (p := ?p5) (Mod.refl _ _) (by simp only [zA, zB, zC]; rfl) rfl ?hw5 rfl ?hx5 (fun wq hSq => ?hy5) ?hn5; (case hw5 => rfl); (case hx5 => (simp only [Act.eval, zD, zA, zB, zC, zE]; (try rfl))); (case hy5 => (have ksq := hSq.at ks (fun h => h); have kn0q := hSq.at kn0 (fun h => h); go_simp; (try with_reducible rfl))); (try simp only [Act.put, zF, zG, zH]))
    (refine TD.val0 (v := ?v6) (by simp only [zA, zB, zC]; rfl) rfl ?hw6 (fun w1 => ?hy6) ?hn6; (case hw6 => rfl); (case hy6 => (go_simp; (try with_reducible rfl))); (try simp only [Act.put, zF, zG, zH]))
    (refine TD.val0 (v := ?v7) (by simp only [zA, zB, zC]; rfl) rfl ?hw7 (fun w1 => ?hy7) ?hn7; (case hw7 => rfl); (case hy7 => (go_simp; (try with_reducible rfl))); (try simp only [Act.put, zF, zG, zH]))
    (refine TD.val0 (v := ?v8) (by simp only [zA, zB, zC]; rfl) rfl ?hw8 (fun w1 => ?hy8) ?hn8; (case hw8 => rfl); (case hy8 => (go_simp; (try with_reducible rfl))); (try simp only [Act.put, zF, zG, zH]))
    (refine TD.load (v := ?v9) (p := ?p9) (Mod.refl _ _) (by simp only [zA, zB, zC]; rfl) rfl ?hw9 rfl ?hx9 (fun wq hSq => ?hy9) ?hn9; (case hw9 => rfl); (case hx9 => (simp only [Act.eval, zD, zA, zB, zC, zE]; (try rfl))); (case hy9 => (have ksq := hSq.at ks (fun h => h); have kn0q := hSq.at kn0 (fun h => h); go_simp; (try with_reducible rfl))); (try simp only [Act.put, zF, zG, zH]))
    (refine TD.val0 (v := ?v10) (by simp only [zA, zB, zC]; rfl) rfl ?hw10 (fun w1 => ?hy10) ?hn10; (case hw10 => rfl); (case hy10 => (go_simp; (try with_reducible rfl))); (try simp only [Act.put, zF, zG, zH]))
    (refine TD.val0 (v := ?v11) (by simp only [zA, zB, zC]; rfl) rfl ?hw11 (fun w1 => ?hy11) ?hn11; (case hw11 => rfl); (case hy11 => (go_simp; (try with_reducible rfl))); (try simp only [Act.put, zF, zG, zH]))
    (refine TD.val0 (v := ?v12) (by simp only [zA, zB, zC]; rfl) rfl ?hw12 (fun w1 => ?hy12) ?hn12; (case hw12 => rfl); (case hy12 => (go_simp; (try with_reducible rfl))); (try simp only [Act.put, zF, zG, zH]))
    (refine TD.val0 (v := ?v13) (by simp only [zA, zB, zC]; rfl) rfl ?hw13 (fun w1 => ?hy13) ?hn13; (case hw13 => rfl); (case hy13 => (go_simp; (try with_reducible rfl))); (try simp only [Act.put, zF, zG, zH]))
    refine TD.eff (by simp only [zA, zB, zC]; rfl) rfl (fun wE hr => ?_)
    have ks := hr.mod.at0 ks
    have kn0 := hr.mod.at0 kn0
    have mE := hr.mod
    (refine eff_store (X := ?X14) (Y := ?Y14) (w' := ?w14) (by simp only [zA, zB, zC]; rfl) ?hw14 rfl ?hx14 ?hz14 ?hy14 ?hn14; (case hw14 => rfl); (case hx14 => (simp only [Act.eval, zD, zA, zB, zC, zE]; (try rfl))); (case hz14 => (simp only [Act.eval, zD, zA, zB, zC, zE]; (try rfl))); (case hy14 => (go_simp; (try with_reducible rfl))))
    (first | refine TE.nil_set kn0 (fun w1 kn0 mS => ?_) | refine TE.nil_setCell kn0 (fun w1 kn0 mS => ?_))
    (try simp only [Array.setIfInBounds, zF, zG, zH] at kn0)
    have ks := mS.at_ne ks (by omega)
    have m1 : Mod (fun x => x = n) w w1 := (mE.mono (fun _ _ h => h.elim)).then mS (fun _ _ h => h)
    replace ks := m1.at H.out.side (Ne.symm hns)
    simp only [sdc, kn, if_true, if_false, Bool.false_eq_true] at ks
    go_upto_region 2 with fail
    have Lks := lt_size ks
    have Lkn0 := lt_size kn0
    refine wp_pass0 (C := fun _ _ _ => False) (κ := fun i => [0, 0, 0, 0, 1, 0, 3, 5, 0, 0, 6].getD i 0) [0, 1, 2, 3, 4, 5, 6, 7, 8, 9, 10] (by kernel_rfl) (by kernel_rfl) (fun _ _ d _ _ h => by cases d <;> first | exact h | exact absurd h (hP _ _ _)) ?_
    (refine TD.val0 (v := ?v15) (by simp only [zA, zB, zC]; rfl) rfl ?hw15 (fun w1 => ?hy15) ?hn15; (case hw15 => rfl); (case hy15 => (go_simp; (try with_reducible rfl))); (try simp only [Act.put, zF, zG, zH]))
    (refine TD.val0 (v := ?v16) (by simp only [zA, zB, zC]; rfl) rfl ?hw16 (fun w1 => ?hy16) ?hn16; (case hw16 => rfl); (case hy16 => (go_simp; (try with_reducible rfl))); (try simp only [Act.put, zF, zG, zH]))
    (refine TD.val0 (v := ?v17) (by simp only [zA, zB, zC]; rfl) rfl ?hw17 (fun w1 => ?hy17) ?hn17; (case hw17 => rfl); (case hy17 => (go_simp; (try with_reducible rfl))); (try simp only [Act.put, zF, zG, zH]))
    (refine TD.val0 (v := ?v18) (by simp only [zA, zB, zC]; rfl) rfl ?hw18 (fun w1 => ?hy18) ?hn18; (case hw18 => rfl); (case hy18 => (go_simp; (try with_reducible rfl))); (try simp only [Act.put, zF, zG, zH]))
    (refine TD.load (v := ?v19) (p := ?p19) (Mod.refl _ _) (by simp only [zA, zB, zC]; rfl) rfl ?hw19 rfl ?hx19 (fun wq hSq => ?hy19) ?hn19; (case hw19 => rfl); (case hx19 => (simp only [Act.eval, zD, zA, zB, zC, zE]; (try rfl))); (case hy19 => (have ksq := hSq.at ks (fun h => h); have kn0q := hSq.at kn0 (fun h => h); go_simp; (try with_reducible rfl))); (try simp only [Act.put, zF, zG, zH]))
    (refine TD.val0 (v := ?v20) (by simp only [zA, zB, zC]; rfl) rfl ?hw20 (fun w1 => ?hy20) ?hn20; (case hw20 => rfl); (case hy20 => (go_simp; (try with_reducible rfl))); (try simp only [Act.put, zF, zG, zH]))
    (refine TD.bslice (by simp only [zA, zB, zC]; rfl) rfl ?hw21 rfl rfl ?hx21 hbs (fun p30 hp30 => ?hn21); (case hw21 => rfl); (case hx21 => (simp only [List.map_toArray, List.map_cons, List.map_nil, Act.eval, zD, zA, zB, zC, zE]; (try rfl))); (try simp only [Act.put, zF, zG, zH]))
    refine TD.eff (by simp only [zA, zB, zC]; rfl) rfl (fun w2 hr => ?_)
    have ks := hr.mod.at ks (fun h => h)
    have kn0 := hr.mod.at kn0 (fun h => h)
    have kp30 := hr.box p30 _ (by first | exact Bx.set_same _ _ _ | (simp only [Bx.set_same]; rfl)); dsimp only [Value.cells] at kp30; obtain ⟨gp30, kp30⟩ := kp30
    have hone : SlAt pc 1 w2 (some ⟨p30, 0, none⟩) [n] := SlAt.one kp30 n rfl rfl
    have m2 := m1.then0 hr.mod
    have hog : ∀ g, (Value.slice a L.length c).ownBlock = some g → g ≠ n ∧ g ≠ s := fun g hg => by
      obtain ⟨cur, kg⟩ := own_block H.out.own hg
      exact ⟨ne_of_obj kg HN.out (obj_ty (by decide)), ne_of_obj kg H.out.side (obj_ty (by decide))⟩
    have HOG := Lib.hid hog
    have hO2 := H.out.own.mod m2 (fun g hg => (hog g hg).1)
    clear hog
    obtain ⟨v3, w3, hap, hO3, m3, hn3⟩ := SlOwn.append ptrT (c := 1) hO2 hone (by simp; omega) (by decide) (Nat.zero_le _) 114
    replace ks := m3.at ks (fun e => (HOG.out s e).2 rfl)
    replace kn0 := m3.at kn0 (fun e => (HOG.out n e).1 rfl)
    have m4 : Mod (fun x => x = n ∨ (Value.slice a L.length c).ownBlock = some x) w w3 := (m2.mono (fun _ _ h => .inl h)).then m3 (fun _ _ h => .inr h)
    obtain ⟨va, vc, rfl, _⟩ := hO3.at ptrT
    have HO3 := Lib.hid hO3
    have HN3 := Lib.hid hn3
    have HS3 := Lib.hid m2.size
    clear hO2 hO3 hone hn3 m3
    (refine eff_append (by simp only [zA, zB, zC]; rfl) ?hw23 rfl ?hx23 ?hz23 hap ?hn23; (case hw23 => rfl); (case hx23 => (simp only [Act.eval, zD, zA, zB, zC, zE]; (try rfl))); (case hz23 => (simp only [Act.eval, zD, zA, zB, zC, zE]; (try rfl))); (try simp only [Act.put, zF, zG, zH]))
    (refine TE.val0 (v := ?v24) (by simp only [zA, zB, zC]; rfl) ?hw24 (fun w1 => ?hy24) ?hn24; (case hw24 => rfl); (case hy24 => (go_simp; (try with_reducible rfl))); (try simp only [Act.put, zF, zG, zH]))
    (refine TE.val0 (v := ?v25) (by simp only [zA, zB, zC]; rfl) ?hw25 (fun w1 => ?hy25) ?hn25; (case hw25 => rfl); (case hy25 => (go_simp; (try with_reducible rfl))); (try simp only [Act.put, zF, zG, zH]))
    refine TE.step (by simp only [zA, zB, zC]; rfl) rfl ?_
    (refine eff_store (X := ?X26) (Y := ?Y26) (w' := ?w26) (by simp only [zA, zB, zC]; rfl) ?hw26 rfl ?hx26 ?hz26 ?hy26 ?hn26; (case hw26 => rfl); (case hx26 => (simp only [Act.eval, zD, zA, zB, zC, zE]; (try rfl))); (case hz26 => (simp only [Act.eval, zD, zA, zB, zC, zE]; (try rfl))); (case hy26 => (go_simp; (try with_reducible rfl))))
    (first | refine TE.nil_set ks (fun wn ks mS => ?_) | refine TE.nil_setCell ks (fun wn ks mS => ?_))
    (try simp only [Array.setIfInBounds, zF, zG, zH] at ks)
    replace ks : wn.heap[s]? = some (.cells (sdc false (.slice va (L ++ [n]).length vc)) 116 (0, 0)) := by
      rw [List.length_append]
      exact ks
    have m5 : Mod (fun x => x = s ∨ x = n ∨ (Value.slice a L.length c).ownBlock = some x) w wn := (m4.mono (fun _ _ h => .inr h)).then mS (fun _ _ h => .inl h)
    replace kn0 := mS.at_ne kn0 hns
    have HMS := Lib.hid mS
    have hs1 := lt_size H.out.side
    clear mS
    go_wp2_with fail
    go_end0
    have hown : ∀ g, (Value.slice va (L ++ [n]).length vc).ownBlock = some g → g ≠ s := fun g hg e => by
      rcases HN3.out with h | h
      · rw [h] at hg
        exact (HOG.out g hg).2 e
      · rw [h] at hg
        cases hg
        have := HS3.out
        omega
    refine ⟨rfl, .slice va (L ++ [n]).length vc, ⟨ks, HO3.out.mod HMS.out hown, fun i b hib => ?_⟩, m5, ?_⟩
    · by_cases hi : i < L.length
      · rw [List.getElem?_append_left hi] at hib
        have h3 := H.out.nodes i b hib
        refine m5.at h3 (fun e => ?_)
        rcases e with e | e | e
        · exact ne_of_obj h3 H.out.side (obj_ty (by decide)) e
        · exact HNL.out (e ▸ List.mem_of_getElem? hib)
        · obtain ⟨cur, kg⟩ := own_block H.out.own e
          exact ne_of_obj h3 kg (obj_ty (by decide)) rfl
      · rw [List.getElem?_append_right (by omega)] at hib
        have h0 := (List.getElem?_eq_some_iff.1 hib).1
        simp only [List.length_singleton] at h0
        obtain rfl : i = L.length := by omega
        rw [Nat.sub_self] at hib
        cases hib
        exact kn0
    · rcases HN3.out with h | h
      · exact .inl h
      · exact .inr ⟨_, h, HS3.out⟩
  ·
    replace kn0 := show _ = some (Obj.cells (ndc true (nd n) i0 (o n)) _ _) from kn0
    simp only [ndc, if_true, if_false, Bool.false_eq_true] at kn0
    simp only [sdc, kn, if_true, if_false, Bool.false_eq_true] at ks
    go_upto_region 1 with fail
    have Lks := lt_size ks
    have Lkn0 := lt_size kn0
    refine wp_pass (C := fun _ _ _ => False) (κ := fun i => [0, 0, 0, 0, 1, 0, 0, 0, 1, 0, 0, 0, 0, 5].getD i 0) [0, 1, 2, 3, 4, 5, 6, 7, 8, 9, 10, 11, 12, 13] (by kernel_rfl) (by kernel_rfl) (fun _ _ d _ _ h => by cases d <;> first | exact h | exact absurd h (hP _ _ _)) ?_
    (refine TD.val0 (v := ?v27) (by simp only [zA, zB, zC]; rfl) rfl ?hw27 (fun w1 => ?hy27) ?hn27; (case hw27 => rfl); (case hy27 => (go_simp; (try with_reducible rfl))); (try simp only [Act.put, zF, zG, zH]))
    (refine TD.val0 (v := ?v28) (by simp only [zA, zB, zC]; rfl) rfl ?hw28 (fun w1 => ?hy28) ?hn28; (case hw28 => rfl); (case hy28 => (go_simp; (try with_reducible rfl))); (try simp only [Act.put, zF, zG, zH]))
    (refine TD.val0 (v := ?v29) (by simp only [zA, zB, zC]; rfl) rfl ?hw29 (fun w1 => ?hy29) ?hn29; (case hw29 => rfl); (case hy29 => (go_simp; (try with_reducible rfl))); (try simp only [Act.put, zF, zG, zH]))
    (refine TD.val0 (v := ?v30) (by simp only [zA, zB, zC]; rfl) rfl ?hw30 (fun w1 => ?hy30) ?hn30; (case hw30 => rfl); (case hy30 => (go_simp; (try with_reducible rfl))); (try simp only [Act.put, zF, zG, zH]))
    (refine TD.load (v := ?v31) (p := ?p31) (Mod.refl _ _) (by simp only [zA, zB, zC]; rfl) rfl ?hw31 rfl ?hx31 (fun wq hSq => ?hy31) ?hn31; (case hw31 => rfl); (case hx31 => (simp only [Act.eval, zD, zA, zB, zC, zE]; (try rfl))); (case hy31 => (have ksq := hSq.at ks (fun h => h); have kn0q := hSq.at kn0 (fun h => h); go_simp; (try with_reducible rfl))); (try simp only [Act.put, zF, zG, zH]))
    (refine TD.val0 (v := ?v32) (by simp only [zA, zB, zC]; rfl) rfl ?hw32 (fun w1 => ?hy32) ?hn32; (case hw32 => rfl); (case hy32 => (go_simp; (try with_reducible rfl))); (try simp only [Act.put, zF, zG, zH]))
    (refine TD.val0 (v := ?v33) (by simp only [zA, zB, zC]; rfl) rfl ?hw33 (fun w1 => ?hy33) ?hn33; (case hw33 => rfl); (case hy33 => (go_simp; (try with_reducible rfl))); (try simp only [Act.put, zF, zG, zH]))
    (refine TD.val0 (v := ?v34) (by simp only [zA, zB, zC]; rfl) rfl ?hw34 (fun w1 => ?hy34) ?hn34; (case hw34 => rfl); (case hy34 => (go_simp; (try with_reducible rfl))); (try simp only [Act.put, zF, zG, zH]))
    (refine TD.load (v := ?v35) (p := ?p35) (Mod.refl _ _) (by simp only [zA, zB, zC]; rfl) rfl ?hw35 rfl ?hx35 (fun wq hSq => ?hy35) ?hn35; (case hw35 => rfl); (case hx35 => (simp only [Act.eval, zD, zA, zB, zC, zE]; (try rfl))); (case hy35 => (have ksq := hSq.at ks (fun h => h); have kn0q := hSq.at kn0 (fun h => h); go_simp; (try with_reducible rfl))); (try simp only [Act.put, zF, zG, zH]))
    (refine TD.val0 (v := ?v36) (by simp only [zA, zB, zC]; rfl) rfl ?hw36 (fun w1 => ?hy36) ?hn36; (case hw36 => rfl); (case hy36 => (go_simp; (try with_reducible rfl))); (try simp only [Act.put, zF, zG, zH]))
    (refine TD.val0 (v := ?v37) (by simp only [zA, zB, zC]; rfl) rfl ?hw37 (fun w1 => ?hy37) ?hn37; (case hw37 => rfl); (case hy37 => (go_simp; (try with_reducible rfl))); (try simp only [Act.put, zF, zG, zH]))
    (refine TD.val0 (v := ?v38) (by simp only [zA, zB, zC]; rfl) rfl ?hw38 (fun w1 => ?hy38) ?hn38; (case hw38 => rfl); (case hy38 => (go_simp; (try with_reducible rfl))); (try simp only [Act.put, zF, zG, zH]))
    (refine TD.val0 (v := ?v39) (by simp only [zA, zB, zC]; rfl) rfl ?hw39 (fun w1 => ?hy39) ?hn39; (case hw39 => rfl); (case hy39 => (go_simp; (try with_reducible rfl))); (try simp only [Act.put, zF, zG, zH]))
    refine TD.eff (by simp only [zA, zB, zC]; rfl) rfl (fun wE hr => ?_)
    have ks := hr.mod.at0 ks
    have kn0 := hr.mod.at0 kn0
    have mE := hr.mod
    (refine eff_store (X := ?X40) (Y := ?Y40) (w' := ?w40) (by simp only [zA, zB, zC]; rfl) ?hw40 rfl ?hx40 ?hz40 ?hy40 ?hn40; (case hw40 => rfl); (case hx40 => (simp only [Act.eval, zD, zA, zB, zC, zE]; (try rfl))); (case hz40 => (simp only [Act.eval, zD, zA, zB, zC, zE]; (try rfl))); (case hy40 => (go_simp; (try with_reducible rfl))))
    (first | refine TE.nil_set kn0 (fun w1 kn0 mS => ?_) | refine TE.nil_setCell kn0 (fun w1 kn0 mS => ?_))
    (try simp only [Array.setIfInBounds, zF, zG, zH] at kn0)
    have ks := mS.at_ne ks (by omega)
    have m1 : Mod (fun x => x = n) w w1 := (mE.mono (fun _ _ h => h.elim)).then mS (fun _ _ h => h)
    replace ks := m1.at H.out.side (Ne.symm hns)
    simp only [sdc, kn, if_true, if_false, Bool.false_eq_true] at ks
    go_upto_region 2 with fail
    have Lks := lt_size ks
    have Lkn0 := lt_size kn0
    refine wp_pass0 (C := fun _ _ _ => False) (κ := fun i => [0, 0, 0, 0, 1, 0, 3, 5, 0, 0, 6].getD i 0) [0, 1, 2, 3, 4, 5, 6, 7, 8, 9, 10] (by kernel_rfl) (by kernel_rfl) (fun _ _ d _ _ h => by cases d <;> first | exact h | exact absurd h (hP _ _ _)) ?_
    (refine TD.val0 (v := ?v41) (by simp only [zA, zB, zC]; rfl) rfl ?hw41 (fun w1 => ?hy41) ?hn41; (case hw41 => rfl); (case hy41 => (go_simp; (try with_reducible rfl))); (try simp only [Act.put, zF, zG, zH]))
    (refine TD.val0 (v := ?v42) (by simp only [zA, zB, zC]; rfl) rfl ?hw42 (fun w1 => ?hy42) ?hn42; (case hw42 => rfl); (case hy42 => (go_simp; (try with_reducible rfl))); (try simp only [Act.put, zF, zG, zH]))
    (refine TD.val0 (v := ?v43) (by simp only [zA, zB, zC]; rfl) rfl ?hw43 (fun w1 => ?hy43) ?hn43; (case hw43 => rfl); (case hy43 => (go_simp; (try with_reducible rfl))); (try simp only [Act.put, zF, zG, zH]))
    (refine TD.val0 (v := ?v44) (by simp only [zA, zB, zC]; rfl) rfl ?hw44 (fun w1 => ?hy44) ?hn44; (case hw44 => rfl); (case hy44 => (go_simp; (try with_reducible rfl))); (try simp only [Act.put, zF, zG, zH]))
    (refine TD.load (v := ?v45) (p := ?p45) (Mod.refl _ _) (by simp only [zA, zB, zC]; rfl) rfl ?hw45 rfl ?hx45 (fun wq hSq => ?hy45) ?hn45; (case hw45 => rfl); (case hx45 => (simp only [Act.eval, zD, zA, zB, zC, zE]; (try rfl))); (case hy45 => (have ksq := hSq.at ks (fun h => h); have kn0q := hSq.at kn0 (fun h => h); go_simp; (try with_reducible rfl))); (try simp only [Act.put, zF, zG, zH]))
    (refine TD.val0 (v := ?v46) (by simp only [zA, zB, zC]; rfl) rfl ?hw46 (fun w1 => ?hy46) ?hn46; (case hw46 => rfl); (case hy46 => (go_simp; (try with_reducible rfl))); (try simp only [Act.put, zF, zG, zH]))
    (refine TD.bslice (by simp only [zA, zB, zC]; rfl) rfl ?hw47 rfl rfl ?hx47 hbs (fun p30 hp30 => ?hn47); (case hw47 => rfl); (case hx47 => (simp only [List.map_toArray, List.map_cons, List.map_nil, Act.eval, zD, zA, zB, zC, zE]; (try rfl))); (try simp only [Act.put, zF, zG, zH]))
    refine TD.eff (by simp only [zA, zB, zC]; rfl) rfl (fun w2 hr => ?_)
    have ks := hr.mod.at ks (fun h => h)
    have kn0 := hr.mod.at kn0 (fun h => h)
    have kp30 := hr.box p30 _ (by first | exact Bx.set_same _ _ _ | (simp only [Bx.set_same]; rfl)); dsimp only [Value.cells] at kp30; obtain ⟨gp30, kp30⟩ := kp30
    have hone : SlAt pc 1 w2 (some ⟨p30, 0, none⟩) [n] := SlAt.one kp30 n rfl rfl
    have m2 := m1.then0 hr.mod
    have hog : ∀ g, (Value.slice a L.length c).ownBlock = some g → g ≠ n ∧ g ≠ s := fun g hg => by
      obtain ⟨cur, kg⟩ := own_block H.out.own hg
      exact ⟨ne_of_obj kg HN.out (obj_ty (by decide)), ne_of_obj kg H.out.side (obj_ty (by decide))⟩
    have HOG := Lib.hid hog
    have hO2 := H.out.own.mod m2 (fun g hg => (hog g hg).1)
    clear hog
    obtain ⟨v3, w3, hap, hO3, m3, hn3⟩ := SlOwn.append ptrT (c := 1) hO2 hone (by simp; omega) (by decide) (Nat.zero_le _) 114
    replace ks := m3.at ks (fun e => (HOG.out s e).2 rfl)
    replace kn0 := m3.at kn0 (fun e => (HOG.out n e).1 rfl)
    have m4 : Mod (fun x => x = n ∨ (Value.slice a L.length c).ownBlock = some x) w w3 := (m2.mono (fun _ _ h => .inl h)).then m3 (fun _ _ h => .inr h)
    obtain ⟨va, vc, rfl, _⟩ := hO3.at ptrT
    have HO3 := Lib.hid hO3
    have HN3 := Lib.hid hn3
    have HS3 := Lib.hid m2.size
    clear hO2 hO3 hone hn3 m3
    (refine eff_append (by simp only [zA, zB, zC]; rfl) ?hw49 rfl ?hx49 ?hz49 hap ?hn49; (case hw49 => rfl); (case hx49 => (simp only [Act.eval, zD, zA, zB, zC, zE]; (try rfl))); (case hz49 => (simp only [Act.eval, zD, zA, zB, zC, zE]; (try rfl))); (try simp only [Act.put, zF, zG, zH]))
    (refine TE.val0 (v := ?v50) (by simp only [zA, zB, zC]; rfl) ?hw50 (fun w1 => ?hy50) ?hn50; (case hw50 => rfl); (case hy50 => (go_simp; (try with_reducible rfl))); (try simp only [Act.put, zF, zG, zH]))
    (refine TE.val0 (v := ?v51) (by simp only [zA, zB, zC]; rfl) ?hw51 (fun w1 => ?hy51) ?hn51; (case hw51 => rfl); (case hy51 => (go_simp; (try with_reducible rfl))); (try simp only [Act.put, zF, zG, zH]))
    refine TE.step (by simp only [zA, zB, zC]; rfl) rfl ?_
    (refine eff_store (X := ?X52) (Y := ?Y52) (w' := ?w52) (by simp only [zA, zB, zC]; rfl) ?hw52 rfl ?hx52 ?hz52 ?hy52 ?hn52; (case hw52 => rfl); (case hx52 => (simp only [Act.eval, zD, zA, zB, zC, zE]; (try rfl))); (case hz52 => (simp only [Act.eval, zD, zA, zB, zC, zE]; (try rfl))); (case hy52 => (go_simp; (try with_reducible rfl))))
    (first | refine TE.nil_set ks (fun wn ks mS => ?_) | refine TE.nil_setCell ks (fun wn ks mS => ?_))
    (try simp only [Array.setIfInBounds, zF, zG, zH] at ks)
    replace ks : wn.heap[s]? = some (.cells (sdc true (.slice va (L ++ [n]).length vc)) 116 (0, 0)) := by
      rw [List.length_append]
      exact ks
    have m5 : Mod (fun x => x = s ∨ x = n ∨ (Value.slice a L.length c).ownBlock = some x) w wn := (m4.mono (fun _ _ h => .inr h)).then mS (fun _ _ h => .inl h)
    replace kn0 := mS.at_ne kn0 hns
    have HMS := Lib.hid mS
    have hs1 := lt_size H.out.side
    clear mS
    go_wp2_with fail
    go_end0
    have hown : ∀ g, (Value.slice va (L ++ [n]).length vc).ownBlock = some g → g ≠ s := fun g hg e => by
      rcases HN3.out with h | h
      · rw [h] at hg
        exact (HOG.out g hg).2 e
      · rw [h] at hg
        cases hg
        have := HS3.out
        omega
    refine ⟨rfl, .slice va (L ++ [n]).length vc, ⟨ks, HO3.out.mod HMS.out hown, fun i b hib => ?_⟩, m5, ?_⟩
    · by_cases hi : i < L.length
      · rw [List.getElem?_append_left hi] at hib
        have h3 := H.out.nodes i b hib
        refine m5.at h3 (fun e => ?_)
        rcases e with e | e | e
        · exact ne_of_obj h3 H.out.side (obj_ty (by decide)) e
        · exact HNL.out (e ▸ List.mem_of_getElem? hib)
        · obtain ⟨cur, kg⟩ := own_block H.out.own e
          exact ne_of_obj h3 kg (obj_ty (by decide)) rfl
      · rw [List.getElem?_append_right (by omega)] at hib
        have h0 := (List.getElem?_eq_some_iff.1 hib).1
        simp only [List.length_singleton] at h0
        obtain rfl : i = L.length := by omega
        rw [Nat.sub_self] at hib
        cases hib
        exact kn0
    · rcases HN3.out with h | h
      · exact .inl h
      · exact .inr ⟨_, h, HS3.out⟩
set_option maxRecDepth 20000 in
set_option maxHeartbeats 3200000 in
theorem pop_c {n : Nat} (h : Sd w s k v (L ++ [n]) nd o) (hl : L.length ≤ 900000) : Calls Tryd.prog 119 #[ptrV s] w fun e w' =>
    e = .returned (.iface 117 (ptrV n)) ∧ ∃ v', Sd w' s k v' L nd o ∧ Mod (fun x => x = s) w w' ∧ v'.ownBlock = v.ownBlock := by
  have H := Lib.hid h
  obtain ⟨g, cap, cur, rfl, _, kg, hcap, hcs, hcur, _⟩ := own_row h.own (by simp)
  have ks := h.side
  have hsg : s ≠ g := ne_of_obj ks kg (obj_ty (by decide))
  have cn := hcur L.length n (by simp)
  have hlen : (L ++ [n]).length = L.length + 1 := by simp
  have ht := own_take h.own (m := L.length) (by omega)
  rw [List.take_left] at ht
  have HT := Lib.hid ht
  have hsl : ∀ w, (Instr.sliceAt 114 (.slice (some ⟨g, 0, none⟩) (L.length + 1) cap) none (some (.int .i64 (L.length : Int))) none).run Tryd.prog w = .ok (.slice (some ⟨g, 0, none⟩) L.length cap) w := sl_take ptrT (by omega)
  have hw1 : IntKind.i64.wrap (((L.length + 1 : Nat) : Int) - 1) = (L.length : Int) := by
    rw [IntKind.wrap_i64]
    omega
  have hw2 : IntKind.i64.wrap (L.length : Int) = (L.length : Int) := by
    rw [IntKind.wrap_i64]
    omega
  have hlt1 : (L.length : Int) < (L.length : Int) + 1 := by omega
  rw [hlen] at ks
  clear h hcur ht hcap hcs
  go_enter Tryd.func119, Tryd.ntmps119
  go_upto_region 1 with fail
  have Lks := lt_size ks
  have Lkg := lt_size kg
  refine wp_pass0 (C := fun _ _ _ => False) (κ := fun i => [0, 0, 0, 1, 0, 0, 0].getD i 0) [0, 1, 2, 3, 4, 5, 6] (by kernel_rfl) (by kernel_rfl) (fun _ _ d _ _ h => by cases d <;> first | exact h | exact absurd h (hP _ _ _)) ?_
  (refine TD.val0 (v := ?v53) (by simp only [zA, zB, zC]; rfl) rfl ?hw53 (fun w1 => ?hy53) ?hn53; (case hw53 => rfl); (case hy53 => (go_simp; (try with_reducible rfl))); (try simp only [Act.put, zF, zG, zH]))
  (refine TD.val0 (v := ?v54) (by simp only [zA, zB, zC]; rfl) rfl ?hw54 (fun w1 => ?hy54) ?hn54; (case hw54 => rfl); (case hy54 => (go_simp; (try with_reducible rfl))); (try simp only [Act.put, zF, zG, zH]))
  (refine TD.val0 (v := ?v55) (by simp only [zA, zB, zC]; rfl) rfl ?hw55 (fun w1 => ?hy55) ?hn55; (case hw55 => rfl); (case hy55 => (go_simp; (try with_reducible rfl))); (try simp only [Act.put, zF, zG, zH]))
  (refine TD.load (v := ?v56) (p := ?p56) (Mod.refl _ _) (by simp only [zA, zB, zC]; rfl) rfl ?hw56 rfl ?hx56 (fun wq hSq => ?hy56) ?hn56; (case hw56 => rfl); (case hx56 => (simp only [Act.eval, zD, zA, zB, zC, zE]; (try rfl))); (case hy56 => (have ksq := hSq.at ks (fun h => h); have kgq := hSq.at kg (fun h => h); go_simp; (try with_reducible rfl))); (try simp only [Act.put, zF, zG, zH]))
  (refine TD.val0 (v := ?v57) (by simp only [zA, zB, zC]; rfl) rfl ?hw57 (fun w1 => ?hy57) ?hn57; (case hw57 => rfl); (case hy57 => (go_simp; (try with_reducible rfl))); (try simp only [Act.put, zF, zG, zH]))
  (refine TD.val0 (v := ?v58) (by simp only [zA, zB, zC]; rfl) rfl ?hw58 (fun w1 => ?hy58) ?hn58; (case hw58 => rfl); (case hy58 => (go_simp; (try with_reducible rfl))); (try simp only [Act.put, zF, zG, zH]))
  (refine TD.val0 (v := ?v59) (by simp only [zA, zB, zC]; rfl) rfl ?hw59 (fun w1 => ?hy59) ?hn59; (case hw59 => rfl); (case hy59 => (go_simp; (try with_reducible rfl))); (try simp only [Act.put, zF, zG, zH]))
  refine TD.nil (fun w1 hr => ?_)
  have ks := hr.mod.at ks (fun h => h)
  have kg := hr.mod.at kg (fun h => h)
  have m1 := hr.mod
  clear hr
  go_upto_region 2 with fail
  have Lks := lt_size ks
  have Lkg := lt_size kg
  refine wp_pass0 (C := fun _ _ _ => False) (κ := fun i => [0, 0, 0, 1, 0, 0, 1, 0].getD i 0) [0, 1, 2, 3, 4, 5, 6, 7] (by kernel_rfl) (by kernel_rfl) (fun _ _ d _ _ h => by cases d <;> first | exact h | exact absurd h (hP _ _ _)) ?_
  (refine TD.val0 (v := ?v60) (by simp only [zA, zB, zC]; rfl) rfl ?hw60 (fun w1 => ?hy60) ?hn60; (case hw60 => rfl); (case hy60 => (go_simp; (try with_reducible rfl))); (try simp only [Act.put, zF, zG, zH]))
  (refine TD.val0 (v := ?v61) (by simp only [zA, zB, zC]; rfl) rfl ?hw61 (fun w1 => ?hy61) ?hn61; (case hw61 => rfl); (case hy61 => (go_simp; (try with_reducible rfl))); (try simp only [Act.put, zF, zG, zH]))
  (refine TD.val0 (v := ?v62) (by simp only [zA, zB, zC]; rfl) rfl ?hw62 (fun w1 => ?hy62) ?hn62; (case hw62 => rfl); (case hy62 => (go_simp; (try with_reducible rfl))); (try simp only [Act.put, zF, zG, zH]))
  (refine TD.load (v := ?v63) (p := ?p63) (Mod.refl _ _) (by simp only [zA, zB, zC]; rfl) rfl ?hw63 rfl ?hx63 (fun wq hSq => ?hy63) ?hn63; (case hw63 => rfl); (case hx63 => (simp only [Act.eval, zD, zA, zB, zC, zE]; (try rfl))); (case hy63 => (have ksq := hSq.at ks (fun h => h); have kgq := hSq.at kg (fun h => h); go_simp; (try with_reducible rfl))); (try simp only [Act.put, zF, zG, zH]))
  (refine TD.val0 (v := ?v64) (by simp only [zA, zB, zC]; rfl) rfl ?hw64 (fun w1 => ?hy64) ?hn64; (case hw64 => rfl); (case hy64 => (go_simp; (try with_reducible rfl))); (try simp only [Act.put, zF, zG, zH]))
  (refine TD.val0 (v := ?v65) (by simp only [zA, zB, zC]; rfl) rfl ?hw65 (fun w1 => ?hy65) ?hn65; (case hw65 => rfl); (case hy65 => (go_simp; (try with_reducible rfl))); (try simp only [Act.put, zF, zG, zH]))
  (refine TD.load (v := ?v66) (p := ?p66) (Mod.refl _ _) (by simp only [zA, zB, zC]; rfl) rfl ?hw66 rfl ?hx66 (fun wq hSq => ?hy66) ?hn66; (case hw66 => rfl); (case hx66 => (simp only [Act.eval, zD, zA, zB, zC, zE]; (try rfl))); (case hy66 => (have ksq := hSq.at ks (fun h => h); have kgq := hSq.at kg (fun h => h); go_simp; (try with_reducible rfl))); (try simp only [Act.put, zF, zG, zH]))
  (refine TD.val0 (v := ?v67) (by simp only [zA, zB, zC]; rfl) rfl ?hw67 (fun w1 => ?hy67) ?hn67; (case hw67 => rfl); (case hy67 => (go_simp; (try with_reducible rfl))); (try simp only [Act.put, zF, zG, zH]))
  refine TD.nil (fun w2 hr => ?_)
  have ks := hr.mod.at ks (fun h => h)
  have kg := hr.mod.at kg (fun h => h)
  have m2 := m1.then0 hr.mod
  clear hr
  go_upto_region 3 with fail
  have Lks := lt_size ks
  have Lkg := lt_size kg
  refine wp_pass0 (C := fun _ _ _ => False) (κ := fun i => [0, 0, 0, 0, 1, 0, 0, 0, 0, 5].getD i 0) [0, 1, 2, 3, 4, 5, 6, 7, 8, 9] (by kernel_rfl) (by kernel_rfl) (fun _ _ d _ _ h => by cases d <;> first | exact h | exact absurd h (hP _ _ _)) ?_
  (refine TD.val0 (v := ?v68) (by simp only [zA, zB, zC]; rfl) rfl ?hw68 (fun w1 => ?hy68) ?hn68; (case hw68 => rfl); (case hy68 => (go_simp; (try with_reducible rfl))); (try simp only [Act.put, zF, zG, zH]))
  (refine TD.val0 (v := ?v69) (by simp only [zA, zB, zC]; rfl) rfl ?hw69 (fun w1 => ?hy69) ?hn69; (case hw69 => rfl); (case hy69 => (go_simp; (try with_reducible rfl))); (try simp only [Act.put, zF, zG, zH]))
  (refine TD.val0 (v := ?v70) (by simp only [zA, zB, zC]; rfl) rfl ?hw70 (fun w1 => ?hy70) ?hn70; (case hw70 => rfl); (case hy70 => (go_simp; (try with_reducible rfl))); (try simp only [Act.put, zF, zG, zH]))
  (refine TD.val0 (v := ?v71) (by simp only [zA, zB, zC]; rfl) rfl ?hw71 (fun w1 => ?hy71) ?hn71; (case hw71 => rfl); (case hy71 => (go_simp; (try with_reducible rfl))); (try simp only [Act.put, zF, zG, zH]))
  (refine TD.load (v := ?v72) (p := ?p72) (Mod.refl _ _) (by simp only [zA, zB, zC]; rfl) rfl ?hw72 rfl ?hx72 (fun wq hSq => ?hy72) ?hn72; (case hw72 => rfl); (case hx72 => (simp only [Act.eval, zD, zA, zB, zC, zE]; (try rfl))); (case hy72 => (have ksq := hSq.at ks (fun h => h); have kgq := hSq.at kg (fun h => h); go_simp; (try with_reducible rfl))); (try simp only [Act.put, zF, zG, zH]))
  (refine TD.val0 (v := ?v73) (by simp only [zA, zB, zC]; rfl) rfl ?hw73 (fun w1 => ?hy73) ?hn73; (case hw73 => rfl); (case hy73 => (go_simp; (try with_reducible rfl))); (try simp only [Act.put, zF, zG, zH]))
  (refine TD.slice (by simp only [zA, zB, zC]; rfl) rfl ?hw74 rfl ?hs74 ?hl74 ?hh74 ?hm74 hsl ?hn74; (case hw74 => rfl); (case hs74 => (simp only [Act.eval, zD, zA, zB, zC, zE]; (try rfl))); (case hl74 => first | rfl | (simp only [Option.map_some, Act.eval, zD, zA, zB, zC, zE]; (try rfl))); (case hh74 => first | rfl | (simp only [Option.map_some, Act.eval, zD, zA, zB, zC, zE]; (try rfl))); (case hm74 => rfl); (try simp only [Act.put, zF, zG, zH]))
  (refine TD.val0 (v := ?v75) (by simp only [zA, zB, zC]; rfl) rfl ?hw75 (fun w1 => ?hy75) ?hn75; (case hw75 => rfl); (case hy75 => (go_simp; (try with_reducible rfl))); (try simp only [Act.put, zF, zG, zH]))
  (refine TD.val0 (v := ?v76) (by simp only [zA, zB, zC]; rfl) rfl ?hw76 (fun w1 => ?hy76) ?hn76; (case hw76 => rfl); (case hy76 => (go_simp; (try with_reducible rfl))); (try simp only [Act.put, zF, zG, zH]))
  refine TD.eff (by simp only [zA, zB, zC]; rfl) rfl (fun wE hr => ?_)
  have ks := hr.mod.at0 ks
  have kg := hr.mod.at0 kg
  have mE := hr.mod
  (refine eff_store (X := ?X77) (Y := ?Y77) (w' := ?w77) (by simp only [zA, zB, zC]; rfl) ?hw77 rfl ?hx77 ?hz77 ?hy77 ?hn77; (case hw77 => rfl); (case hx77 => (simp only [Act.eval, zD, zA, zB, zC, zE]; (try rfl))); (case hz77 => (simp only [Act.eval, zD, zA, zB, zC, zE]; (try rfl))); (case hy77 => (go_simp; (try with_reducible rfl))))
  (first | refine TE.nil_set ks (fun w3 ks mS => ?_) | refine TE.nil_setCell ks (fun w3 ks mS => ?_))
  (try simp only [Array.setIfInBounds, zF, zG, zH] at ks)
  have kg := mS.at_ne kg (by omega)
  have m3 : Mod (fun x => x = s) w w3 := (m2.then0 mE |>.mono (fun _ _ h => h.elim)).then mS (fun _ _ h => h)
  clear mE mS
  go_wp2_with fail
  go_ret
  refine ⟨rfl, .slice (some ⟨g, 0, none⟩) L.length cap, ⟨ks, HT.out.mod m3 (fun g' hg e => ?_), fun i b hib => ?_⟩, m3, rfl⟩
  · cases hg
    exact hsg e.symm
  · have h3 := H.out.nodes i b (by rw [List.getElem?_append_left (List.getElem?_eq_some_iff.1 hib).1]; exact hib)
    exact m3.at h3 (fun e => ne_of_obj h3 H.out.side (obj_ty (by decide)) e)
end
end Go.Proofs.YtdeghpmlhcaedaaDoor
