/- The heap of both sides: Drop of one that is there. -/
import Derived.Test.YtdeghpmlhcaedaaDoorRd
namespace Go.Proofs.YtdeghpmlhcaedaaDoor
open Go.RowKit Go.Sort
open Go.ChangeMaps (setBlock)
set_option linter.unusedSimpArgs false
set_option linter.unusedVariables false
attribute [local go_sem ↓] wlRk ldRk stRk eqRk eqRk2 wlSides ldSides stSides
attribute [local go_sem] rkc_size ndc_size cell_blk frozen_blk one_int one_bool one_ptr one_slice one_map Value.cells enter_fn eqMap neMap ix0 ix1 rkc_all1 ndc_rank ndc_id
/-- Ids stand once. -/
theorem HAt.ids {h : Nat} {C : List Nd} {T : Nat → Prop} {w : World} (hA : HAt h C T w) : (C.map Nd.id).Nodup := by
  obtain ⟨s0, s1, mb, v0, v1, L0, L1, nd, m, H, rfl, hO⟩ := hA
  obtain ⟨es, c, kb, M⟩ := H.km
  have e : List.map (Nd.id ∘ fun p => nd p.snd) m = m.map Prod.fst := List.map_congr_left (fun p hp => H.ids p.1 p.2 hp)
  rw [List.map_map, e]
  exact M.nodup
set_option maxRecDepth 20000 in
set_option maxHeartbeats 6400000 in
theorem dropH_c {h : Nat} {C : List Nd} {T : Nat → Prop} {w : World} (hA : HAt h C T w) (hT : ∀ i, T i → i < w.heap.size) (id : Int64) (hC : C.length ≤ 700000) (hid : ∃ x ∈ C, x.id = id) :
    Calls Tryd.prog 31 #[ptrV h, .int .i64 id.toInt] w fun e w' => (∃ x ∈ C, x.id = id ∧ e = .returned (.tuple #[.agg (rkc x.r), .int .i64 0])) ∧ HAt h (C.eraseP (fun x => x.id == id)) T w' ∧ Mod T w w' := by
  obtain ⟨s0, s1, mb, v0, v1, L0, L1, nd, m, H, rfl, hO⟩ := hA
  obtain ⟨b, hb, hbL, hbid⟩ := H.at hid
  obtain ⟨es, c, kb, M⟩ := H.km
  have kh := H.kh
  have HH := Lib.hid H
  have HO := Lib.hid hO
  have HT := Lib.hid hT
  have HB := Lib.hid (And.intro hb (And.intro hbL hbid))
  have HL0 : Hid (L0.length = m.length ∧ L1.length = m.length ∧ m.length ≤ 700000 ∧ 0 < L0.length) := Lib.hid ⟨by rw [H.p0.length_eq, List.length_map], by rw [H.p1.length_eq, List.length_map], by simpa using hC, List.length_pos_of_mem hbL⟩
  have hlk : ∀ wq b', wq.heap[mb]? = some (.map es c) → (Instr.lookup 108 (.map (some mb)) (.int .i64 id.toInt) b').run Tryd.prog wq = _ := fun wq b' hq => M.lookup idT Tryd.underlying108 (z := .pointer none) (fun w => by kernel_rfl) wq hq id b'
  simp only [hb, Option.map_some, zE, Option.isSome_some] at hlk
  have HLK := Lib.hid hlk
  clear H hO hT hC hid hlk hb hbL hbid
  go_enter Tryd.func31, Tryd.ntmps31
  go_upto_region 0 with fail
  have Lkh := lt_size kh
  have Lkb := lt_size kb
  refine wp_pass0 (C := fun _ _ _ => False) (κ := fun i => [3, 0].getD i 0) [0, 1] (by kernel_rfl) (by kernel_rfl) (fun _ _ d _ _ h => by cases d <;> first | exact h | exact absurd h (hP _ _ _)) ?_
  (refine TD.allocB (by simp only [zA, zB, zC]; rfl) rfl ?hw1 rfl rfl alRk (fun p4 hp4 => ?hn1); (case hw1 => rfl); (try simp only [Act.put, zF, zG, zH]))
  (refine TD.val0 (v := ?v2) (by simp only [zA, zB, zC]; rfl) rfl ?hw2 (fun w1 => ?hy2) ?hn2; (case hw2 => rfl); (case hy2 => (go_simp; (try with_reducible rfl))); (try simp only [Act.put, zF, zG, zH]))
  refine TD.nil (fun w1 hr => ?_)
  have kh := hr.mod.at kh (fun h => h)
  have kb := hr.mod.at kb (fun h => h)
  have kp4 := hr.box p4 _ (by first | exact Bx.set_same _ _ _ | (simp only [Bx.set_same]; rfl)); dsimp only [Value.cells] at kp4; obtain ⟨gp4, kp4⟩ := kp4
  have m1 := hr.mod
  clear hr
  go_wp2_with fail
  go_at_call 55
  refine (there_c kh).mono ?_
  rintro e w2 ⟨rfl, rfl⟩
  go_upto_region 3 with fail
  have hl : ∀ wq, Mod (fun _ => False) w2 wq → (Instr.lookup 108 (.map (some mb)) (.int .i64 id.toInt) true).run Tryd.prog wq = .ok (.tuple #[ptrV b, .bool true]) wq := fun wq hq => HLK.out wq true (hq.at0 kb)
  have Lkh := lt_size kh
  have Lkb := lt_size kb
  have Lkp4 := lt_size kp4
  refine wp_pass0 (C := fun _ _ _ => False) (κ := fun i => [0, 0, 0, 1, 0, 1, 0, 0, 0, 0, 0].getD i 0) [0, 1, 2, 3, 4, 5, 6, 7, 8, 9, 10] (by kernel_rfl) (by kernel_rfl) (fun _ _ d _ _ h => by cases d <;> first | exact h | exact absurd h (hP _ _ _)) ?_
  (refine TD.val0 (v := ?v3) (by simp only [zA, zB, zC]; rfl) rfl ?hw3 (fun w1 => ?hy3) ?hn3; (case hw3 => rfl); (case hy3 => (go_simp; (try with_reducible rfl))); (try simp only [Act.put, zF, zG, zH]))
  (refine TD.val0 (v := ?v4) (by simp only [zA, zB, zC]; rfl) rfl ?hw4 (fun w1 => ?hy4) ?hn4; (case hw4 => rfl); (case hy4 => (go_simp; (try with_reducible rfl))); (try simp only [Act.put, zF, zG, zH]))
  (refine TD.val0 (v := ?v5) (by simp only [zA, zB, zC]; rfl) rfl ?hw5 (fun w1 => ?hy5) ?hn5; (case hw5 => rfl); (case hy5 => (go_simp; (try with_reducible rfl))); (try simp only [Act.put, zF, zG, zH]))
  (refine TD.load (v := ?v6) (p := ?p6) (Mod.refl _ _) (by simp only [zA, zB, zC]; rfl) rfl ?hw6 rfl ?hx6 (fun wq hSq => ?hy6) ?hn6; (case hw6 => rfl); (case hx6 => (simp only [Act.eval, zD, zA, zB, zC, zE]; (try rfl))); (case hy6 => (have khq := hSq.at kh (fun h => h); have kbq := hSq.at kb (fun h => h); have kp4q := hSq.at kp4 (fun h => h); go_simp; (try with_reducible rfl))); (try simp only [Act.put, zF, zG, zH]))
  (refine TD.val0 (v := ?v7) (by simp only [zA, zB, zC]; rfl) rfl ?hw7 (fun w1 => ?hy7) ?hn7; (case hw7 => rfl); (case hy7 => (go_simp; (try with_reducible rfl))); (try simp only [Act.put, zF, zG, zH]))
  (refine TD.lookup (v := ?v8) (p := ?p8) (q := ?q8) (Mod.refl _ _) (by simp only [zA, zB, zC]; rfl) rfl ?hw8 rfl ?hx8 ?hz8 (fun wq hSq => ?hy8) ?hn8; (case hw8 => rfl); (case hx8 => (simp only [Act.eval, zD, zA, zB, zC, zE]; (try rfl))); (case hz8 => (simp only [Act.eval, zD, zA, zB, zC, zE]; (try rfl))); (case hy8 => (rw [hl wq hSq]; (try with_reducible rfl))); (try simp only [Act.put, zF, zG, zH]))
  (refine TD.val0 (v := ?v9) (by simp only [zA, zB, zC]; rfl) rfl ?hw9 (fun w1 => ?hy9) ?hn9; (case hw9 => rfl); (case hy9 => (go_simp; (try with_reducible rfl))); (try simp only [Act.put, zF, zG, zH]))
  (refine TD.val0 (v := ?v10) (by simp only [zA, zB, zC]; rfl) rfl ?hw10 (fun w1 => ?hy10) ?hn10; (case hw10 => rfl); (case hy10 => (go_simp; (try with_reducible rfl))); (try simp only [Act.put, zF, zG, zH]))
  (refine TD.val0 (v := ?v11) (by simp only [zA, zB, zC]; rfl) rfl ?hw11 (fun w1 => ?hy11) ?hn11; (case hw11 => rfl); (case hy11 => (go_simp; (try with_reducible rfl))); (try simp only [Act.put, zF, zG, zH]))
  (refine TD.val0 (v := ?v12) (by simp only [zA, zB, zC]; rfl) rfl ?hw12 (fun w1 => ?hy12) ?hn12; (case hw12 => rfl); (case hy12 => (go_simp; (try with_reducible rfl))); (try simp only [Act.put, zF, zG, zH]))
  (refine TD.val0 (v := ?v13) (by simp only [zA, zB, zC]; rfl) rfl ?hw13 (fun w1 => ?hy13) ?hn13; (case hw13 => rfl); (case hy13 => (go_simp; (try with_reducible rfl))); (try simp only [Act.put, zF, zG, zH]))
  refine TD.nil (fun w3 hr => ?_)
  have kh := hr.mod.at kh (fun h => h)
  have kb := hr.mod.at kb (fun h => h)
  have kp4 := hr.mod.at kp4 (fun h => h)
  have m3 := m1.then0 hr.mod
  clear hr hl HLK
  replace kp4 : w3.heap[p4]? = some (.cells #[.int .u64 0, .int .u64 0] 60 (0, 0)) := kp4
  have hb4 : p4 ≠ mb := ne_of_obj kp4 kb (by simp)
  have hbh : h ≠ mb := ne_of_obj kh kb (by simp)
  go_upto_region 6 with fail
  have Lkh := lt_size kh
  have Lkp4 := lt_size kp4
  have Lkb := lt_size kb
  refine wp_pass0 (C := fun _ _ _ => False) (κ := fun i => [0, 0, 0, 1, 0, 5].getD i 0) [0, 1, 2, 3, 4, 5] (by kernel_rfl) (by kernel_rfl) (fun _ _ d _ _ h => by cases d <;> first | exact h | exact absurd h (hP _ _ _)) ?_
  (refine TD.val0 (v := ?v14) (by simp only [zA, zB, zC]; rfl) rfl ?hw14 (fun w1 => ?hy14) ?hn14; (case hw14 => rfl); (case hy14 => (go_simp; (try with_reducible rfl))); (try simp only [Act.put, zF, zG, zH]))
  (refine TD.val0 (v := ?v15) (by simp only [zA, zB, zC]; rfl) rfl ?hw15 (fun w1 => ?hy15) ?hn15; (case hw15 => rfl); (case hy15 => (go_simp; (try with_reducible rfl))); (try simp only [Act.put, zF, zG, zH]))
  (refine TD.val0 (v := ?v16) (by simp only [zA, zB, zC]; rfl) rfl ?hw16 (fun w1 => ?hy16) ?hn16; (case hw16 => rfl); (case hy16 => (go_simp; (try with_reducible rfl))); (try simp only [Act.put, zF, zG, zH]))
  (refine TD.load (v := ?v17) (p := ?p17) (Mod.refl _ _) (by simp only [zA, zB, zC]; rfl) rfl ?hw17 rfl ?hx17 (fun wq hSq => ?hy17) ?hn17; (case hw17 => rfl); (case hx17 => (simp only [Act.eval, zD, zA, zB, zC, zE]; (try rfl))); (case hy17 => (have khq := hSq.at kh (fun h => h); have kp4q := hSq.at kp4 (fun h => h); have kbq := hSq.at kb (fun h => h); go_simp; (try with_reducible rfl))); (try simp only [Act.put, zF, zG, zH]))
  (refine TD.val0 (v := ?v18) (by simp only [zA, zB, zC]; rfl) rfl ?hw18 (fun w1 => ?hy18) ?hn18; (case hw18 => rfl); (case hy18 => (go_simp; (try with_reducible rfl))); (try simp only [Act.put, zF, zG, zH]))
  refine TD.eff (by simp only [zA, zB, zC]; rfl) rfl (fun wE hr => ?_)
  have kh := hr.mod.at0 kh
  have kp4 := hr.mod.at0 kp4
  have kb := hr.mod.at0 kb
  have mE := hr.mod
  obtain ⟨es19, hrun19, Mkb⟩ := M.delete idT Tryd.underlying108 wE kb id
  (refine eff_delete (X := ?X19) (Y := ?Y19) (v := ?v19) (w' := ?w19) (by simp only [zA, zB, zC]; rfl) ?hw19 rfl ?hx19 ?hz19 ?hy19 ?hn19; (case hw19 => rfl); (case hx19 => (simp only [Act.eval, zD, zA, zB, zC, zE]; (try rfl))); (case hz19 => (simp only [Act.eval, zD, zA, zB, zC, zE]; (try rfl))); (case hy19 => exact hrun19))
  (first | refine TE.nil_set kb (fun w5 kb mS => ?_) | refine TE.nil_setCell kb (fun w5 kb mS => ?_))
  (try simp only [Array.setIfInBounds, zF, zG, zH] at kb)
  have kh := mS.at_ne kh (by omega)
  have kp4 := mS.at_ne kp4 (by omega)
  have m5 : Mod (fun i => i = mb) w w5 := ((m3.then0 mE).mono (fun _ _ h => h.elim)).then mS (fun _ _ h => h)
  clear mE mS
  go_upto_region 7 with fail
  have Lkh := lt_size kh
  have Lkb := lt_size kb
  have Lkp4 := lt_size kp4
  refine wp_pass0 (C := fun _ _ _ => False) (κ := fun i => [0, 0, 0, 1, 0].getD i 0) [0, 1, 2, 3, 4] (by kernel_rfl) (by kernel_rfl) (fun _ _ d _ _ h => by cases d <;> first | exact h | exact absurd h (hP _ _ _)) ?_
  (refine TD.val0 (v := ?v20) (by simp only [zA, zB, zC]; rfl) rfl ?hw20 (fun w1 => ?hy20) ?hn20; (case hw20 => rfl); (case hy20 => (go_simp; (try with_reducible rfl))); (try simp only [Act.put, zF, zG, zH]))
  (refine TD.val0 (v := ?v21) (by simp only [zA, zB, zC]; rfl) rfl ?hw21 (fun w1 => ?hy21) ?hn21; (case hw21 => rfl); (case hy21 => (go_simp; (try with_reducible rfl))); (try simp only [Act.put, zF, zG, zH]))
  (refine TD.val0 (v := ?v22) (by simp only [zA, zB, zC]; rfl) rfl ?hw22 (fun w1 => ?hy22) ?hn22; (case hw22 => rfl); (case hy22 => (go_simp; (try with_reducible rfl))); (try simp only [Act.put, zF, zG, zH]))
  (refine TD.load (v := ?v23) (p := ?p23) (Mod.refl _ _) (by simp only [zA, zB, zC]; rfl) rfl ?hw23 rfl ?hx23 (fun wq hSq => ?hy23) ?hn23; (case hw23 => rfl); (case hx23 => (simp only [Act.eval, zD, zA, zB, zC, zE]; (try rfl))); (case hy23 => (have khq := hSq.at kh (fun h => h); have kbq := hSq.at kb (fun h => h); have kp4q := hSq.at kp4 (fun h => h); go_simp; (try with_reducible rfl))); (try simp only [Act.put, zF, zG, zH]))
  (refine TD.val0 (v := ?v24) (by simp only [zA, zB, zC]; rfl) rfl ?hw24 (fun w1 => ?hy24) ?hn24; (case hw24 => rfl); (case hy24 => (go_simp; (try with_reducible rfl))); (try simp only [Act.put, zF, zG, zH]))
  refine TD.nil (fun w6 hr => ?_)
  have kh := hr.mod.at kh (fun h => h)
  have kb := hr.mod.at kb (fun h => h)
  have kp4 := hr.mod.at kp4 (fun h => h)
  have m6 := m5.then0 hr.mod
  clear hr
  have sm : ∀ (k : Bool) (s : Nat) (v : Value) (L : List Nat) (o : Nat → Int), Sd w s k v L nd o → Sd w6 s k v L nd o := fun k s v L o hS => by
    obtain ⟨es0, c0, kb0, _⟩ := HH.out.km
    refine hS.mod m6 (fun e => ?_) (fun g hg e => ?_) (fun b hb e => ?_)
    · exact ne_of_obj hS.side kb0 (by simp) e
    · obtain ⟨cur, kg⟩ := own_block hS.own hg
      exact ne_of_obj kg kb0 (by simp) e
    · obtain ⟨i, hi⟩ := List.mem_iff_getElem?.1 hb
      exact ne_of_obj (hS.nodes i _ hi) kb0 (by simp) e
  have HP0 : Hid (DrS w6 h s0 s1 mb v0 v1 L0 L1 nd (del id m) b 0 w6) := Lib.hid ⟨kh, ⟨_, _, kb, Mkb⟩, Mod.refl _ _, sm _ _ _ _ _ HH.out.d0, sm _ _ _ _ _ HH.out.d1⟩
  have HK := Lib.hid (And.intro kp4 gp4)
  have HX0 : Hid (L0[L0.idxOf b]? = some b ∧ L1[L1.idxOf b]? = some b ∧ b ∈ L1) := Lib.hid (by
    have h1 : b ∈ L1 := HH.out.p1.mem_iff.2 (HH.out.p0.mem_iff.1 HB.out.2.1)
    exact ⟨by rw [List.getElem?_eq_getElem (List.idxOf_lt_length_of_mem HB.out.2.1)]; simp, by rw [List.getElem?_eq_getElem (List.idxOf_lt_length_of_mem h1)]; simp, h1⟩)
  clear kb Mkb kh kp4 gp4 sm hb4 hbh M
  go_wp2_with fail
  go_loopw [35, 9] (fun s35 _ ws => ∃ j : Nat, j ≤ 2 ∧ s35 = .int .i64 (j : Int) ∧ Hid (DrS w6 h s0 s1 mb v0 v1 L0 L1 nd (del id m) b j ws)) (fun s35 _ _ => 2 - (intOf s35).toNat)
  case atStart => exact ⟨0, by omega, rfl, HP0⟩
  case round =>
    obtain ⟨j, hj, rfl, HP⟩ := hrel
    clear HP0
    rcases (show j = 0 ∨ j = 1 ∨ j = 2 by omega) with rfl | rfl | rfl
    · obtain ⟨_, _, _, d0, d1⟩ := _root_.id HP.out
      have ks := d0.side
      have kn0 := d0.cell HB.out.2.1
      simp only [ndc, if_true, if_false, Bool.false_eq_true] at kn0
      simp only [sdc, kn, if_true, if_false, Bool.false_eq_true] at ks
      clear d0 d1
      go_upto_region 10 with fail
      have Lks := lt_size ks
      have Lkn0 := lt_size kn0
      refine wp_pass (C := fun _ _ _ => False) (κ := fun i => [0, 0, 0, 0, 0, 0, 1, 0, 0, 0, 1, 5].getD i 0) [0, 1, 2, 3, 4, 5, 6, 7, 8, 9, 10, 11] (by kernel_rfl) (by kernel_rfl) (fun _ _ d _ _ h => by cases d <;> first | exact h | exact absurd h (hP _ _ _)) ?_
      (refine TD.val0 (v := ?v25) (by simp only [zA, zB, zC]; rfl) rfl ?hw25 (fun w1 => ?hy25) ?hn25; (case hw25 => rfl); (case hy25 => (go_simp; (try with_reducible rfl))); (try simp only [Act.put, zF, zG, zH]))
      (refine TD.val0 (v := ?v26) (by simp only [zA, zB, zC]; rfl) rfl ?hw26 (fun w1 => ?hy26) ?hn26; (case hw26 => rfl); (case hy26 => (go_simp; (try with_reducible rfl))); (try simp only [Act.put, zF, zG, zH]))
      (refine TD.val0 (v := ?v27) (by simp only [zA, zB, zC]; rfl) rfl ?hw27 (fun w1 => ?hy27) ?hn27; (case hw27 => rfl); (case hy27 => (go_simp; (try with_reducible rfl))); (try simp only [Act.put, zF, zG, zH]))
      (refine TD.val0 (v := ?v28) (by simp only [zA, zB, zC]; rfl) rfl ?hw28 (fun w1 => ?hy28) ?hn28; (case hw28 => rfl); (case hy28 => (go_simp; (try with_reducible rfl))); (try simp only [Act.put, zF, zG, zH]))
      (refine TD.val0 (v := ?v29) (by simp only [zA, zB, zC]; rfl) rfl ?hw29 (fun w1 => ?hy29) ?hn29; (case hw29 => rfl); (case hy29 => (go_simp; (try with_reducible rfl))); (try simp only [Act.put, zF, zG, zH]))
      (refine TD.val0 (v := ?v30) (by simp only [zA, zB, zC]; rfl) rfl ?hw30 (fun w1 => ?hy30) ?hn30; (case hw30 => rfl); (case hy30 => (go_simp; (try with_reducible rfl))); (try simp only [Act.put, zF, zG, zH]))
      (refine TD.load (v := ?v31) (p := ?p31) (Mod.refl _ _) (by simp only [zA, zB, zC]; rfl) rfl ?hw31 rfl ?hx31 (fun wq hSq => ?hy31) ?hn31; (case hw31 => rfl); (case hx31 => (simp only [Act.eval, zD, zA, zB, zC, zE]; (try rfl))); (case hy31 => (have ksq := hSq.at ks (fun h => h); have kn0q := hSq.at kn0 (fun h => h); go_simp; (try with_reducible rfl))); (try simp only [Act.put, zF, zG, zH]))
      (refine TD.val0 (v := ?v32) (by simp only [zA, zB, zC]; rfl) rfl ?hw32 (fun w1 => ?hy32) ?hn32; (case hw32 => rfl); (case hy32 => (go_simp; (try with_reducible rfl))); (try simp only [Act.put, zF, zG, zH]))
      (refine TD.val0 (v := ?v33) (by simp only [zA, zB, zC]; rfl) rfl ?hw33 (fun w1 => ?hy33) ?hn33; (case hw33 => rfl); (case hy33 => (go_simp; (try with_reducible rfl))); (try simp only [Act.put, zF, zG, zH]))
      (refine TD.val0 (v := ?v34) (by simp only [zA, zB, zC]; rfl) rfl ?hw34 (fun w1 => ?hy34) ?hn34; (case hw34 => rfl); (case hy34 => (go_simp; (try with_reducible rfl))); (try simp only [Act.put, zF, zG, zH]))
      (refine TD.load (v := ?v35) (p := ?p35) (Mod.refl _ _) (by simp only [zA, zB, zC]; rfl) rfl ?hw35 rfl ?hx35 (fun wq hSq => ?hy35) ?hn35; (case hw35 => rfl); (case hx35 => (simp only [Act.eval, zD, zA, zB, zC, zE]; (try rfl))); (case hy35 => (have ksq := hSq.at ks (fun h => h); have kn0q := hSq.at kn0 (fun h => h); go_simp; (try with_reducible rfl))); (try simp only [Act.put, zF, zG, zH]))
      refine TD.eff (by simp only [zA, zB, zC]; rfl) rfl (fun w7 hr => ?_)
      have ks := hr.mod.at ks (fun h => h)
      have kn0 := hr.mod.at kn0 (fun h => h)
      have HD := Lib.hid (HP.out.mod0 hr.mod)
      have hcall : Calls Tryd.prog 56 #[hpV s0, .int .i64 (L0.idxOf b : Int)] w7 fun e w' => e = .returned (.iface 117 (ptrV b)) ∧ DrS w6 h s0 s1 mb v0 v1 L0 L1 nd (del id m) b 1 w' := (hremove_c HD.out.2.2.2.1 (n := L0.length - 1) (by have := HL0.out; omega) HX0.out.1 (by have := HL0.out; omega) HH.out.ok0).mono (fun e w' h => by
        obtain ⟨v', L', he, hS, hok, hperm, hm, hv, i', hn⟩ := h
        exact ⟨he, DrS.one HD.out HH.out.ss HH.out.ap (HH.out.p1.trans HH.out.p0.symm) hS hok hperm hm hv hn⟩)
      clear ks kn0 hr
      (refine eff_callP (by simp only [zA, zB, zC]; rfl) ?hw37 ?hy37 hcall (fun wn hP => ?hn37); (case hw37 => rfl); (case hy37 => (go_simp; (try (first | with_reducible rfl | (constructor <;> with_reducible rfl))))); (try simp only [Act.put, zF, zG, zH]))
      refine TE.nil ?_
      have HX := Lib.hid hP
      clear hP hcall HD HP
      go_wp2_with fail
      go_roundw
      case rel => exact ⟨1, by omega, by go_num, HX⟩
      case measure => simp [intOf]
    · obtain ⟨_, _, _, v0', L0', i', d0, d1, _, hperm, _⟩ := _root_.id HP.out
      have ks := d1.side
      have kn0 : wr.heap[b]? = some (.cells (ndc true (nd b) (L1.idxOf b : Int) i') 131 (0, 0)) := by
        have h := d1.cell HX0.out.2.2
        rw [if_pos rfl] at h
        exact h
      simp only [ndc, if_true, if_false, Bool.false_eq_true] at kn0
      simp only [sdc, kn, if_true, if_false, Bool.false_eq_true] at ks
      have D1 := Lib.hid d1
      clear d0 d1 hperm
      go_upto_region 10 with fail
      have Lks := lt_size ks
      have Lkn0 := lt_size kn0
      refine wp_pass (C := fun _ _ _ => False) (κ := fun i => [0, 0, 0, 0, 0, 0, 1, 0, 0, 0, 1, 5].getD i 0) [0, 1, 2, 3, 4, 5, 6, 7, 8, 9, 10, 11] (by kernel_rfl) (by kernel_rfl) (fun _ _ d _ _ h => by cases d <;> first | exact h | exact absurd h (hP _ _ _)) ?_
      (refine TD.val0 (v := ?v38) (by simp only [zA, zB, zC]; rfl) rfl ?hw38 (fun w1 => ?hy38) ?hn38; (case hw38 => rfl); (case hy38 => (go_simp; (try with_reducible rfl))); (try simp only [Act.put, zF, zG, zH]))
      (refine TD.val0 (v := ?v39) (by simp only [zA, zB, zC]; rfl) rfl ?hw39 (fun w1 => ?hy39) ?hn39; (case hw39 => rfl); (case hy39 => (go_simp; (try with_reducible rfl))); (try simp only [Act.put, zF, zG, zH]))
      (refine TD.val0 (v := ?v40) (by simp only [zA, zB, zC]; rfl) rfl ?hw40 (fun w1 => ?hy40) ?hn40; (case hw40 => rfl); (case hy40 => (go_simp; (try with_reducible rfl))); (try simp only [Act.put, zF, zG, zH]))
      (refine TD.val0 (v := ?v41) (by simp only [zA, zB, zC]; rfl) rfl ?hw41 (fun w1 => ?hy41) ?hn41; (case hw41 => rfl); (case hy41 => (go_simp; (try with_reducible rfl))); (try simp only [Act.put, zF, zG, zH]))
      (refine TD.val0 (v := ?v42) (by simp only [zA, zB, zC]; rfl) rfl ?hw42 (fun w1 => ?hy42) ?hn42; (case hw42 => rfl); (case hy42 => (go_simp; (try with_reducible rfl))); (try simp only [Act.put, zF, zG, zH]))
      (refine TD.val0 (v := ?v43) (by simp only [zA, zB, zC]; rfl) rfl ?hw43 (fun w1 => ?hy43) ?hn43; (case hw43 => rfl); (case hy43 => (go_simp; (try with_reducible rfl))); (try simp only [Act.put, zF, zG, zH]))
      (refine TD.load (v := ?v44) (p := ?p44) (Mod.refl _ _) (by simp only [zA, zB, zC]; rfl) rfl ?hw44 rfl ?hx44 (fun wq hSq => ?hy44) ?hn44; (case hw44 => rfl); (case hx44 => (simp only [Act.eval, zD, zA, zB, zC, zE]; (try rfl))); (case hy44 => (have ksq := hSq.at ks (fun h => h); have kn0q := hSq.at kn0 (fun h => h); go_simp; (try with_reducible rfl))); (try simp only [Act.put, zF, zG, zH]))
      (refine TD.val0 (v := ?v45) (by simp only [zA, zB, zC]; rfl) rfl ?hw45 (fun w1 => ?hy45) ?hn45; (case hw45 => rfl); (case hy45 => (go_simp; (try with_reducible rfl))); (try simp only [Act.put, zF, zG, zH]))
      (refine TD.val0 (v := ?v46) (by simp only [zA, zB, zC]; rfl) rfl ?hw46 (fun w1 => ?hy46) ?hn46; (case hw46 => rfl); (case hy46 => (go_simp; (try with_reducible rfl))); (try simp only [Act.put, zF, zG, zH]))
      (refine TD.val0 (v := ?v47) (by simp only [zA, zB, zC]; rfl) rfl ?hw47 (fun w1 => ?hy47) ?hn47; (case hw47 => rfl); (case hy47 => (go_simp; (try with_reducible rfl))); (try simp only [Act.put, zF, zG, zH]))
      (refine TD.load (v := ?v48) (p := ?p48) (Mod.refl _ _) (by simp only [zA, zB, zC]; rfl) rfl ?hw48 rfl ?hx48 (fun wq hSq => ?hy48) ?hn48; (case hw48 => rfl); (case hx48 => (simp only [Act.eval, zD, zA, zB, zC, zE]; (try rfl))); (case hy48 => (have ksq := hSq.at ks (fun h => h); have kn0q := hSq.at kn0 (fun h => h); go_simp; (try with_reducible rfl))); (try simp only [Act.put, zF, zG, zH]))
      refine TD.eff (by simp only [zA, zB, zC]; rfl) rfl (fun w7 hr => ?_)
      have ks := hr.mod.at ks (fun h => h)
      have kn0 := hr.mod.at kn0 (fun h => h)
      have HD := Lib.hid (HP.out.mod0 hr.mod)
      have hcall : Calls Tryd.prog 56 #[hpV s1, .int .i64 (L1.idxOf b : Int)] w7 fun e w' => e = .returned (.iface 117 (ptrV b)) ∧ DrS w6 h s0 s1 mb v0 v1 L0 L1 nd (del id m) b 2 w' := (hremove_c (D1.out.mod0 hr.mod) (n := L1.length - 1) (by have := HL0.out; omega) HX0.out.2.1 (by have := HL0.out; omega) HH.out.ok1).mono (fun e w' h => by
        obtain ⟨v', L', he, hS, hok, hperm, hm, hv, i2, hn⟩ := h
        refine ⟨he, DrS.two HD.out HH.out.ss HH.out.ap (HH.out.p1.trans HH.out.p0.symm) (fun i x hx => HH.out.ids i x ((del_sub id m).subset hx)) (HH.out.p0.trans (del_map_perm HB.out.1)) (fun v2 L2 i3 e0 e1 hp2 x hx => ?_) hS hok hperm hm hv hn⟩
        have hnd : (L' ++ [b]).Nodup := hperm.nodup_iff.2 D1.out.nodup
        have hxb : x ≠ b := fun e => (List.nodup_append.1 hnd).2.2 x hx b (by simp) e
        have hx1 : x ∈ L1 := hperm.mem_iff.1 (by simp [hx])
        have c1 := (D1.out.mod0 hr.mod).cell hx1
        have c2 := e1.cell hx1
        rw [c1] at c2
        simp only [ndc, if_neg hxb, Option.some.injEq, Obj.cells.injEq, Array.mk.injEq, List.cons.injEq, Value.int.injEq, true_and, and_true, if_true] at c2
        rw [if_neg hxb]
        exact c2)
      clear ks kn0 hr
      (refine eff_callP (by simp only [zA, zB, zC]; rfl) ?hw50 ?hy50 hcall (fun wn hP => ?hn50); (case hw50 => rfl); (case hy50 => (go_simp; (try (first | with_reducible rfl | (constructor <;> with_reducible rfl))))); (try simp only [Act.put, zF, zG, zH]))
      refine TE.nil ?_
      have HX := Lib.hid hP
      clear hP hcall HD HP
      go_wp2_with fail
      go_roundw
      case rel => exact ⟨2, by omega, by go_num, HX⟩
      case measure => simp [intOf]
    · obtain ⟨_, _, hmw, v0', L0', v1', L1', hp, hperm, hv0, hv1, k, i, o, kn0⟩ := _root_.id HP.out
      have hown : ∀ x, Hown h s0 s1 mb v0 v1 L0 x → x < w.heap.size := fun x hx => HT.out x (HO.out x hx)
      have hch : ∀ x, (x = mb ∨ x = s0 ∨ x = s1 ∨ v0.ownBlock = some x ∨ v1.ownBlock = some x ∨ x ∈ L0 ∨ x ∈ L1) → Hown h s0 s1 mb v0 v1 L0 x := by
        rintro x (e | e | e | e | e | e | e)
        · exact .inr (.inr (.inr (.inl e)))
        · exact .inr (.inl e)
        · exact .inr (.inr (.inl e))
        · exact .inr (.inr (.inr (.inr (.inl e))))
        · exact .inr (.inr (.inr (.inr (.inr (.inl e)))))
        · exact .inr (.inr (.inr (.inr (.inr (.inr e)))))
        · exact .inr (.inr (.inr (.inr (.inr (.inr (HH.out.p0.mem_iff.2 (HH.out.p1.mem_iff.1 e)))))))
      have hown2 : ∀ x, Hown h s0 s1 mb v0' v1' L0' x → Hown h s0 s1 mb v0 v1 L0 x := by
        rintro x (e | e | e | e | e | e | e)
        · exact .inl e
        · exact .inr (.inl e)
        · exact .inr (.inr (.inl e))
        · exact .inr (.inr (.inr (.inl e)))
        · exact .inr (.inr (.inr (.inr (.inl (hv0 ▸ e)))))
        · exact .inr (.inr (.inr (.inr (.inr (.inl (hv1 ▸ e))))))
        · exact .inr (.inr (.inr (.inr (.inr (.inr (hperm.mem_iff.1 (by simp [e])))))))
      have kp4 := hmw.at HK.out.1 (fun e => by
        have h1 := hown _ (hch _ e)
        have h2 := HK.out.2
        omega)
      have HF := Lib.hid (And.intro hmw (And.intro hp (And.intro hown (And.intro hch hown2))))
      clear hmw hp hperm hv0 hv1 hown hch hown2
      go_upto_region 12 with fail
      have Lkn0 := lt_size kn0
      have Lkp4 := lt_size kp4
      refine wp_pass0 (C := fun _ _ _ => False) (κ := fun i => [0, 0, 0, 1, 5, 0].getD i 0) [0, 1, 2, 3, 4, 5] (by kernel_rfl) (by kernel_rfl) (fun _ _ d _ _ h => by cases d <;> first | exact h | exact absurd h (hP _ _ _)) ?_
      (refine TD.val0 (v := ?v51) (by simp only [zA, zB, zC]; rfl) rfl ?hw51 (fun w1 => ?hy51) ?hn51; (case hw51 => rfl); (case hy51 => (go_simp; (try with_reducible rfl))); (try simp only [Act.put, zF, zG, zH]))
      (refine TD.val0 (v := ?v52) (by simp only [zA, zB, zC]; rfl) rfl ?hw52 (fun w1 => ?hy52) ?hn52; (case hw52 => rfl); (case hy52 => (go_simp; (try with_reducible rfl))); (try simp only [Act.put, zF, zG, zH]))
      (refine TD.val0 (v := ?v53) (by simp only [zA, zB, zC]; rfl) rfl ?hw53 (fun w1 => ?hy53) ?hn53; (case hw53 => rfl); (case hy53 => (go_simp; (try with_reducible rfl))); (try simp only [Act.put, zF, zG, zH]))
      (refine TD.load (v := ?v54) (p := ?p54) (Mod.refl _ _) (by simp only [zA, zB, zC]; rfl) rfl ?hw54 rfl ?hx54 (fun wq hSq => ?hy54) ?hn54; (case hw54 => rfl); (case hx54 => (simp only [Act.eval, zD, zA, zB, zC, zE]; (try rfl))); (case hy54 => (have kn0q := hSq.at kn0 (fun h => h); have kp4q := hSq.at kp4 (fun h => h); go_simp; (try with_reducible rfl))); (try simp only [Act.put, zF, zG, zH]))
      refine TD.eff (by simp only [zA, zB, zC]; rfl) rfl (fun w7 hr => ?_)
      have kn0 := hr.mod.at kn0 (fun h => h)
      have kp4 := hr.mod.at kp4 (fun h => h)
      have hmF := hr.mod
      clear hr
      (refine eff_store (X := ?X56) (Y := ?Y56) (w' := ?w56) (by simp only [zA, zB, zC]; rfl) ?hw56 rfl ?hx56 ?hz56 ?hy56 ?hn56; (case hw56 => rfl); (case hx56 => (simp only [Act.eval, zD, zA, zB, zC, zE]; (try rfl))); (case hz56 => (simp only [Act.eval, zD, zA, zB, zC, zE]; (try rfl))); (case hy56 => (go_simp; (try with_reducible rfl))))
      (first | refine TE.mid_set kp4 (fun wn kp4 mS => ?_) | refine TE.mid_setCell kp4 (fun wn kp4 mS => ?_))
      (try simp only [Array.setIfInBounds, zF, zG, zH] at kp4)
      have hmG : Mod (fun i => i = p4) wr wn := ((hmF.mono (fun _ _ h => h.elim)).then mS (fun _ _ e => e))
      clear mS hmF
      (refine TE.val0 (v := ?v57) (by simp only [zA, zB, zC]; rfl) ?hw57 (fun w1 => ?hy57) ?hn57; (case hw57 => rfl); (case hy57 => (go_simp; (try with_reducible rfl))); (try simp only [Act.put, zF, zG, zH]))
      refine TE.nil ?_
      go_wp2_with fail
      obtain ⟨hmw, hp, hown, hch, hown2⟩ := HF.out
      refine bodyPost_ret (results_cell2 (x := .agg (rkc (nd b).r)) rfl rfl (by rw [ldRk]; simp [kp4, rkc])) rfl ⟨⟨nd b, List.mem_map.2 ⟨(id, b), lkp_mem HB.out.1, rfl⟩, HB.out.2.2, rfl⟩, ⟨s0, s1, mb, v0', v1', L0', L1', nd, del id m, hp.mod hmG (fun x hx e => ?_), ?_, fun x hx => HO.out x (hown2 x hx)⟩, ?_⟩
      · have h1 := hown _ (hown2 _ hx)
        have h2 := HK.out.2
        omega
      · refine (del_eraseP _ _ (fun p hp => ?_)).symm
        show ((nd p.2).id == id) = decide (p.1 = id)
        rw [HH.out.ids p.1 p.2 hp]
        rfl
      · refine ((m6.mono (T := T) (fun x _ e => HO.out x (.inr (.inr (.inr (.inl e)))))).then hmw (fun x hx e => HO.out x (hch x e))).then hmG (fun x hx e => ?_)
        have h2 := HK.out.2
        omega
end Go.Proofs.YtdeghpmlhcaedaaDoor
