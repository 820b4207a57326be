/- The document's own heap: Drop, Top, Bottom, List. -/
import Derived.Test.YtnibhnnpjkemhaaRf2
import Derived.Test.YtnibhnnpjkemhaaRls
import Derived.Test.YtnibhnnpjkemhaaTf
namespace Go.Proofs.Ytnibhnnpjkemhaa
open Go.RowKit Go.Sort
open Go.ChangeMaps (setBlock)
set_option linter.unusedSimpArgs false
set_option linter.unusedVariables false
attribute [local go_sem ↓] wlRk ldRk stRk wlNdR ldNdR stNdR eqRk eqRk2
attribute [local go_sem] rkc_size ndc_size rn_size cell_blk frozen_blk one_int one_bool one_ptr one_slice one_map Value.cells rkc_all1
theorem zRk_size : zRk.size = 2 := rfl
theorem zNdR_size : zNdR.size = 3 := rfl
theorem rn_r (x : Nd) : (rn x).extract 0 2 = rkc x.r := rfl
theorem rn_i (x : Nd) : (rn x)[2]? = some (.int .i64 x.id.toInt) := rfl
theorem rn_all (x : Nd) : (rn x).all (·.oneCell') 0 3 = true := all_of (rn_size x) (by simp [rn, Value.oneCell'])
attribute [local go_sem] rn_r rn_i rn_all rkc_ext zRk_size zNdR_size
set_option maxRecDepth 20000 in
set_option maxHeartbeats 3200000 in
theorem rdropN_c {p : Nat} {L : List Nd} {T : Nat → Prop} {w : World} (h : RAt p L T w) (id : Int64) (hL : L.length ≤ 900000) (hid : ∀ y ∈ L, y.id ≠ id) : Calls Try.prog 17 #[ptrV p, .int .i64 id.toInt] w fun e w' =>
    e = .returned (.tuple #[.agg (rkc rk0), .int .i64 11]) ∧ Mod (fun _ => False) w w' := by
  have hat : ∀ wq, Mod (fun _ => False) w wq → Calls Try.prog 32 #[ptrV p, .int .i64 id.toInt] wq fun e w' => e = .returned (.int .i64 (-1)) ∧ Mod (fun _ => False) wq w' := fun wq hq => rat0_c ((RAt.good p L).cl T w wq h (hq.mono (fun _ _ e => e.elim))) id hL hid
  have HAT := Lib.hid hat
  have hb0 := bldR
  clear hat h hid hL
  go_enter Try.func17, Try.ntmps17
  go_upto_region 0 with fail
  refine wp_pass0 (C := fun _ _ _ => False) (κ := fun i => [3, 0].getD i 0) [0, 1] (by kernel_rfl) (by kernel_rfl) (fun _ _ d _ _ h => by cases d <;> exact h) ?_
  (refine TD.allocB (by simp only [List.getElem?_toArray, List.getElem?_cons_succ, List.getElem?_cons_zero]; rfl) rfl ?hw1 rfl rfl alRk (fun p4 hp4 => ?hn1); (case hw1 => rfl); (try simp only [Act.put, List.setIfInBounds_toArray, List.set_cons_zero, List.set_cons_succ]))
  (refine TD.val0 (v := ?v2) (by simp only [List.getElem?_toArray, List.getElem?_cons_succ, List.getElem?_cons_zero]; rfl) rfl ?hw2 (fun w1 => ?hy2) ?hn2; (case hw2 => rfl); (case hy2 => (go_simp; (try with_reducible rfl))); (try simp only [Act.put, List.setIfInBounds_toArray, List.set_cons_zero, List.set_cons_succ]))
  refine TD.nil (fun w1 hr => ?_)
  have kp4 := hr.box p4 _ (by first | exact Bx.set_same _ _ _ | (simp only [Bx.set_same]; rfl)); dsimp only [Value.cells] at kp4; obtain ⟨gp4, kp4⟩ := kp4
  have m1 := hr.mod
  clear hr
  go_upto_region 1 with fail
  have Lkp4 := lt_size kp4
  refine wp_pass0 (C := fun _ _ v => v = .int .i64 (-1)) (κ := fun i => [0, 0, 2, 0].getD i 0) [0, 1, 2, 3] (by kernel_rfl) (by kernel_rfl) (fun _ _ d _ _ h => by cases d <;> exact h) ?_
  (refine TD.val0 (v := ?v3) (by simp only [List.getElem?_toArray, List.getElem?_cons_succ, List.getElem?_cons_zero]; rfl) rfl ?hw3 (fun w1 => ?hy3) ?hn3; (case hw3 => rfl); (case hy3 => (go_simp; (try with_reducible rfl))); (try simp only [Act.put, List.setIfInBounds_toArray, List.set_cons_zero, List.set_cons_succ]))
  (refine TD.val0 (v := ?v4) (by simp only [List.getElem?_toArray, List.getElem?_cons_succ, List.getElem?_cons_zero]; rfl) rfl ?hw4 (fun w1 => ?hy4) ?hn4; (case hw4 => rfl); (case hy4 => (go_simp; (try with_reducible rfl))); (try simp only [Act.put, List.setIfInBounds_toArray, List.set_cons_zero, List.set_cons_succ]))
  (refine TD.call (f := ?f5) (args := ?r5) (Mod.refl _ _) (by simp only [List.getElem?_toArray, List.getElem?_cons_succ, List.getElem?_cons_zero]; rfl) rfl ?hw5 (fun w1 => ?hy5) ?hsp5 ?hn5; (case hw5 => rfl); (case hy5 => (go_simp; (first | with_reducible rfl | (constructor <;> with_reducible rfl)))); (case hsp5 => (intro wq hSq; have kp4q := hSq.at kp4 (fun h => h); exact (HAT.out wq (m1.then0 hSq)).mono (fun e w' h => ⟨_, h.1, rfl, h.2⟩))); rintro _ rfl; (try simp only [Act.put, List.setIfInBounds_toArray, List.set_cons_zero, List.set_cons_succ]))
  (refine TD.val0 (v := ?v6) (by simp only [List.getElem?_toArray, List.getElem?_cons_succ, List.getElem?_cons_zero]; rfl) rfl ?hw6 (fun w1 => ?hy6) ?hn6; (case hw6 => rfl); (case hy6 => (go_simp; (try with_reducible rfl))); (try simp only [Act.put, List.setIfInBounds_toArray, List.set_cons_zero, List.set_cons_succ]))
  refine TD.nil (fun w2 hr => ?_)
  have kp4 := hr.mod.at kp4 (fun h => h)
  have m2 := m1.then0 hr.mod
  clear hr HAT
  replace kp4 : w2.heap[p4]? = some (.cells #[.int .u64 0, .int .u64 0] 30 (0, 0)) := kp4
  go_upto_region 3 with fail
  have Lkp4 := lt_size kp4
  refine wp_pass0 (C := fun _ _ _ => False) (κ := fun i => [0, 5, 0].getD i 0) [0, 1, 2] (by kernel_rfl) (by kernel_rfl) (fun _ _ d _ _ h => by cases d <;> exact h) ?_
  (refine TD.build (v := ?v7) (ps := ?p7) (by simp only [List.getElem?_toArray, List.getElem?_cons_succ, List.getElem?_cons_zero]; rfl) rfl ?hw7 rfl ?hx7 (fun w1 => ?hy7) ?hn7; (case hw7 => rfl); (case hx7 => (simp only [List.map_toArray, List.map_cons, List.map_nil, Act.eval, Array.getD_eq_getD_getElem?, List.getElem?_toArray, List.getElem?_cons_succ, List.getElem?_cons_zero, Option.getD_some]; (try rfl))); (case hy7 => (rw [hb0]; (try with_reducible rfl))); (try simp only [Act.put, List.setIfInBounds_toArray, List.set_cons_zero, List.set_cons_succ]))
  refine TD.eff (by simp only [List.getElem?_toArray, List.getElem?_cons_succ, List.getElem?_cons_zero]; rfl) rfl (fun w4 hr => ?_)
  have kp4 := hr.mod.at kp4 (fun h => h)
  have m4 := m2.then0 hr.mod
  clear hr
  (refine eff_store (X := ?X9) (Y := ?Y9) (w' := ?w9) (by simp only [List.getElem?_toArray, List.getElem?_cons_succ, List.getElem?_cons_zero]; rfl) ?hw9 rfl ?hx9 ?hz9 ?hy9 ?hn9; (case hw9 => rfl); (case hx9 => (simp only [Act.eval, Array.getD_eq_getD_getElem?, List.getElem?_toArray, List.getElem?_cons_succ, List.getElem?_cons_zero, Option.getD_some]; (try rfl))); (case hz9 => (simp only [Act.eval, Array.getD_eq_getD_getElem?, List.getElem?_toArray, List.getElem?_cons_succ, List.getElem?_cons_zero, Option.getD_some]; (try rfl))); (case hy9 => (go_simp; (try with_reducible rfl))))
  (first | refine TE.mid_set kp4 (fun wn kp4 mS => ?_) | refine TE.mid_setCell kp4 (fun wn kp4 mS => ?_))
  (try simp only [Array.setIfInBounds, List.setIfInBounds_toArray, List.set_cons_zero, List.set_cons_succ] at kp4)
  have m5 := m4.thenB mS (.inl gp4)
  clear mS
  (refine TE.val0 (v := ?v10) (by simp only [List.getElem?_toArray, List.getElem?_cons_succ, List.getElem?_cons_zero]; rfl) ?hw10 (fun w1 => ?hy10) ?hn10; (case hw10 => rfl); (case hy10 => (go_simp; (try with_reducible rfl))); (try simp only [Act.put, List.setIfInBounds_toArray, List.set_cons_zero, List.set_cons_succ]))
  refine TE.nil ?_
  go_wp2_with fail
  exact bodyPost_ret (results_cell2 (x := .agg (rkc rk0)) rfl rfl (by rw [ldRk]; simp [kp4, rkc, rk0])) rfl ⟨rfl, m5⟩
theorem eraseIdx_at {α : Type} (L : List α) (i : Nat) : L.take i ++ L.drop (i + 1) = L.eraseIdx i := (List.eraseIdx_eq_take_drop_succ L i).symm
/-- A slice of nodes that a pass has made. -/
def OwnL (B0 : Nat) (l : List Nd) (v : Value) : Land := fun T w => SlOwn rn 3 71 w B0 v l ∧ ∀ g, v.ownBlock = some g → T g
theorem goodOwn (B0 : Nat) (l : List Nd) (v : Value) : Good (OwnL B0 l v) where
  cl := fun T w w' h hm => ⟨h.1.mod hm (fun b hb hn => hn (h.2 b hb)), h.2⟩
  gr := fun T T' w hT h => ⟨h.1, fun g hg => hT g (h.2 g hg)⟩
theorem app_nil {w : World} {B0 c : Nat} {q : List Nd} {a : Option Addr} {T : Nat → Prop} (hs : SlAt rn 3 w a q) (hq : q.length ≤ 1000000) (hB : B0 ≤ w.heap.size) : ∃ v w', (Builtin.append_ #[67, 67] 67 #[.slice none 0 0, .slice a q.length c]).run Try.prog w = .ok v w' ∧ Mod T w w' ∧ OwnL B0 q v (Grow T w w') w' := by
  obtain ⟨v, w', hap, hO, m, hn⟩ := SlOwn.append rnT (c := c) (SlOwn.nil (f := rn) (n := 3) (E := 71) w B0) hs (by simpa using hq) (by decide) hB 67
  refine ⟨v, w', hap, m.mono (fun _ _ e => by cases e), by simpa using hO, fun g hg => ?_⟩
  rcases hn with h | h
  · rw [hg] at h
    cases h
  · rw [hg] at h
    cases h
    exact .inr ⟨Nat.le_refl _, (hO.lt _ hg).2⟩
theorem app_own {w : World} {B0 c : Nat} {l q : List Nd} {v : Value} {a : Option Addr} {T : Nat → Prop} (hv : OwnL B0 l v T w) (hs : SlAt rn 3 w a q) (hq : l.length + q.length ≤ 1000000) (hB : B0 ≤ w.heap.size) : ∃ v' w', (Builtin.append_ #[67, 67] 67 #[v, .slice a q.length c]).run Try.prog w = .ok v' w' ∧ Mod T w w' ∧ OwnL B0 (l ++ q) v' (Grow T w w') w' := by
  obtain ⟨v', w', hap, hO, m, hn⟩ := SlOwn.append rnT (c := c) hv.1 hs hq (by decide) hB 67
  refine ⟨v', w', hap, m.mono (fun i _ e => hv.2 i e), hO, fun g hg => ?_⟩
  rcases hn with h | h
  · rw [hg] at h
    exact .inl (hv.2 g h.symm)
  · rw [hg] at h
    cases h
    exact .inr ⟨Nat.le_refl _, (hO.lt _ hg).2⟩
set_option maxRecDepth 20000 in
set_option maxHeartbeats 6400000 in
theorem rdrop_c {p : Nat} {L : List Nd} {T : Nat → Prop} {w : World} (h : RAt p L T w) (hT : ∀ i, T i → i < w.heap.size) (id : Int64) (hL : L.length ≤ 900000) (hid : ∃ x ∈ L, x.id = id) : Calls Try.prog 17 #[ptrV p, .int .i64 id.toInt] w fun e w' =>
    ∃ (i : Nat) (x : Nd), L[i]? = some x ∧ x.id = id ∧ e = .returned (.tuple #[.agg (rkc x.r), .int .i64 0]) ∧ ∃ T', RAt p (L.eraseIdx i) T' w' ∧ Mod T w w' ∧ (∀ i, T' i → T i ∨ w.heap.size ≤ i) ∧ ∀ i, T' i → i < w'.heap.size := by
  have hat : ∀ wq, Mod (fun _ => False) w wq → Calls Try.prog 32 #[ptrV p, .int .i64 id.toInt] wq fun e w' => (∃ (i : Nat) (x : Nd), e = .returned (.int .i64 (i : Int)) ∧ L[i]? = some x ∧ x.id = id) ∧ Mod (fun _ => False) wq w' := fun wq hq => rat1_c ((RAt.good p L).cl T w wq h (hq.mono (fun _ _ e => e.elim))) id hL hid
  have HAT := Lib.hid hat
  obtain ⟨v, kr, hO, hTp, hTv⟩ := h
  have HT := Lib.hid (And.intro hT (And.intro hTp hTv))
  obtain ⟨a, c, rfl, hs, _⟩ := hO.at rnT
  have HO := Lib.hid hO
  clear hat hT hid hTp hTv hO
  go_enter Try.func17, Try.ntmps17
  go_upto_region 0 with fail
  have Lkr := lt_size kr
  refine wp_pass0 (C := fun _ _ _ => False) (κ := fun i => [3, 0].getD i 0) [0, 1] (by kernel_rfl) (by kernel_rfl) (fun _ _ d _ _ h => by cases d <;> exact h) ?_
  (refine TD.allocB (by simp only [List.getElem?_toArray, List.getElem?_cons_succ, List.getElem?_cons_zero]; rfl) rfl ?hw11 rfl rfl alRk (fun p4 hp4 => ?hn11); (case hw11 => rfl); (try simp only [Act.put, List.setIfInBounds_toArray, List.set_cons_zero, List.set_cons_succ]))
  (refine TD.val0 (v := ?v12) (by simp only [List.getElem?_toArray, List.getElem?_cons_succ, List.getElem?_cons_zero]; rfl) rfl ?hw12 (fun w1 => ?hy12) ?hn12; (case hw12 => rfl); (case hy12 => (go_simp; (try with_reducible rfl))); (try simp only [Act.put, List.setIfInBounds_toArray, List.set_cons_zero, List.set_cons_succ]))
  refine TD.nil (fun w1 hr => ?_)
  have kr := hr.mod.at kr (fun h => h)
  have kp4 := hr.box p4 _ (by first | exact Bx.set_same _ _ _ | (simp only [Bx.set_same]; rfl)); dsimp only [Value.cells] at kp4; obtain ⟨gp4, kp4⟩ := kp4
  have m1 := hr.mod
  clear hr
  go_upto_region 1 with fail
  have Lkr := lt_size kr
  have Lkp4 := lt_size kp4
  refine wp_pass0 (C := fun _ _ v => ∃ (i : Nat) (x : Nd), v = .int .i64 (i : Int) ∧ L[i]? = some x ∧ x.id = id) (κ := fun i => [0, 0, 2, 0].getD i 0) [0, 1, 2, 3] (by kernel_rfl) (by kernel_rfl) (fun _ _ d _ _ h => by cases d <;> exact h) ?_
  (refine TD.val0 (v := ?v13) (by simp only [List.getElem?_toArray, List.getElem?_cons_succ, List.getElem?_cons_zero]; rfl) rfl ?hw13 (fun w1 => ?hy13) ?hn13; (case hw13 => rfl); (case hy13 => (go_simp; (try with_reducible rfl))); (try simp only [Act.put, List.setIfInBounds_toArray, List.set_cons_zero, List.set_cons_succ]))
  (refine TD.val0 (v := ?v14) (by simp only [List.getElem?_toArray, List.getElem?_cons_succ, List.getElem?_cons_zero]; rfl) rfl ?hw14 (fun w1 => ?hy14) ?hn14; (case hw14 => rfl); (case hy14 => (go_simp; (try with_reducible rfl))); (try simp only [Act.put, List.setIfInBounds_toArray, List.set_cons_zero, List.set_cons_succ]))
  (refine TD.call (f := ?f15) (args := ?r15) (Mod.refl _ _) (by simp only [List.getElem?_toArray, List.getElem?_cons_succ, List.getElem?_cons_zero]; rfl) rfl ?hw15 (fun w1 => ?hy15) ?hsp15 ?hn15; (case hw15 => rfl); (case hy15 => (go_simp; (first | with_reducible rfl | (constructor <;> with_reducible rfl)))); (case hsp15 => (intro wq hSq; have krq := hSq.at kr (fun h => h); have kp4q := hSq.at kp4 (fun h => h); exact (HAT.out wq (m1.then0 hSq)).mono (fun e w' h => by obtain ⟨⟨i, x, h1, h2, h3⟩, h4⟩ := h; exact ⟨_, h1, ⟨i, x, rfl, h2, h3⟩, h4⟩))); rintro _ ⟨i, x, rfl, hx, hxi⟩; (try simp only [Act.put, List.setIfInBounds_toArray, List.set_cons_zero, List.set_cons_succ]))
  (refine TD.val0 (v := ?v16) (by simp only [List.getElem?_toArray, List.getElem?_cons_succ, List.getElem?_cons_zero]; rfl) rfl ?hw16 (fun w1 => ?hy16) ?hn16; (case hw16 => rfl); (case hy16 => (go_simp; (try with_reducible rfl))); (try simp only [Act.put, List.setIfInBounds_toArray, List.set_cons_zero, List.set_cons_succ]))
  refine TD.nil (fun w2 hr => ?_)
  have kr := hr.mod.at kr (fun h => h)
  have kp4 := hr.mod.at kp4 (fun h => h)
  have m2 := m1.then0 hr.mod
  clear hr HAT
  have hi := (List.getElem?_eq_some_iff.1 hx).1
  obtain ⟨g, o, C, U, fr, rfl, kl, he, hle⟩ := (hs.mod0 m2).block hx
  obtain ⟨e1, e2⟩ := rn_part he
  have d1 : o + i * 3 + 2 ≤ C.size := by omega
  have HX := Lib.hid (And.intro hx hxi)
  clear hs hx hxi he hle e2
  go_upto_region 4 with fail
  have Lkl := lt_size kl
  have Lkr := lt_size kr
  have Lkp4 := lt_size kp4
  refine wp_pass0 (C := fun _ _ _ => False) (κ := fun i => [0, 0, 0, 1, 0, 0, 0, 1, 3, 4].getD i 0) [0, 1, 2, 3, 4, 5, 6, 7, 8, 9] (by kernel_rfl) (by kernel_rfl) (fun _ _ d _ _ h => by cases d <;> exact h) ?_
  (refine TD.val0 (v := ?v17) (by simp only [List.getElem?_toArray, List.getElem?_cons_succ, List.getElem?_cons_zero]; rfl) rfl ?hw17 (fun w1 => ?hy17) ?hn17; (case hw17 => rfl); (case hy17 => (go_simp; (try with_reducible rfl))); (try simp only [Act.put, List.setIfInBounds_toArray, List.set_cons_zero, List.set_cons_succ]))
  (refine TD.val0 (v := ?v18) (by simp only [List.getElem?_toArray, List.getElem?_cons_succ, List.getElem?_cons_zero]; rfl) rfl ?hw18 (fun w1 => ?hy18) ?hn18; (case hw18 => rfl); (case hy18 => (go_simp; (try with_reducible rfl))); (try simp only [Act.put, List.setIfInBounds_toArray, List.set_cons_zero, List.set_cons_succ]))
  (refine TD.val0 (v := ?v19) (by simp only [List.getElem?_toArray, List.getElem?_cons_succ, List.getElem?_cons_zero]; rfl) rfl ?hw19 (fun w1 => ?hy19) ?hn19; (case hw19 => rfl); (case hy19 => (go_simp; (try with_reducible rfl))); (try simp only [Act.put, List.setIfInBounds_toArray, List.set_cons_zero, List.set_cons_succ]))
  (refine TD.load (v := ?v20) (p := ?p20) (Mod.refl _ _) (by simp only [List.getElem?_toArray, List.getElem?_cons_succ, List.getElem?_cons_zero]; rfl) rfl ?hw20 rfl ?hx20 (fun wq hSq => ?hy20) ?hn20; (case hw20 => rfl); (case hx20 => (simp only [Act.eval, Array.getD_eq_getD_getElem?, List.getElem?_toArray, List.getElem?_cons_succ, List.getElem?_cons_zero, Option.getD_some]; (try rfl))); (case hy20 => (have klq := hSq.at kl (fun h => h); have krq := hSq.at kr (fun h => h); have kp4q := hSq.at kp4 (fun h => h); go_simp; (try with_reducible rfl))); (try simp only [Act.put, List.setIfInBounds_toArray, List.set_cons_zero, List.set_cons_succ]))
  (refine TD.val0 (v := ?v21) (by simp only [List.getElem?_toArray, List.getElem?_cons_succ, List.getElem?_cons_zero]; rfl) rfl ?hw21 (fun w1 => ?hy21) ?hn21; (case hw21 => rfl); (case hy21 => (go_simp; (try with_reducible rfl))); (try simp only [Act.put, List.setIfInBounds_toArray, List.set_cons_zero, List.set_cons_succ]))
  (refine TD.val0 (v := ?v22) (by simp only [List.getElem?_toArray, List.getElem?_cons_succ, List.getElem?_cons_zero]; rfl) rfl ?hw22 (fun w1 => ?hy22) ?hn22; (case hw22 => rfl); (case hy22 => (go_simp; (try with_reducible rfl))); (try simp only [Act.put, List.setIfInBounds_toArray, List.set_cons_zero, List.set_cons_succ]))
  (refine TD.val0 (v := ?v23) (by simp only [List.getElem?_toArray, List.getElem?_cons_succ, List.getElem?_cons_zero]; rfl) rfl ?hw23 (fun w1 => ?hy23) ?hn23; (case hw23 => rfl); (case hy23 => (go_simp; (try with_reducible rfl))); (try simp only [Act.put, List.setIfInBounds_toArray, List.set_cons_zero, List.set_cons_succ]))
  (refine TD.load (v := ?v24) (p := ?p24) (Mod.refl _ _) (by simp only [List.getElem?_toArray, List.getElem?_cons_succ, List.getElem?_cons_zero]; rfl) rfl ?hw24 rfl ?hx24 (fun wq hSq => ?hy24) ?hn24; (case hw24 => rfl); (case hx24 => (simp only [Act.eval, Array.getD_eq_getD_getElem?, List.getElem?_toArray, List.getElem?_cons_succ, List.getElem?_cons_zero, Option.getD_some]; (try rfl))); (case hy24 => (have klq := hSq.at kl (fun h => h); have krq := hSq.at kr (fun h => h); have kp4q := hSq.at kp4 (fun h => h); go_simp; (try with_reducible rfl))); (try simp only [Act.put, List.setIfInBounds_toArray, List.set_cons_zero, List.set_cons_succ]))
  (refine TD.allocB (by simp only [List.getElem?_toArray, List.getElem?_cons_succ, List.getElem?_cons_zero]; rfl) rfl ?hw25 rfl rfl alRk (fun p7 hp7 => ?hn25); (case hw25 => rfl); (try simp only [Act.put, List.setIfInBounds_toArray, List.set_cons_zero, List.set_cons_succ]))
  (refine TD.storeB (d := ?d26) (T := ?T26) (y := ?y26) (p := ?p26) (b := ?b26) (v := ?v26) (by simp only [List.getElem?_toArray, List.getElem?_cons_succ, List.getElem?_cons_zero]; rfl) rfl ?hw26 ?hd26 ?hop26 ?hev26 ?hx26 ?hb26 ?htag26 (fun w1 hb1 => ?hy26) ?hn26; (case hw26 => rfl); (case hd26 => rfl); (case hop26 => rfl); (case hev26 => (simp only [Act.eval, Array.getD_eq_getD_getElem?, List.getElem?_toArray, List.getElem?_cons_succ, List.getElem?_cons_zero, Option.getD_some]; (try rfl))); (case hx26 => (simp only [Act.eval, Array.getD_eq_getD_getElem?, List.getElem?_toArray, List.getElem?_cons_succ, List.getElem?_cons_zero, Option.getD_some]; (try rfl))); (case hb26 => first | exact Bx.set_same _ _ _ | (simp only [Bx.set_same]; rfl)); (case hy26 => (go_simp; (try with_reducible rfl))); (try simp only [Act.put, List.setIfInBounds_toArray, List.set_cons_zero, List.set_cons_succ]))
  refine TD.nil (fun w3 hr => ?_)
  have kl := hr.mod.at kl (fun h => h)
  have kr := hr.mod.at kr (fun h => h)
  have kp4 := hr.mod.at kp4 (fun h => h)
  have kp7 := hr.box p7 _ (by first | exact Bx.set_same _ _ _ | (simp only [Bx.set_same]; rfl)); dsimp only [Value.cells] at kp7; obtain ⟨gp7, kp7⟩ := kp7
  have m3 := m2.then0 hr.mod
  have sw3 := m3.size
  clear hr kl e1 d1
  have hO3 := HO.out.mod0 m3
  have hi1 : i + 1 ≤ L.length := hi
  have hw1 : IntKind.i64.wrap ((i : Int) + 1) = ((i + 1 : Nat) : Int) := by
    rw [IntKind.wrap_i64]
    omega
  obtain ⟨at1, ct1, hq1, hs1, hb1⟩ := own_takeR rnT hO3 (k := i) (by omega)
  obtain ⟨at2, ct2, hq2, hs2, hb2⟩ := own_dropR rnT hO3 hi1
  have hkl : (L.take i).length = i := by rw [List.length_take]; omega
  have hdl : (L.drop (i + 1)).length = L.length - (i + 1) := by rw [List.length_drop]
  rw [hdl] at hq2
  have hB : ∀ b o, at1 = some ⟨b, o, none⟩ ∨ at2 = some ⟨b, o, none⟩ → b < w.heap.size := fun b o e => e.elim (fun e => (HO.out.lt _ (hb1 b o e)).2) (fun e => (HO.out.lt _ (hb2 b o e)).2)
  have HS := Lib.hid (And.intro hs1 (And.intro hs2 (And.intro hkl (And.intro hdl hB))))
  clear hs1 hs2 hkl hdl hB hb1 hb2 hO3
  replace hq2 : ∀ w2, (Instr.sliceAt 67 _ (some (.int .i64 ((i : Int) + 1))) none none).run Try.prog w2 = _ := hq2
  have htl : (L.take i).length = i := HS.out.2.2.1
  go_upto_region 5 with fail
  have Lkr := lt_size kr
  have Lkp4 := lt_size kp4
  have Lkp7 := lt_size kp7
  refine wp_epass (T0 := fun _ => False) (K := fun _ _ => True) (κ := fun i => [0, 0, 0, 0, 0, 0, 0, 6, 0, 0, 0, 0, 0, 0, 0, 6, 0, 0, 6].getD i 0) (υ := fun i => [[], [], [], [], [], [], [], [], [], [], [], [], [], [], [], [], [], [], []].getD i []) [0, 1, 2, 3, 4, 5, 6, 7, 8, 9, 10, 11, 12, 13, 14, 15, 16, 17] [18] (by kernel_rfl) (by kernel_rfl) (Good.true).cl (trivial) (fun _ h => h.elim) ?_
  have gK := Good.true
  (refine TG.v0 (v := ?v27) (by simp only [List.getElem?_toArray, List.getElem?_cons_succ, List.getElem?_cons_zero]; rfl) rfl ?hw27 (fun w1 => ?hy27) ?hn27; (case hw27 => rfl); (case hy27 => (go_simp; (try with_reducible rfl))); (try simp only [Act.put, List.setIfInBounds_toArray, List.set_cons_zero, List.set_cons_succ]))
  (refine TG.v0 (v := ?v28) (by simp only [List.getElem?_toArray, List.getElem?_cons_succ, List.getElem?_cons_zero]; rfl) rfl ?hw28 (fun w1 => ?hy28) ?hn28; (case hw28 => rfl); (case hy28 => (go_simp; (try with_reducible rfl))); (try simp only [Act.put, List.setIfInBounds_toArray, List.set_cons_zero, List.set_cons_succ]))
  (refine TG.v0 (v := ?v29) (by simp only [List.getElem?_toArray, List.getElem?_cons_succ, List.getElem?_cons_zero]; rfl) rfl ?hw29 (fun w1 => ?hy29) ?hn29; (case hw29 => rfl); (case hy29 => (go_simp; (try with_reducible rfl))); (try simp only [Act.put, List.setIfInBounds_toArray, List.set_cons_zero, List.set_cons_succ]))
  (refine TG.v0 (v := ?v30) (by simp only [List.getElem?_toArray, List.getElem?_cons_succ, List.getElem?_cons_zero]; rfl) rfl ?hw30 (fun w1 => ?hy30) ?hn30; (case hw30 => rfl); (case hy30 => (go_simp; (try with_reducible rfl))); (try simp only [Act.put, List.setIfInBounds_toArray, List.set_cons_zero, List.set_cons_succ]))
  (refine TG.load (v := ?v31) (p := ?p31) (by simp only [List.getElem?_toArray, List.getElem?_cons_succ, List.getElem?_cons_zero]; rfl) rfl ?hw31 rfl ?hx31 (fun wq hSq => ?hy31) ?hn31; (case hw31 => rfl); (case hx31 => (simp only [Act.eval, Array.getD_eq_getD_getElem?, List.getElem?_toArray, List.getElem?_cons_succ, List.getElem?_cons_zero, Option.getD_some]; (try rfl))); (case hy31 => (have krq := hSq.at kr (by intro hT; first | exact hT | exact absurd hT (by assumption) | (simp only at hT; omega)); have kp4q := hSq.at kp4 (by intro hT; first | exact hT | exact absurd hT (by assumption) | (simp only at hT; omega)); have kp7q := hSq.at kp7 (by intro hT; first | exact hT | exact absurd hT (by assumption) | (simp only at hT; omega)); go_simp; (try with_reducible rfl))); (try simp only [Act.put, List.setIfInBounds_toArray, List.set_cons_zero, List.set_cons_succ]))
  (refine TG.v0 (v := ?v32) (by simp only [List.getElem?_toArray, List.getElem?_cons_succ, List.getElem?_cons_zero]; rfl) rfl ?hw32 (fun w1 => ?hy32) ?hn32; (case hw32 => rfl); (case hy32 => (go_simp; (try with_reducible rfl))); (try simp only [Act.put, List.setIfInBounds_toArray, List.set_cons_zero, List.set_cons_succ]))
  (refine TG.slice (by simp only [List.getElem?_toArray, List.getElem?_cons_succ, List.getElem?_cons_zero]; rfl) rfl ?hw33 rfl ?hs33 ?hl33 ?hh33 ?hm33 hq1 ?hn33; (case hw33 => rfl); (case hs33 => (simp only [Act.eval, Array.getD_eq_getD_getElem?, List.getElem?_toArray, List.getElem?_cons_succ, List.getElem?_cons_zero, Option.getD_some]; (try rfl))); (case hl33 => first | rfl | (simp only [Option.map_some, Act.eval, Array.getD_eq_getD_getElem?, List.getElem?_toArray, List.getElem?_cons_succ, List.getElem?_cons_zero, Option.getD_some]; (try rfl))); (case hh33 => first | rfl | (simp only [Option.map_some, Act.eval, Array.getD_eq_getD_getElem?, List.getElem?_toArray, List.getElem?_cons_succ, List.getElem?_cons_zero, Option.getD_some]; (try rfl))); (case hm33 => rfl); (try simp only [Act.put, List.setIfInBounds_toArray, List.set_cons_zero, List.set_cons_succ]))
  (refine TG.appK (X := ?X34) (Y := ?Y34) (OwnL w.heap.size (L.take i)) (goodOwn w.heap.size (L.take i)) (by simp only [List.getElem?_toArray, List.getElem?_cons_succ, List.getElem?_cons_zero]; rfl) rfl ?hw34 rfl ?hx34 ?hz34 (fun T wq kq ltq hSq ub => ?hy34) ?hn34; (case hw34 => rfl); (case hx34 => (simp only [Act.eval, Array.getD_eq_getD_getElem?, List.getElem?_toArray, List.getElem?_cons_succ, List.getElem?_cons_zero, Option.getD_some]; (try rfl))); (case hz34 => (simp only [Act.eval, Array.getD_eq_getD_getElem?, List.getElem?_toArray, List.getElem?_cons_succ, List.getElem?_cons_zero, Option.getD_some]; (try rfl))); (case hy34 => (have krq := hSq.at kr (by intro hT; first | exact hT | exact absurd hT (by assumption) | (simp only at hT; omega)); have kp4q := hSq.at kp4 (by intro hT; first | exact hT | exact absurd hT (by assumption) | (simp only at hT; omega)); have kp7q := hSq.at kp7 (by intro hT; first | exact hT | exact absurd hT (by assumption) | (simp only at hT; omega)); have hh := app_nil (B0 := w.heap.size) (c := ct1) (T := T) (HS.out.1.mod0 hSq) (by rw [HS.out.2.2.1]; omega) (Nat.le_trans sw3 hSq.size); rw [HS.out.2.2.1] at hh; exact hh)); rintro v34 ⟨wI, TI, hI⟩; replace gK := (goodOwn w.heap.size (L.take i)) v34; skip; (try clear hI TI wI); (try simp only [Act.put, List.setIfInBounds_toArray, List.set_cons_zero, List.set_cons_succ]))
  (refine TG.v0 (v := ?v35) (by simp only [List.getElem?_toArray, List.getElem?_cons_succ, List.getElem?_cons_zero]; rfl) rfl ?hw35 (fun w1 => ?hy35) ?hn35; (case hw35 => rfl); (case hy35 => (go_simp; (try with_reducible rfl))); (try simp only [Act.put, List.setIfInBounds_toArray, List.set_cons_zero, List.set_cons_succ]))
  (refine TG.v0 (v := ?v36) (by simp only [List.getElem?_toArray, List.getElem?_cons_succ, List.getElem?_cons_zero]; rfl) rfl ?hw36 (fun w1 => ?hy36) ?hn36; (case hw36 => rfl); (case hy36 => (go_simp; (try with_reducible rfl))); (try simp only [Act.put, List.setIfInBounds_toArray, List.set_cons_zero, List.set_cons_succ]))
  (refine TG.v0 (v := ?v37) (by simp only [List.getElem?_toArray, List.getElem?_cons_succ, List.getElem?_cons_zero]; rfl) rfl ?hw37 (fun w1 => ?hy37) ?hn37; (case hw37 => rfl); (case hy37 => (go_simp; (try with_reducible rfl))); (try simp only [Act.put, List.setIfInBounds_toArray, List.set_cons_zero, List.set_cons_succ]))
  (refine TG.load (v := ?v38) (p := ?p38) (by simp only [List.getElem?_toArray, List.getElem?_cons_succ, List.getElem?_cons_zero]; rfl) rfl ?hw38 rfl ?hx38 (fun wq hSq => ?hy38) ?hn38; (case hw38 => rfl); (case hx38 => (simp only [Act.eval, Array.getD_eq_getD_getElem?, List.getElem?_toArray, List.getElem?_cons_succ, List.getElem?_cons_zero, Option.getD_some]; (try rfl))); (case hy38 => (have krq := hSq.at kr (by intro hT; first | exact hT | exact absurd hT (by assumption) | (simp only at hT; omega)); have kp4q := hSq.at kp4 (by intro hT; first | exact hT | exact absurd hT (by assumption) | (simp only at hT; omega)); have kp7q := hSq.at kp7 (by intro hT; first | exact hT | exact absurd hT (by assumption) | (simp only at hT; omega)); go_simp; (try with_reducible rfl))); (try simp only [Act.put, List.setIfInBounds_toArray, List.set_cons_zero, List.set_cons_succ]))
  (refine TG.v0 (v := ?v39) (by simp only [List.getElem?_toArray, List.getElem?_cons_succ, List.getElem?_cons_zero]; rfl) rfl ?hw39 (fun w1 => ?hy39) ?hn39; (case hw39 => rfl); (case hy39 => (go_simp; (try with_reducible rfl))); (try simp only [Act.put, List.setIfInBounds_toArray, List.set_cons_zero, List.set_cons_succ]))
  (refine TG.v0 (v := ?v40) (by simp only [List.getElem?_toArray, List.getElem?_cons_succ, List.getElem?_cons_zero]; rfl) rfl ?hw40 (fun w1 => ?hy40) ?hn40; (case hw40 => rfl); (case hy40 => (go_simp; (try with_reducible rfl))); (try simp only [Act.put, List.setIfInBounds_toArray, List.set_cons_zero, List.set_cons_succ]))
  (refine TG.slice (by simp only [List.getElem?_toArray, List.getElem?_cons_succ, List.getElem?_cons_zero]; rfl) rfl ?hw41 rfl ?hs41 ?hl41 ?hh41 ?hm41 hq2 ?hn41; (case hw41 => rfl); (case hs41 => (simp only [Act.eval, Array.getD_eq_getD_getElem?, List.getElem?_toArray, List.getElem?_cons_succ, List.getElem?_cons_zero, Option.getD_some]; (try rfl))); (case hl41 => first | rfl | (simp only [Option.map_some, Act.eval, Array.getD_eq_getD_getElem?, List.getElem?_toArray, List.getElem?_cons_succ, List.getElem?_cons_zero, Option.getD_some]; (try rfl))); (case hh41 => first | rfl | (simp only [Option.map_some, Act.eval, Array.getD_eq_getD_getElem?, List.getElem?_toArray, List.getElem?_cons_succ, List.getElem?_cons_zero, Option.getD_some]; (try rfl))); (case hm41 => rfl); (try simp only [Act.put, List.setIfInBounds_toArray, List.set_cons_zero, List.set_cons_succ]))
  (refine TG.appK (X := ?X42) (Y := ?Y42) (OwnL w.heap.size (L.take i ++ L.drop (i + 1))) (goodOwn w.heap.size (L.take i ++ L.drop (i + 1))) (by simp only [List.getElem?_toArray, List.getElem?_cons_succ, List.getElem?_cons_zero]; rfl) rfl ?hw42 rfl ?hx42 ?hz42 (fun T wq kq ltq hSq ub => ?hy42) ?hn42; (case hw42 => rfl); (case hx42 => (simp only [Act.eval, Array.getD_eq_getD_getElem?, List.getElem?_toArray, List.getElem?_cons_succ, List.getElem?_cons_zero, Option.getD_some]; (try rfl))); (case hz42 => (simp only [Act.eval, Array.getD_eq_getD_getElem?, List.getElem?_toArray, List.getElem?_cons_succ, List.getElem?_cons_zero, Option.getD_some]; (try rfl))); (case hy42 => (have krq := hSq.at kr (by intro hT; first | exact hT | exact absurd hT (by assumption) | (simp only at hT; omega)); have kp4q := hSq.at kp4 (by intro hT; first | exact hT | exact absurd hT (by assumption) | (simp only at hT; omega)); have kp7q := hSq.at kp7 (by intro hT; first | exact hT | exact absurd hT (by assumption) | (simp only at hT; omega)); have hh := app_own (c := ct2) kq (HS.out.2.1.mod0 hSq) (by rw [HS.out.2.2.1, HS.out.2.2.2.1]; omega) (Nat.le_trans sw3 hSq.size); rw [HS.out.2.2.2.1] at hh; exact hh)); rintro v42 ⟨wI, TI, hI⟩; replace gK := (goodOwn w.heap.size (L.take i ++ L.drop (i + 1))) v42; skip; (try clear hI TI wI); (try simp only [Act.put, List.setIfInBounds_toArray, List.set_cons_zero, List.set_cons_succ]))
  (refine TG.v0 (v := ?v43) (by simp only [List.getElem?_toArray, List.getElem?_cons_succ, List.getElem?_cons_zero]; rfl) rfl ?hw43 (fun w1 => ?hy43) ?hn43; (case hw43 => rfl); (case hy43 => (go_simp; (try with_reducible rfl))); (try simp only [Act.put, List.setIfInBounds_toArray, List.set_cons_zero, List.set_cons_succ]))
  (refine TG.v0 (v := ?v44) (by simp only [List.getElem?_toArray, List.getElem?_cons_succ, List.getElem?_cons_zero]; rfl) rfl ?hw44 (fun w1 => ?hy44) ?hn44; (case hw44 => rfl); (case hy44 => (go_simp; (try with_reducible rfl))); (try simp only [Act.put, List.setIfInBounds_toArray, List.set_cons_zero, List.set_cons_succ]))
  refine TG.nil (fun w4 ⟨TR, hr⟩ => ?_)
  have kr := hr.mod.at kr (by intro hT; first | exact hT | exact absurd hT (by assumption) | (simp only at hT; omega))
  have kp4 := hr.mod.at kp4 (by intro hT; first | exact hT | exact absurd hT (by assumption) | (simp only at hT; omega))
  have kp7 := hr.mod.at kp7 (by intro hT; first | exact hT | exact absurd hT (by assumption) | (simp only at hT; omega))
  clear gK
  have mw := m3.then0 hr.mod
  have hO6 := hr.k.1
  obtain ⟨a6, c6, hv6, _⟩ := hO6.at rnT
  generalize hn6 : (L.take i ++ L.drop (i + 1)).length = n6 at hv6
  subst hv6
  have hne4 : ∀ g, (Value.slice a6 n6 c6).ownBlock = some g → g ≠ p4 := fun g hg => by
    rcases hO6.2 with ⟨e, _⟩ | ⟨g', cap, cur, e, _, hg', _⟩
    · rw [e] at hg
      cases hg
    · rw [e] at hg
      cases hg
      exact ne_of_obj hg' kp4 (obj_ty (by decide))
  have hlt6 := hO6.lt
  have hpw := HT.out.1 p HT.out.2.1
  have HO6 := Lib.hid (And.intro hO6 (And.intro hne4 hlt6))
  have hp4 : p4 ≠ p := by omega
  have hp7 : p7 ≠ p := by omega
  clear hO6 hne4 hlt6 hr hn6 hq1 hq2 htl
  refine TE.step (by simp only [List.getElem?_toArray, List.getElem?_cons_succ, List.getElem?_cons_zero]; rfl) rfl ?_
  (refine eff_store (X := ?X45) (Y := ?Y45) (w' := ?w45) (by simp only [List.getElem?_toArray, List.getElem?_cons_succ, List.getElem?_cons_zero]; rfl) ?hw45 rfl ?hx45 ?hz45 ?hy45 ?hn45; (case hw45 => rfl); (case hx45 => (simp only [Act.eval, Array.getD_eq_getD_getElem?, List.getElem?_toArray, List.getElem?_cons_succ, List.getElem?_cons_zero, Option.getD_some]; (try rfl))); (case hz45 => (simp only [Act.eval, Array.getD_eq_getD_getElem?, List.getElem?_toArray, List.getElem?_cons_succ, List.getElem?_cons_zero, Option.getD_some]; (try rfl))); (case hy45 => (go_simp; (try with_reducible rfl))))
  (first | refine TE.nil_set kr (fun wn kr mS => ?_) | refine TE.nil_setCell kr (fun wn kr mS => ?_))
  (try simp only [Array.setIfInBounds, List.setIfInBounds_toArray, List.set_cons_zero, List.set_cons_succ] at kr)
  (try simp only [Act.put, List.setIfInBounds_toArray, List.set_cons_zero, List.set_cons_succ])
  replace kr : wn.heap[p]? = some (.cells #[.slice a6 n6 c6] 69 (0, 0)) := kr
  replace kp4 := mS.at_ne kp4 hp4
  replace kp7 := mS.at_ne kp7 hp7
  replace kp4 : wn.heap[p4]? = some (.cells #[.int .u64 0, .int .u64 0] 30 (0, 0)) := kp4
  have m5 : Mod (fun i => i = p) w wn := (mw.mono (fun _ _ e => e.elim)).then mS (fun _ _ e => e)
  have HO7 := Lib.hid (HO6.out.1.mod mS (fun g hg e => by have := (HO6.out.2.2 g hg).1; omega))
  have HP := Lib.hid (And.intro hp4 (And.intro hp7 hpw))
  clear mS mw hp4 hp7 hpw
  go_upto_region 6 with fail
  have Lkr := lt_size kr
  have Lkp7 := lt_size kp7
  have Lkp4 := lt_size kp4
  refine wp_pass0 (C := fun _ _ _ => False) (κ := fun i => [1, 5, 0].getD i 0) [0, 1, 2] (by kernel_rfl) (by kernel_rfl) (fun _ _ d _ _ h => by cases d <;> exact h) ?_
  (refine TD.load (v := ?v46) (p := ?p46) (Mod.refl _ _) (by simp only [List.getElem?_toArray, List.getElem?_cons_succ, List.getElem?_cons_zero]; rfl) rfl ?hw46 rfl ?hx46 (fun wq hSq => ?hy46) ?hn46; (case hw46 => rfl); (case hx46 => (simp only [Act.eval, Array.getD_eq_getD_getElem?, List.getElem?_toArray, List.getElem?_cons_succ, List.getElem?_cons_zero, Option.getD_some]; (try rfl))); (case hy46 => (have krq := hSq.at kr (fun h => h); have kp7q := hSq.at kp7 (fun h => h); have kp4q := hSq.at kp4 (fun h => h); go_simp; (try with_reducible rfl))); (try simp only [Act.put, List.setIfInBounds_toArray, List.set_cons_zero, List.set_cons_succ]))
  refine TD.eff (by simp only [List.getElem?_toArray, List.getElem?_cons_succ, List.getElem?_cons_zero]; rfl) rfl (fun w7 hr => ?_)
  have kr := hr.mod.at kr (fun h => h)
  have kp7 := hr.mod.at kp7 (fun h => h)
  have kp4 := hr.mod.at kp4 (fun h => h)
  have m7 := m5.then0 hr.mod
  have HO8 := Lib.hid (HO7.out.mod0 hr.mod)
  clear hr HO7 m5
  (refine eff_store (X := ?X48) (Y := ?Y48) (w' := ?w48) (by simp only [List.getElem?_toArray, List.getElem?_cons_succ, List.getElem?_cons_zero]; rfl) ?hw48 rfl ?hx48 ?hz48 ?hy48 ?hn48; (case hw48 => rfl); (case hx48 => (simp only [Act.eval, Array.getD_eq_getD_getElem?, List.getElem?_toArray, List.getElem?_cons_succ, List.getElem?_cons_zero, Option.getD_some]; (try rfl))); (case hz48 => (simp only [Act.eval, Array.getD_eq_getD_getElem?, List.getElem?_toArray, List.getElem?_cons_succ, List.getElem?_cons_zero, Option.getD_some]; (try rfl))); (case hy48 => (go_simp; (try with_reducible rfl))))
  (first | refine TE.mid_set kp4 (fun wn kp4 mS => ?_) | refine TE.mid_setCell kp4 (fun wn kp4 mS => ?_))
  (try simp only [Array.setIfInBounds, List.setIfInBounds_toArray, List.set_cons_zero, List.set_cons_succ] at kp4)
  have kr := mS.at_ne kr (Ne.symm HP.out.1)
  have mF : Mod (fun i => i = p) w wn := m7.then mS (fun i hi e => by omega)
  have HO9 := Lib.hid (HO8.out.mod mS (fun g hg e => HO6.out.2.1 g hg e))
  clear mS m7 HO8
  (refine TE.val0 (v := ?v49) (by simp only [List.getElem?_toArray, List.getElem?_cons_succ, List.getElem?_cons_zero]; rfl) ?hw49 (fun w1 => ?hy49) ?hn49; (case hw49 => rfl); (case hy49 => (go_simp; (try with_reducible rfl))); (try simp only [Act.put, List.setIfInBounds_toArray, List.set_cons_zero, List.set_cons_succ]))
  refine TE.nil ?_
  go_wp2_with fail
  have hO9 := HO9.out
  have hsz := mF.size
  have hlt9 := hO9.lt
  rw [eraseIdx_at] at hO9
  refine bodyPost_ret (results_cell2 (x := .agg (rkc x.r)) rfl rfl (by rw [ldRk]; simp [kp4, rkc])) rfl ⟨i, x, HX.out.1, HX.out.2, rfl, fun j => T j ∨ (w.heap.size ≤ j ∧ j < wn.heap.size), ⟨_, kr, ⟨hO9.1, ?_⟩, .inl HT.out.2.1, fun g hg => .inr (hlt9 g hg)⟩, mF.mono (fun j _ e => by rw [e]; exact HT.out.2.1), fun j hj => hj.elim .inl (fun h => .inr h.1), fun j hj => hj.elim (fun h => Nat.lt_of_lt_of_le (HT.out.1 j h) hsz) (fun h => h.2)⟩
  rcases hO9.2 with h | ⟨g, cap, cur, e, hb, r⟩
  · exact .inl h
  · exact .inr ⟨g, cap, cur, e, Nat.zero_le _, r⟩
set_option maxRecDepth 20000 in
set_option maxHeartbeats 3200000 in
theorem rtop_c {p : Nat} {x : Nd} {L : List Nd} {T : Nat → Prop} {w : World} (h : RAt p (x :: L) T w) : Calls Try.prog 12 #[ptrV p] w fun e w' => e = .returned (.tuple #[.agg (rkc x.r), .int .i64 x.id.toInt, .bool true]) ∧ Mod (fun _ => False) w w' := by
  obtain ⟨a, c, kr, hs⟩ := h.sl
  clear h
  obtain ⟨g, o, C, U, fr, rfl, kl, he, hle⟩ := hs.block (i := 0) rfl
  obtain ⟨e1, e2⟩ := rn_part he
  simp only [Nat.zero_mul, Nat.add_zero] at e1 e2 hle
  have d1 : o + 2 ≤ C.size := by omega
  rw [List.length_cons] at kr
  have hz : ((L.length : Int) + 1 == 0) = false := by
    rw [beq_eq_false_iff_ne]
    omega
  have HKR := Lib.hid (And.intro kr kl)
  clear hs he hle
  go_enter Try.func12, Try.ntmps12
  go_upto_region 0 with fail
  have Lkr := lt_size kr
  have Lkl := lt_size kl
  refine wp_pass0 (C := fun _ _ _ => False) (κ := fun i => [3, 0, 0].getD i 0) [0, 1, 2] (by kernel_rfl) (by kernel_rfl) (fun _ _ d _ _ h => by cases d <;> exact h) ?_
  (refine TD.allocB (by simp only [List.getElem?_toArray, List.getElem?_cons_succ, List.getElem?_cons_zero]; rfl) rfl ?hw50 rfl rfl alRk (fun p2 hp2 => ?hn50); (case hw50 => rfl); (try simp only [Act.put, List.setIfInBounds_toArray, List.set_cons_zero, List.set_cons_succ]))
  (refine TD.val0 (v := ?v51) (by simp only [List.getElem?_toArray, List.getElem?_cons_succ, List.getElem?_cons_zero]; rfl) rfl ?hw51 (fun w1 => ?hy51) ?hn51; (case hw51 => rfl); (case hy51 => (go_simp; (try with_reducible rfl))); (try simp only [Act.put, List.setIfInBounds_toArray, List.set_cons_zero, List.set_cons_succ]))
  (refine TD.val0 (v := ?v52) (by simp only [List.getElem?_toArray, List.getElem?_cons_succ, List.getElem?_cons_zero]; rfl) rfl ?hw52 (fun w1 => ?hy52) ?hn52; (case hw52 => rfl); (case hy52 => (go_simp; (try with_reducible rfl))); (try simp only [Act.put, List.setIfInBounds_toArray, List.set_cons_zero, List.set_cons_succ]))
  refine TD.nil (fun w1 hr => ?_)
  have kr := hr.mod.at kr (fun h => h)
  have kl := hr.mod.at kl (fun h => h)
  have kp2 := hr.box p2 _ (by first | exact Bx.set_same _ _ _ | (simp only [Bx.set_same]; rfl)); dsimp only [Value.cells] at kp2; obtain ⟨gp2, kp2⟩ := kp2
  have m1 := hr.mod
  clear hr
  replace kp2 : w1.heap[p2]? = some (.cells #[.int .u64 0, .int .u64 0] 30 (0, 0)) := kp2
  have hsz1 := lt_size HKR.out.1
  have hsz2 := lt_size HKR.out.2
  go_upto_region 3 with fail
  have hrp : p ≠ p2 := fun e => by omega
  have hgp : g ≠ p2 := fun e => by omega
  have Lkr := lt_size kr
  have Lkl := lt_size kl
  refine wp_gpass (T0 := fun i => i = p2) (K := fun T w => T p2 ∧ w.heap[p2]? = some (.cells #[.int .u64 0, .int .u64 0] 30 (0, 0))) (κ := fun i => [0, 0, 0, 0, 0, 0, 0, 0, 0, 0, 0, 0, 0, 0, 6, 0, 0].getD i 0) (υ := fun i => [[], [], [], [], [], [], [], [], [], [], [], [], [], [], [], [], []].getD i []) [0, 1, 2, 3, 4, 5, 6, 7, 8, 9, 10, 11, 12, 13, 14, 15, 16] (by kernel_rfl) (by kernel_rfl) (Good.at p2 (.cells #[.int .u64 0, .int .u64 0] 30 (0, 0))).cl (⟨rfl, kp2⟩) (fun i hi => by subst hi; exact lt_size kp2) ?_
  have gK := Good.at p2 (.cells #[.int .u64 0, .int .u64 0] 30 (0, 0))
  (refine TG.v0 (v := ?v53) (by simp only [List.getElem?_toArray, List.getElem?_cons_succ, List.getElem?_cons_zero]; rfl) rfl ?hw53 (fun w1 => ?hy53) ?hn53; (case hw53 => rfl); (case hy53 => (go_simp; (try with_reducible rfl))); (try simp only [Act.put, List.setIfInBounds_toArray, List.set_cons_zero, List.set_cons_succ]))
  (refine TG.v0 (v := ?v54) (by simp only [List.getElem?_toArray, List.getElem?_cons_succ, List.getElem?_cons_zero]; rfl) rfl ?hw54 (fun w1 => ?hy54) ?hn54; (case hw54 => rfl); (case hy54 => (go_simp; (try with_reducible rfl))); (try simp only [Act.put, List.setIfInBounds_toArray, List.set_cons_zero, List.set_cons_succ]))
  (refine TG.v0 (v := ?v55) (by simp only [List.getElem?_toArray, List.getElem?_cons_succ, List.getElem?_cons_zero]; rfl) rfl ?hw55 (fun w1 => ?hy55) ?hn55; (case hw55 => rfl); (case hy55 => (go_simp; (try with_reducible rfl))); (try simp only [Act.put, List.setIfInBounds_toArray, List.set_cons_zero, List.set_cons_succ]))
  (refine TG.load (v := ?v56) (p := ?p56) (by simp only [List.getElem?_toArray, List.getElem?_cons_succ, List.getElem?_cons_zero]; rfl) rfl ?hw56 rfl ?hx56 (fun wq hSq => ?hy56) ?hn56; (case hw56 => rfl); (case hx56 => (simp only [Act.eval, Array.getD_eq_getD_getElem?, List.getElem?_toArray, List.getElem?_cons_succ, List.getElem?_cons_zero, Option.getD_some]; (try rfl))); (case hy56 => (have krq := hSq.at kr (by intro hT; first | exact hT | exact absurd hT (by assumption) | (simp only at hT; omega)); have klq := hSq.at kl (by intro hT; first | exact hT | exact absurd hT (by assumption) | (simp only at hT; omega)); go_simp; (try with_reducible rfl))); (try simp only [Act.put, List.setIfInBounds_toArray, List.set_cons_zero, List.set_cons_succ]))
  (refine TG.v0 (v := ?v57) (by simp only [List.getElem?_toArray, List.getElem?_cons_succ, List.getElem?_cons_zero]; rfl) rfl ?hw57 (fun w1 => ?hy57) ?hn57; (case hw57 => rfl); (case hy57 => (go_simp; (try with_reducible rfl))); (try simp only [Act.put, List.setIfInBounds_toArray, List.set_cons_zero, List.set_cons_succ]))
  (refine TG.v0 (v := ?v58) (by simp only [List.getElem?_toArray, List.getElem?_cons_succ, List.getElem?_cons_zero]; rfl) rfl ?hw58 (fun w1 => ?hy58) ?hn58; (case hw58 => rfl); (case hy58 => (go_simp; (try with_reducible rfl))); (try simp only [Act.put, List.setIfInBounds_toArray, List.set_cons_zero, List.set_cons_succ]))
  (refine TG.load (v := ?v59) (p := ?p59) (by simp only [List.getElem?_toArray, List.getElem?_cons_succ, List.getElem?_cons_zero]; rfl) rfl ?hw59 rfl ?hx59 (fun wq hSq => ?hy59) ?hn59; (case hw59 => rfl); (case hx59 => (simp only [Act.eval, Array.getD_eq_getD_getElem?, List.getElem?_toArray, List.getElem?_cons_succ, List.getElem?_cons_zero, Option.getD_some]; (try rfl))); (case hy59 => (have krq := hSq.at kr (by intro hT; first | exact hT | exact absurd hT (by assumption) | (simp only at hT; omega)); have klq := hSq.at kl (by intro hT; first | exact hT | exact absurd hT (by assumption) | (simp only at hT; omega)); go_simp; (try with_reducible rfl))); (try simp only [Act.put, List.setIfInBounds_toArray, List.set_cons_zero, List.set_cons_succ]))
  (refine TG.v0 (v := ?v60) (by simp only [List.getElem?_toArray, List.getElem?_cons_succ, List.getElem?_cons_zero]; rfl) rfl ?hw60 (fun w1 => ?hy60) ?hn60; (case hw60 => rfl); (case hy60 => (go_simp; (try with_reducible rfl))); (try simp only [Act.put, List.setIfInBounds_toArray, List.set_cons_zero, List.set_cons_succ]))
  (refine TG.v0 (v := ?v61) (by simp only [List.getElem?_toArray, List.getElem?_cons_succ, List.getElem?_cons_zero]; rfl) rfl ?hw61 (fun w1 => ?hy61) ?hn61; (case hw61 => rfl); (case hy61 => (go_simp; (try with_reducible rfl))); (try simp only [Act.put, List.setIfInBounds_toArray, List.set_cons_zero, List.set_cons_succ]))
  (refine TG.v0 (v := ?v62) (by simp only [List.getElem?_toArray, List.getElem?_cons_succ, List.getElem?_cons_zero]; rfl) rfl ?hw62 (fun w1 => ?hy62) ?hn62; (case hw62 => rfl); (case hy62 => (go_simp; (try with_reducible rfl))); (try simp only [Act.put, List.setIfInBounds_toArray, List.set_cons_zero, List.set_cons_succ]))
  (refine TG.load (v := ?v63) (p := ?p63) (by simp only [List.getElem?_toArray, List.getElem?_cons_succ, List.getElem?_cons_zero]; rfl) rfl ?hw63 rfl ?hx63 (fun wq hSq => ?hy63) ?hn63; (case hw63 => rfl); (case hx63 => (simp only [Act.eval, Array.getD_eq_getD_getElem?, List.getElem?_toArray, List.getElem?_cons_succ, List.getElem?_cons_zero, Option.getD_some]; (try rfl))); (case hy63 => (have krq := hSq.at kr (by intro hT; first | exact hT | exact absurd hT (by assumption) | (simp only at hT; omega)); have klq := hSq.at kl (by intro hT; first | exact hT | exact absurd hT (by assumption) | (simp only at hT; omega)); go_simp; (try with_reducible rfl))); (try simp only [Act.put, List.setIfInBounds_toArray, List.set_cons_zero, List.set_cons_succ]))
  (refine TG.v0 (v := ?v64) (by simp only [List.getElem?_toArray, List.getElem?_cons_succ, List.getElem?_cons_zero]; rfl) rfl ?hw64 (fun w1 => ?hy64) ?hn64; (case hw64 => rfl); (case hy64 => (go_simp; (try with_reducible rfl))); (try simp only [Act.put, List.setIfInBounds_toArray, List.set_cons_zero, List.set_cons_succ]))
  (refine TG.v0 (v := ?v65) (by simp only [List.getElem?_toArray, List.getElem?_cons_succ, List.getElem?_cons_zero]; rfl) rfl ?hw65 (fun w1 => ?hy65) ?hn65; (case hw65 => rfl); (case hy65 => (go_simp; (try with_reducible rfl))); (try simp only [Act.put, List.setIfInBounds_toArray, List.set_cons_zero, List.set_cons_succ]))
  (refine TG.load (v := ?v66) (p := ?p66) (by simp only [List.getElem?_toArray, List.getElem?_cons_succ, List.getElem?_cons_zero]; rfl) rfl ?hw66 rfl ?hx66 (fun wq hSq => ?hy66) ?hn66; (case hw66 => rfl); (case hx66 => (simp only [Act.eval, Array.getD_eq_getD_getElem?, List.getElem?_toArray, List.getElem?_cons_succ, List.getElem?_cons_zero, Option.getD_some]; (try rfl))); (case hy66 => (have krq := hSq.at kr (by intro hT; first | exact hT | exact absurd hT (by assumption) | (simp only at hT; omega)); have klq := hSq.at kl (by intro hT; first | exact hT | exact absurd hT (by assumption) | (simp only at hT; omega)); go_simp; (try with_reducible rfl))); (try simp only [Act.put, List.setIfInBounds_toArray, List.set_cons_zero, List.set_cons_succ]))
  (refine TG.storeO (X := ?X67) (Y := ?Y67) (fun T w => T p2 ∧ w.heap[p2]? = some (.cells (rkc x.r) 30 (0, 0))) (Good.at p2 (.cells (rkc x.r) 30 (0, 0))) (by simp only [List.getElem?_toArray, List.getElem?_cons_succ, List.getElem?_cons_zero]; rfl) rfl ?hw67 rfl rfl ?hx67 ?hz67 (fun T wq kq => ?hy67) (fun _ => ?hn67); (case hw67 => rfl); (case hx67 => (simp only [Act.eval, Array.getD_eq_getD_getElem?, List.getElem?_toArray, List.getElem?_cons_succ, List.getElem?_cons_zero, Option.getD_some]; (try rfl))); (case hz67 => (simp only [Act.eval, Array.getD_eq_getD_getElem?, List.getElem?_toArray, List.getElem?_cons_succ, List.getElem?_cons_zero, Option.getD_some]; (try rfl))); (case hy67 => (obtain ⟨k1, k2⟩ := kq; refine ⟨setBlock wq p2 (.cells (rkc x.r) 30 (0, 0)), ?_, (mod_set wq p2 _).mono (fun i _ e => by rw [e]; exact k1), k1, heap_setBlock wq _ (lt_size k2)⟩; exact run_store_box k2 (by kernel_rfl) rfl (rkc_all1 _))); replace gK := (Good.at p2 (.cells (rkc x.r) 30 (0, 0))); (try simp only [Act.put, List.setIfInBounds_toArray, List.set_cons_zero, List.set_cons_succ]))
  (refine TG.v0 (v := ?v68) (by simp only [List.getElem?_toArray, List.getElem?_cons_succ, List.getElem?_cons_zero]; rfl) rfl ?hw68 (fun w1 => ?hy68) ?hn68; (case hw68 => rfl); (case hy68 => (go_simp; (try with_reducible rfl))); (try simp only [Act.put, List.setIfInBounds_toArray, List.set_cons_zero, List.set_cons_succ]))
  (refine TG.v0 (v := ?v69) (by simp only [List.getElem?_toArray, List.getElem?_cons_succ, List.getElem?_cons_zero]; rfl) rfl ?hw69 (fun w1 => ?hy69) ?hn69; (case hw69 => rfl); (case hy69 => (go_simp; (try with_reducible rfl))); (try simp only [Act.put, List.setIfInBounds_toArray, List.set_cons_zero, List.set_cons_succ]))
  refine TG.nil (fun w3 ⟨TR, hr⟩ => ?_)
  have kr := hr.mod.at kr (by intro hT; first | exact hT | exact absurd hT (by assumption) | (simp only at hT; omega))
  have kl := hr.mod.at kl (by intro hT; first | exact hT | exact absurd hT (by assumption) | (simp only at hT; omega))
  clear gK
  obtain ⟨_, kp2⟩ := hr.k
  have m3 : Mod (fun _ => False) w w3 := m1.then hr.mod (fun i hi e => by subst e; have := gp2; omega)
  go_wp2_with fail
  exact bodyPost_ret (results_cell3 (x := .agg (rkc x.r)) rfl rfl (by rw [ldRk]; simp [kp2, rkc])) rfl ⟨rfl, m3⟩
set_option maxRecDepth 20000 in
set_option maxHeartbeats 3200000 in
theorem rtop0_c {p : Nat} {T : Nat → Prop} {w : World} (h : RAt p [] T w) : Calls Try.prog 12 #[ptrV p] w fun e w' => e = .returned (.tuple #[.agg (rkc rk0), .int .i64 0, .bool false]) ∧ Mod (fun _ => False) w w' := by
  obtain ⟨a, c, kr, hs⟩ := h.sl
  clear h hs
  have hb0 := bldR
  go_enter Try.func12, Try.ntmps12
  go_upto_region 0 with fail
  have Lkr := lt_size kr
  refine wp_pass0 (C := fun _ _ _ => False) (κ := fun i => [3, 0, 0].getD i 0) [0, 1, 2] (by kernel_rfl) (by kernel_rfl) (fun _ _ d _ _ h => by cases d <;> exact h) ?_
  (refine TD.allocB (by simp only [List.getElem?_toArray, List.getElem?_cons_succ, List.getElem?_cons_zero]; rfl) rfl ?hw70 rfl rfl alRk (fun p2 hp2 => ?hn70); (case hw70 => rfl); (try simp only [Act.put, List.setIfInBounds_toArray, List.set_cons_zero, List.set_cons_succ]))
  (refine TD.val0 (v := ?v71) (by simp only [List.getElem?_toArray, List.getElem?_cons_succ, List.getElem?_cons_zero]; rfl) rfl ?hw71 (fun w1 => ?hy71) ?hn71; (case hw71 => rfl); (case hy71 => (go_simp; (try with_reducible rfl))); (try simp only [Act.put, List.setIfInBounds_toArray, List.set_cons_zero, List.set_cons_succ]))
  (refine TD.val0 (v := ?v72) (by simp only [List.getElem?_toArray, List.getElem?_cons_succ, List.getElem?_cons_zero]; rfl) rfl ?hw72 (fun w1 => ?hy72) ?hn72; (case hw72 => rfl); (case hy72 => (go_simp; (try with_reducible rfl))); (try simp only [Act.put, List.setIfInBounds_toArray, List.set_cons_zero, List.set_cons_succ]))
  refine TD.nil (fun w1 hr => ?_)
  have kr := hr.mod.at kr (fun h => h)
  have kp2 := hr.box p2 _ (by first | exact Bx.set_same _ _ _ | (simp only [Bx.set_same]; rfl)); dsimp only [Value.cells] at kp2; obtain ⟨gp2, kp2⟩ := kp2
  have m1 := hr.mod
  clear hr
  replace kp2 : w1.heap[p2]? = some (.cells #[.int .u64 0, .int .u64 0] 30 (0, 0)) := kp2
  go_upto_region 2 with fail
  have Lkp2 := lt_size kp2
  refine wp_pass0 (C := fun _ _ _ => False) (κ := fun i => [0, 5, 0, 0].getD i 0) [0, 1, 2, 3] (by kernel_rfl) (by kernel_rfl) (fun _ _ d _ _ h => by cases d <;> exact h) ?_
  (refine TD.build (v := ?v73) (ps := ?p73) (by simp only [List.getElem?_toArray, List.getElem?_cons_succ, List.getElem?_cons_zero]; rfl) rfl ?hw73 rfl ?hx73 (fun w1 => ?hy73) ?hn73; (case hw73 => rfl); (case hx73 => (simp only [List.map_toArray, List.map_cons, List.map_nil, Act.eval, Array.getD_eq_getD_getElem?, List.getElem?_toArray, List.getElem?_cons_succ, List.getElem?_cons_zero, Option.getD_some]; (try rfl))); (case hy73 => (rw [hb0]; (try with_reducible rfl))); (try simp only [Act.put, List.setIfInBounds_toArray, List.set_cons_zero, List.set_cons_succ]))
  refine TD.eff (by simp only [List.getElem?_toArray, List.getElem?_cons_succ, List.getElem?_cons_zero]; rfl) rfl (fun w2 hr => ?_)
  have kp2 := hr.mod.at kp2 (fun h => h)
  have m2 := m1.then0 hr.mod
  clear hr
  (refine eff_store (X := ?X75) (Y := ?Y75) (w' := ?w75) (by simp only [List.getElem?_toArray, List.getElem?_cons_succ, List.getElem?_cons_zero]; rfl) ?hw75 rfl ?hx75 ?hz75 ?hy75 ?hn75; (case hw75 => rfl); (case hx75 => (simp only [Act.eval, Array.getD_eq_getD_getElem?, List.getElem?_toArray, List.getElem?_cons_succ, List.getElem?_cons_zero, Option.getD_some]; (try rfl))); (case hz75 => (simp only [Act.eval, Array.getD_eq_getD_getElem?, List.getElem?_toArray, List.getElem?_cons_succ, List.getElem?_cons_zero, Option.getD_some]; (try rfl))); (case hy75 => (go_simp; (try with_reducible rfl))))
  (first | refine TE.mid_set kp2 (fun wn kp2 mS => ?_) | refine TE.mid_setCell kp2 (fun wn kp2 mS => ?_))
  (try simp only [Array.setIfInBounds, List.setIfInBounds_toArray, List.set_cons_zero, List.set_cons_succ] at kp2)
  have m3 := m2.thenB mS (.inl gp2)
  clear mS
  (refine TE.val0 (v := ?v76) (by simp only [List.getElem?_toArray, List.getElem?_cons_succ, List.getElem?_cons_zero]; rfl) ?hw76 (fun w1 => ?hy76) ?hn76; (case hw76 => rfl); (case hy76 => (go_simp; (try with_reducible rfl))); (try simp only [Act.put, List.setIfInBounds_toArray, List.set_cons_zero, List.set_cons_succ]))
  (refine TE.val0 (v := ?v77) (by simp only [List.getElem?_toArray, List.getElem?_cons_succ, List.getElem?_cons_zero]; rfl) ?hw77 (fun w1 => ?hy77) ?hn77; (case hw77 => rfl); (case hy77 => (go_simp; (try with_reducible rfl))); (try simp only [Act.put, List.setIfInBounds_toArray, List.set_cons_zero, List.set_cons_succ]))
  refine TE.nil ?_
  go_wp2_with fail
  exact bodyPost_ret (results_cell3 (x := .agg (rkc rk0)) rfl rfl (by rw [ldRk]; simp [kp2, rkc, rk0])) rfl ⟨rfl, m3⟩
set_option maxRecDepth 20000 in
set_option maxHeartbeats 3200000 in
theorem rbot0_c {p : Nat} {T : Nat → Prop} {w : World} (h : RAt p [] T w) : Calls Try.prog 13 #[ptrV p] w fun e w' => e = .returned (.tuple #[.agg (rkc rk0), .int .i64 0, .bool false]) ∧ Mod (fun _ => False) w w' := by
  obtain ⟨a, c, kr, hs⟩ := h.sl
  clear h hs
  have hb0 := bldR
  go_enter Try.func13, Try.ntmps13
  go_upto_region 0 with fail
  have Lkr := lt_size kr
  refine wp_pass0 (C := fun _ _ _ => False) (κ := fun i => [3, 0, 0].getD i 0) [0, 1, 2] (by kernel_rfl) (by kernel_rfl) (fun _ _ d _ _ h => by cases d <;> exact h) ?_
  (refine TD.allocB (by simp only [List.getElem?_toArray, List.getElem?_cons_succ, List.getElem?_cons_zero]; rfl) rfl ?hw78 rfl rfl alRk (fun p2 hp2 => ?hn78); (case hw78 => rfl); (try simp only [Act.put, List.setIfInBounds_toArray, List.set_cons_zero, List.set_cons_succ]))
  (refine TD.val0 (v := ?v79) (by simp only [List.getElem?_toArray, List.getElem?_cons_succ, List.getElem?_cons_zero]; rfl) rfl ?hw79 (fun w1 => ?hy79) ?hn79; (case hw79 => rfl); (case hy79 => (go_simp; (try with_reducible rfl))); (try simp only [Act.put, List.setIfInBounds_toArray, List.set_cons_zero, List.set_cons_succ]))
  (refine TD.val0 (v := ?v80) (by simp only [List.getElem?_toArray, List.getElem?_cons_succ, List.getElem?_cons_zero]; rfl) rfl ?hw80 (fun w1 => ?hy80) ?hn80; (case hw80 => rfl); (case hy80 => (go_simp; (try with_reducible rfl))); (try simp only [Act.put, List.setIfInBounds_toArray, List.set_cons_zero, List.set_cons_succ]))
  refine TD.nil (fun w1 hr => ?_)
  have kr := hr.mod.at kr (fun h => h)
  have kp2 := hr.box p2 _ (by first | exact Bx.set_same _ _ _ | (simp only [Bx.set_same]; rfl)); dsimp only [Value.cells] at kp2; obtain ⟨gp2, kp2⟩ := kp2
  have m1 := hr.mod
  clear hr
  replace kp2 : w1.heap[p2]? = some (.cells #[.int .u64 0, .int .u64 0] 30 (0, 0)) := kp2
  go_upto_region 2 with fail
  have Lkp2 := lt_size kp2
  refine wp_pass0 (C := fun _ _ _ => False) (κ := fun i => [0, 5, 0, 0].getD i 0) [0, 1, 2, 3] (by kernel_rfl) (by kernel_rfl) (fun _ _ d _ _ h => by cases d <;> exact h) ?_
  (refine TD.build (v := ?v81) (ps := ?p81) (by simp only [List.getElem?_toArray, List.getElem?_cons_succ, List.getElem?_cons_zero]; rfl) rfl ?hw81 rfl ?hx81 (fun w1 => ?hy81) ?hn81; (case hw81 => rfl); (case hx81 => (simp only [List.map_toArray, List.map_cons, List.map_nil, Act.eval, Array.getD_eq_getD_getElem?, List.getElem?_toArray, List.getElem?_cons_succ, List.getElem?_cons_zero, Option.getD_some]; (try rfl))); (case hy81 => (rw [hb0]; (try with_reducible rfl))); (try simp only [Act.put, List.setIfInBounds_toArray, List.set_cons_zero, List.set_cons_succ]))
  refine TD.eff (by simp only [List.getElem?_toArray, List.getElem?_cons_succ, List.getElem?_cons_zero]; rfl) rfl (fun w2 hr => ?_)
  have kp2 := hr.mod.at kp2 (fun h => h)
  have m2 := m1.then0 hr.mod
  clear hr
  (refine eff_store (X := ?X83) (Y := ?Y83) (w' := ?w83) (by simp only [List.getElem?_toArray, List.getElem?_cons_succ, List.getElem?_cons_zero]; rfl) ?hw83 rfl ?hx83 ?hz83 ?hy83 ?hn83; (case hw83 => rfl); (case hx83 => (simp only [Act.eval, Array.getD_eq_getD_getElem?, List.getElem?_toArray, List.getElem?_cons_succ, List.getElem?_cons_zero, Option.getD_some]; (try rfl))); (case hz83 => (simp only [Act.eval, Array.getD_eq_getD_getElem?, List.getElem?_toArray, List.getElem?_cons_succ, List.getElem?_cons_zero, Option.getD_some]; (try rfl))); (case hy83 => (go_simp; (try with_reducible rfl))))
  (first | refine TE.mid_set kp2 (fun wn kp2 mS => ?_) | refine TE.mid_setCell kp2 (fun wn kp2 mS => ?_))
  (try simp only [Array.setIfInBounds, List.setIfInBounds_toArray, List.set_cons_zero, List.set_cons_succ] at kp2)
  have m3 := m2.thenB mS (.inl gp2)
  clear mS
  (refine TE.val0 (v := ?v84) (by simp only [List.getElem?_toArray, List.getElem?_cons_succ, List.getElem?_cons_zero]; rfl) ?hw84 (fun w1 => ?hy84) ?hn84; (case hw84 => rfl); (case hy84 => (go_simp; (try with_reducible rfl))); (try simp only [Act.put, List.setIfInBounds_toArray, List.set_cons_zero, List.set_cons_succ]))
  (refine TE.val0 (v := ?v85) (by simp only [List.getElem?_toArray, List.getElem?_cons_succ, List.getElem?_cons_zero]; rfl) ?hw85 (fun w1 => ?hy85) ?hn85; (case hw85 => rfl); (case hy85 => (go_simp; (try with_reducible rfl))); (try simp only [Act.put, List.setIfInBounds_toArray, List.set_cons_zero, List.set_cons_succ]))
  refine TE.nil ?_
  go_wp2_with fail
  exact bodyPost_ret (results_cell3 (x := .agg (rkc rk0)) rfl rfl (by rw [ldRk]; simp [kp2, rkc, rk0])) rfl ⟨rfl, m3⟩
set_option maxRecDepth 20000 in
set_option maxHeartbeats 3200000 in
theorem rbot_c {p : Nat} {x : Nd} {L : List Nd} {T : Nat → Prop} {w : World} (h : RAt p (L ++ [x]) T w) (hL : L.length ≤ 900000) : Calls Try.prog 13 #[ptrV p] w fun e w' => e = .returned (.tuple #[.agg (rkc x.r), .int .i64 x.id.toInt, .bool true]) ∧ Mod (fun _ => False) w w' := by
  obtain ⟨a, c, kr, hs⟩ := h.sl
  clear h
  obtain ⟨g, o, C, U, fr, rfl, kl, he, hle⟩ := hs.block (i := L.length) (x := x) (by simp)
  rw [List.length_append, List.length_singleton] at kr
  have hz : ((L.length : Int) + 1 == 0) = false := by
    rw [beq_eq_false_iff_ne]
    omega
  have hw1 : IntKind.i64.wrap (((L.length + 1 : Nat) : Int) - 1) = (L.length : Int) := by
    rw [IntKind.wrap_i64]
    omega
  have hw2 : IntKind.i64.wrap (L.length : Int) = (L.length : Int) := by
    rw [IntKind.wrap_i64]
    omega
  have hlt1 : (L.length : Int) < (L.length : Int) + 1 := by omega
  clear hs
  go_enter Try.func13, Try.ntmps13
  go_upto_region 0 with fail
  have Lkr := lt_size kr
  have Lkl := lt_size kl
  refine wp_pass0 (C := fun _ _ _ => False) (κ := fun i => [3, 0, 0].getD i 0) [0, 1, 2] (by kernel_rfl) (by kernel_rfl) (fun _ _ d _ _ h => by cases d <;> exact h) ?_
  (refine TD.allocB (by simp only [List.getElem?_toArray, List.getElem?_cons_succ, List.getElem?_cons_zero]; rfl) rfl ?hw86 rfl rfl alRk (fun p2 hp2 => ?hn86); (case hw86 => rfl); (try simp only [Act.put, List.setIfInBounds_toArray, List.set_cons_zero, List.set_cons_succ]))
  (refine TD.val0 (v := ?v87) (by simp only [List.getElem?_toArray, List.getElem?_cons_succ, List.getElem?_cons_zero]; rfl) rfl ?hw87 (fun w1 => ?hy87) ?hn87; (case hw87 => rfl); (case hy87 => (go_simp; (try with_reducible rfl))); (try simp only [Act.put, List.setIfInBounds_toArray, List.set_cons_zero, List.set_cons_succ]))
  (refine TD.val0 (v := ?v88) (by simp only [List.getElem?_toArray, List.getElem?_cons_succ, List.getElem?_cons_zero]; rfl) rfl ?hw88 (fun w1 => ?hy88) ?hn88; (case hw88 => rfl); (case hy88 => (go_simp; (try with_reducible rfl))); (try simp only [Act.put, List.setIfInBounds_toArray, List.set_cons_zero, List.set_cons_succ]))
  refine TD.nil (fun w1 hr => ?_)
  have kr := hr.mod.at kr (fun h => h)
  have kl := hr.mod.at kl (fun h => h)
  have kp2 := hr.box p2 _ (by first | exact Bx.set_same _ _ _ | (simp only [Bx.set_same]; rfl)); dsimp only [Value.cells] at kp2; obtain ⟨gp2, kp2⟩ := kp2
  have m1 := hr.mod
  clear hr
  replace kp2 : w1.heap[p2]? = some (.cells #[.int .u64 0, .int .u64 0] 30 (0, 0)) := kp2
  go_upto_region 3 with fail
  have HK2 := Lib.hid kp2
  have Lkr := lt_size kr
  have Lkl := lt_size kl
  have Lkp2 := lt_size kp2
  refine wp_pass (C := fun _ _ _ => False) (κ := fun i => [0, 0, 0, 1, 0, 0, 0, 1, 0, 0, 0, 1, 3, 4].getD i 0) [0, 1, 2, 3, 4, 5, 6, 7, 8, 9, 10, 11, 12, 13] (by kernel_rfl) (by kernel_rfl) (fun _ _ d _ _ h => by cases d <;> exact h) ?_
  (refine TD.val0 (v := ?v89) (by simp only [List.getElem?_toArray, List.getElem?_cons_succ, List.getElem?_cons_zero]; rfl) rfl ?hw89 (fun w1 => ?hy89) ?hn89; (case hw89 => rfl); (case hy89 => (go_simp; (try with_reducible rfl))); (try simp only [Act.put, List.setIfInBounds_toArray, List.set_cons_zero, List.set_cons_succ]))
  (refine TD.val0 (v := ?v90) (by simp only [List.getElem?_toArray, List.getElem?_cons_succ, List.getElem?_cons_zero]; rfl) rfl ?hw90 (fun w1 => ?hy90) ?hn90; (case hw90 => rfl); (case hy90 => (go_simp; (try with_reducible rfl))); (try simp only [Act.put, List.setIfInBounds_toArray, List.set_cons_zero, List.set_cons_succ]))
  (refine TD.val0 (v := ?v91) (by simp only [List.getElem?_toArray, List.getElem?_cons_succ, List.getElem?_cons_zero]; rfl) rfl ?hw91 (fun w1 => ?hy91) ?hn91; (case hw91 => rfl); (case hy91 => (go_simp; (try with_reducible rfl))); (try simp only [Act.put, List.setIfInBounds_toArray, List.set_cons_zero, List.set_cons_succ]))
  (refine TD.load (v := ?v92) (p := ?p92) (Mod.refl _ _) (by simp only [List.getElem?_toArray, List.getElem?_cons_succ, List.getElem?_cons_zero]; rfl) rfl ?hw92 rfl ?hx92 (fun wq hSq => ?hy92) ?hn92; (case hw92 => rfl); (case hx92 => (simp only [Act.eval, Array.getD_eq_getD_getElem?, List.getElem?_toArray, List.getElem?_cons_succ, List.getElem?_cons_zero, Option.getD_some]; (try rfl))); (case hy92 => (have krq := hSq.at kr (fun h => h); have klq := hSq.at kl (fun h => h); have kp2q := hSq.at kp2 (fun h => h); go_simp; (try with_reducible rfl))); (try simp only [Act.put, List.setIfInBounds_toArray, List.set_cons_zero, List.set_cons_succ]))
  (refine TD.val0 (v := ?v93) (by simp only [List.getElem?_toArray, List.getElem?_cons_succ, List.getElem?_cons_zero]; rfl) rfl ?hw93 (fun w1 => ?hy93) ?hn93; (case hw93 => rfl); (case hy93 => (go_simp; (try with_reducible rfl))); (try simp only [Act.put, List.setIfInBounds_toArray, List.set_cons_zero, List.set_cons_succ]))
  (refine TD.val0 (v := ?v94) (by simp only [List.getElem?_toArray, List.getElem?_cons_succ, List.getElem?_cons_zero]; rfl) rfl ?hw94 (fun w1 => ?hy94) ?hn94; (case hw94 => rfl); (case hy94 => (go_simp; (try with_reducible rfl))); (try simp only [Act.put, List.setIfInBounds_toArray, List.set_cons_zero, List.set_cons_succ]))
  (refine TD.val0 (v := ?v95) (by simp only [List.getElem?_toArray, List.getElem?_cons_succ, List.getElem?_cons_zero]; rfl) rfl ?hw95 (fun w1 => ?hy95) ?hn95; (case hw95 => rfl); (case hy95 => (go_simp; (try with_reducible rfl))); (try simp only [Act.put, List.setIfInBounds_toArray, List.set_cons_zero, List.set_cons_succ]))
  (refine TD.load (v := ?v96) (p := ?p96) (Mod.refl _ _) (by simp only [List.getElem?_toArray, List.getElem?_cons_succ, List.getElem?_cons_zero]; rfl) rfl ?hw96 rfl ?hx96 (fun wq hSq => ?hy96) ?hn96; (case hw96 => rfl); (case hx96 => (simp only [Act.eval, Array.getD_eq_getD_getElem?, List.getElem?_toArray, List.getElem?_cons_succ, List.getElem?_cons_zero, Option.getD_some]; (try rfl))); (case hy96 => (have krq := hSq.at kr (fun h => h); have klq := hSq.at kl (fun h => h); have kp2q := hSq.at kp2 (fun h => h); go_simp; (try with_reducible rfl))); (try simp only [Act.put, List.setIfInBounds_toArray, List.set_cons_zero, List.set_cons_succ]))
  (refine TD.val0 (v := ?v97) (by simp only [List.getElem?_toArray, List.getElem?_cons_succ, List.getElem?_cons_zero]; rfl) rfl ?hw97 (fun w1 => ?hy97) ?hn97; (case hw97 => rfl); (case hy97 => (go_simp; (try with_reducible rfl))); (try simp only [Act.put, List.setIfInBounds_toArray, List.set_cons_zero, List.set_cons_succ]))
  (refine TD.val0 (v := ?v98) (by simp only [List.getElem?_toArray, List.getElem?_cons_succ, List.getElem?_cons_zero]; rfl) rfl ?hw98 (fun w1 => ?hy98) ?hn98; (case hw98 => rfl); (case hy98 => (go_simp; (try with_reducible rfl))); (try simp only [Act.put, List.setIfInBounds_toArray, List.set_cons_zero, List.set_cons_succ]))
  (refine TD.val0 (v := ?v99) (by simp only [List.getElem?_toArray, List.getElem?_cons_succ, List.getElem?_cons_zero]; rfl) rfl ?hw99 (fun w1 => ?hy99) ?hn99; (case hw99 => rfl); (case hy99 => (go_simp; (try with_reducible rfl))); (try simp only [Act.put, List.setIfInBounds_toArray, List.set_cons_zero, List.set_cons_succ]))
  (refine TD.load (v := ?v100) (p := ?p100) (Mod.refl _ _) (by simp only [List.getElem?_toArray, List.getElem?_cons_succ, List.getElem?_cons_zero]; rfl) rfl ?hw100 rfl ?hx100 (fun wq hSq => ?hy100) ?hn100; (case hw100 => rfl); (case hx100 => (simp only [Act.eval, Array.getD_eq_getD_getElem?, List.getElem?_toArray, List.getElem?_cons_succ, List.getElem?_cons_zero, Option.getD_some]; (try rfl))); (case hy100 => (have krq := hSq.at kr (fun h => h); have klq := hSq.at kl (fun h => h); have kp2q := hSq.at kp2 (fun h => h); go_simp; (try with_reducible rfl))); (try simp only [Act.put, List.setIfInBounds_toArray, List.set_cons_zero, List.set_cons_succ]))
  (refine TD.allocB (by simp only [List.getElem?_toArray, List.getElem?_cons_succ, List.getElem?_cons_zero]; rfl) rfl ?hw101 rfl rfl alNdR (fun p5 hp5 => ?hn101); (case hw101 => rfl); (try simp only [Act.put, List.setIfInBounds_toArray, List.set_cons_zero, List.set_cons_succ]))
  (refine TD.storeB (d := ?d102) (T := ?T102) (y := ?y102) (p := ?p102) (b := ?b102) (v := ?v102) (by simp only [List.getElem?_toArray, List.getElem?_cons_succ, List.getElem?_cons_zero]; rfl) rfl ?hw102 ?hd102 ?hop102 ?hev102 ?hx102 ?hb102 ?htag102 (fun w1 hb1 => ?hy102) ?hn102; (case hw102 => rfl); (case hd102 => rfl); (case hop102 => rfl); (case hev102 => (simp only [Act.eval, Array.getD_eq_getD_getElem?, List.getElem?_toArray, List.getElem?_cons_succ, List.getElem?_cons_zero, Option.getD_some]; (try rfl))); (case hx102 => (simp only [Act.eval, Array.getD_eq_getD_getElem?, List.getElem?_toArray, List.getElem?_cons_succ, List.getElem?_cons_zero, Option.getD_some]; (try rfl))); (case hb102 => first | exact Bx.set_same _ _ _ | (simp only [Bx.set_same]; rfl)); (case hy102 => (go_simp; (try with_reducible rfl))); (try simp only [Act.put, List.setIfInBounds_toArray, List.set_cons_zero, List.set_cons_succ]))
  refine TD.nil (fun w2 hr => ?_)
  have kr := hr.mod.at kr (fun h => h)
  have kl := hr.mod.at kl (fun h => h)
  have kp2 := hr.mod.at kp2 (fun h => h)
  have kp5 := hr.box p5 _ (by first | exact Bx.set_same _ _ _ | (simp only [Bx.set_same]; rfl)); dsimp only [Value.cells] at kp5; obtain ⟨gp5, kp5⟩ := kp5
  have m2 := m1.then0 hr.mod
  clear hr he hle kl hz hw1 hw2 hlt1
  go_upto_region 4 with fail
  have h52 : p5 ≠ p2 := fun e => by have := lt_size HK2.out; omega
  have Lkp5 := lt_size kp5
  refine wp_gpass (T0 := fun i => i = p2) (K := fun T w => T p2 ∧ w.heap[p2]? = some (.cells #[.int .u64 0, .int .u64 0] 30 (0, 0))) (κ := fun i => [0, 0, 0, 0, 6, 0, 0].getD i 0) (υ := fun i => [[], [], [], [], [], [], []].getD i []) [0, 1, 2, 3, 4, 5, 6] (by kernel_rfl) (by kernel_rfl) (Good.at p2 (.cells #[.int .u64 0, .int .u64 0] 30 (0, 0))).cl (⟨rfl, kp2⟩) (fun i hi => by subst hi; exact lt_size kp2) ?_
  have gK := Good.at p2 (.cells #[.int .u64 0, .int .u64 0] 30 (0, 0))
  (refine TG.v0 (v := ?v103) (by simp only [List.getElem?_toArray, List.getElem?_cons_succ, List.getElem?_cons_zero]; rfl) rfl ?hw103 (fun w1 => ?hy103) ?hn103; (case hw103 => rfl); (case hy103 => (go_simp; (try with_reducible rfl))); (try simp only [Act.put, List.setIfInBounds_toArray, List.set_cons_zero, List.set_cons_succ]))
  (refine TG.load (v := ?v104) (p := ?p104) (by simp only [List.getElem?_toArray, List.getElem?_cons_succ, List.getElem?_cons_zero]; rfl) rfl ?hw104 rfl ?hx104 (fun wq hSq => ?hy104) ?hn104; (case hw104 => rfl); (case hx104 => (simp only [Act.eval, Array.getD_eq_getD_getElem?, List.getElem?_toArray, List.getElem?_cons_succ, List.getElem?_cons_zero, Option.getD_some]; (try rfl))); (case hy104 => (have kp5q := hSq.at kp5 (by intro hT; first | exact hT | exact absurd hT (by assumption) | (simp only at hT; omega)); go_simp; (try with_reducible rfl))); (try simp only [Act.put, List.setIfInBounds_toArray, List.set_cons_zero, List.set_cons_succ]))
  (refine TG.v0 (v := ?v105) (by simp only [List.getElem?_toArray, List.getElem?_cons_succ, List.getElem?_cons_zero]; rfl) rfl ?hw105 (fun w1 => ?hy105) ?hn105; (case hw105 => rfl); (case hy105 => (go_simp; (try with_reducible rfl))); (try simp only [Act.put, List.setIfInBounds_toArray, List.set_cons_zero, List.set_cons_succ]))
  (refine TG.load (v := ?v106) (p := ?p106) (by simp only [List.getElem?_toArray, List.getElem?_cons_succ, List.getElem?_cons_zero]; rfl) rfl ?hw106 rfl ?hx106 (fun wq hSq => ?hy106) ?hn106; (case hw106 => rfl); (case hx106 => (simp only [Act.eval, Array.getD_eq_getD_getElem?, List.getElem?_toArray, List.getElem?_cons_succ, List.getElem?_cons_zero, Option.getD_some]; (try rfl))); (case hy106 => (have kp5q := hSq.at kp5 (by intro hT; first | exact hT | exact absurd hT (by assumption) | (simp only at hT; omega)); go_simp; (try with_reducible rfl))); (try simp only [Act.put, List.setIfInBounds_toArray, List.set_cons_zero, List.set_cons_succ]))
  (refine TG.storeO (X := ?X107) (Y := ?Y107) (fun T w => T p2 ∧ w.heap[p2]? = some (.cells (rkc x.r) 30 (0, 0))) (Good.at p2 (.cells (rkc x.r) 30 (0, 0))) (by simp only [List.getElem?_toArray, List.getElem?_cons_succ, List.getElem?_cons_zero]; rfl) rfl ?hw107 rfl rfl ?hx107 ?hz107 (fun T wq kq => ?hy107) (fun _ => ?hn107); (case hw107 => rfl); (case hx107 => (simp only [Act.eval, Array.getD_eq_getD_getElem?, List.getElem?_toArray, List.getElem?_cons_succ, List.getElem?_cons_zero, Option.getD_some]; (try rfl))); (case hz107 => (simp only [Act.eval, Array.getD_eq_getD_getElem?, List.getElem?_toArray, List.getElem?_cons_succ, List.getElem?_cons_zero, Option.getD_some]; (try rfl))); (case hy107 => (obtain ⟨k1, k2⟩ := kq; refine ⟨setBlock wq p2 (.cells (rkc x.r) 30 (0, 0)), ?_, (mod_set wq p2 _).mono (fun i _ e => by rw [e]; exact k1), k1, heap_setBlock wq _ (lt_size k2)⟩; exact run_store_box k2 (by kernel_rfl) rfl (rkc_all1 _))); replace gK := (Good.at p2 (.cells (rkc x.r) 30 (0, 0))); (try simp only [Act.put, List.setIfInBounds_toArray, List.set_cons_zero, List.set_cons_succ]))
  (refine TG.v0 (v := ?v108) (by simp only [List.getElem?_toArray, List.getElem?_cons_succ, List.getElem?_cons_zero]; rfl) rfl ?hw108 (fun w1 => ?hy108) ?hn108; (case hw108 => rfl); (case hy108 => (go_simp; (try with_reducible rfl))); (try simp only [Act.put, List.setIfInBounds_toArray, List.set_cons_zero, List.set_cons_succ]))
  (refine TG.v0 (v := ?v109) (by simp only [List.getElem?_toArray, List.getElem?_cons_succ, List.getElem?_cons_zero]; rfl) rfl ?hw109 (fun w1 => ?hy109) ?hn109; (case hw109 => rfl); (case hy109 => (go_simp; (try with_reducible rfl))); (try simp only [Act.put, List.setIfInBounds_toArray, List.set_cons_zero, List.set_cons_succ]))
  refine TG.nil (fun w3 ⟨TR, hr⟩ => ?_)
  have kp5 := hr.mod.at kp5 (by intro hT; first | exact hT | exact absurd hT (by assumption) | (simp only at hT; omega))
  clear gK
  obtain ⟨_, kp2⟩ := hr.k
  have m3 : Mod (fun _ => False) w w3 := m2.then hr.mod (fun i hi e => by subst e; have := gp2; omega)
  go_wp2_with fail
  exact bodyPost_ret (results_cell3 (x := .agg (rkc x.r)) rfl rfl (by rw [ldRk]; simp [kp2, rkc])) rfl ⟨rfl, m3⟩
end Go.Proofs.Ytnibhnnpjkemhaa
