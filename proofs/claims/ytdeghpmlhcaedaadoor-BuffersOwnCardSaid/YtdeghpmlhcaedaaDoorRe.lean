/- The heap of both sides: its ends. -/
import Derived.Test.YtdeghpmlhcaedaaDoorRl
import Derived.Test.YtdeghpmlhcaedaaDoorTo
namespace Go.Proofs.YtdeghpmlhcaedaaDoor
open Go.RowKit Go.Sort
open Go.ChangeMaps (setBlock)
set_option linter.unusedSimpArgs false
set_option linter.unusedVariables false
attribute [local go_sem ↓] wlRk ldRk stRk eqRk eqRk2
attribute [local go_sem] rkc_size ndc_size cell_blk frozen_blk one_int one_bool one_ptr one_slice one_map Value.cells enter_fn eqMap neMap
theorem results_cell3 {P : Program} {fn : Func} {t u v : Tmp} {T : TypeId} {tmps : Array Value} {p : Addr} {x : Value} {w : World} (h : fn.results = #[.cell t T, .tmp u, .tmp v]) (ht : tmps.getD t undef = .pointer (some p))
    (hl : (Instr.loadAt T (.pointer (some p))).run P w = .ok x w) : (results fn tmps).run P w = .ok (.tuple #[x, tmps.getD u undef, tmps.getD v undef]) w := by
  have hl2 : (loadVar T p).run P w = .ok x w := by simpa [Instr.loadAt, Instr.sureAddr] using hl
  rw [zD] at ht
  simp only [results, h]
  simp [Sem.run_bind, Result.andThen, ht, asAddr, hl2]
/-- Who is first of all at a side. -/
def Best (k : Bool) (C : List Nd) (x : Nd) : Prop := x ∈ C ∧ ∀ y ∈ C, flt k y x = false
theorem Hp.best {w : World} {h s0 s1 mb : Nat} {v0 v1 : Value} {L0 L1 : List Nat} {nd : Nat → Nd} {m : List (Int64 × Nat)} (H : Hp w h s0 s1 mb v0 v1 L0 L1 nd m) (k : Bool) {b : Nat} (hb : (if k then L1 else L0)[0]? = some b) : Best k (m.map (fun p => nd p.2)) (nd b) := by
  have hp : (if k then L1 else L0).Perm (m.map Prod.snd) := by
    cases k
    · exact H.p0
    · exact H.p1
  have hok : HeapOk (lessOf k nd) (if k then L1 else L0).length (if k then L1 else L0) := by
    cases k
    · exact H.ok0
    · exact H.ok1
  generalize (if k then L1 else L0) = L at *
  have e : m.map (fun p => nd p.2) = (m.map Prod.snd).map nd := by rw [List.map_map]; rfl
  rw [e]
  refine ⟨List.mem_map.2 ⟨b, hp.mem_iff.1 (List.mem_of_getElem? hb), rfl⟩, fun y hy => ?_⟩
  obtain ⟨c, hc, rfl⟩ := List.mem_map.1 hy
  obtain ⟨i, hi⟩ := List.mem_iff_getElem?.1 (hp.mem_iff.2 hc)
  exact hok.root (weak_less k nd) (Nat.le_refl _) (fun a => flt_irrefl _ _) hb i c (List.getElem?_eq_some_iff.1 hi).1 hi
set_option maxRecDepth 20000 in
set_option maxHeartbeats 3200000 in
theorem end0_c {h : Nat} {T : Nat → Prop} {w : World} (hA : HAt h [] T w) (k : Int) : Calls Tryd.prog 54 #[ptrV h, .int .i64 k] w fun e w' => e = .returned (.tuple #[.agg (rkc rk0), .int .i64 0, .bool false]) ∧ Mod (fun _ => False) w w' := by
  obtain ⟨s0, s1, mb, v0, v1, L0, L1, nd, m, H, hm, hO⟩ := hA
  obtain rfl : m = [] := List.map_eq_nil_iff.1 hm.symm
  obtain ⟨es, c, kb, M⟩ := H.km
  have kh := H.kh
  have hle : ∀ ty (wq : World), wq.heap[mb]? = some (.map es c) → (Builtin.len_ #[108] ty #[.map (some mb)]).run Tryd.prog wq = .ok (.int .i64 0) wq := fun ty wq hq => M.len Tryd.underlying108 wq hq
  clear H hO M hm
  go_enter Tryd.func54, Tryd.ntmps54
  go_upto_region 0 with fail
  have Lkh := lt_size kh
  have Lkb := lt_size kb
  refine wp_pass0 (C := fun _ _ _ => False) (κ := fun i => [3, 0, 0].getD i 0) [0, 1, 2] (by kernel_rfl) (by kernel_rfl) (fun _ _ d _ _ h => by cases d <;> first | exact h | exact absurd h (hP _ _ _)) ?_
  (refine TD.allocB (by simp only [zA, zB, zC]; rfl) rfl ?hw1 rfl rfl alRk (fun p4 hp4 => ?hn1); (case hw1 => rfl); (try simp only [Act.put, zF, zG, zH]))
  (refine TD.val0 (v := ?v2) (by simp only [zA, zB, zC]; rfl) rfl ?hw2 (fun w1 => ?hy2) ?hn2; (case hw2 => rfl); (case hy2 => (go_simp; (try with_reducible rfl))); (try simp only [Act.put, zF, zG, zH]))
  (refine TD.val0 (v := ?v3) (by simp only [zA, zB, zC]; rfl) rfl ?hw3 (fun w1 => ?hy3) ?hn3; (case hw3 => rfl); (case hy3 => (go_simp; (try with_reducible rfl))); (try simp only [Act.put, zF, zG, zH]))
  refine TD.nil (fun w1 hr => ?_)
  have kh := hr.mod.at kh (fun h => h)
  have kb := hr.mod.at kb (fun h => h)
  have kp4 := hr.box p4 _ (by first | exact Bx.set_same _ _ _ | (simp only [Bx.set_same]; rfl)); dsimp only [Value.cells] at kp4; obtain ⟨gp4, kp4⟩ := kp4
  have m1 := hr.mod
  clear hr
  have hle1 := fun ty => hle ty w1 kb
  go_wp2_with fail
  go_at_call 55
  refine (there_c kh).mono ?_
  rintro e w2 ⟨rfl, rfl⟩
  replace kp4 : w2.heap[p4]? = some (.cells #[.int .u64 0, .int .u64 0] 60 (0, 0)) := kp4
  go_upto_region 2 with fail
  have Lkp4 := lt_size kp4
  refine wp_pass0 (C := fun _ _ _ => False) (κ := fun i => [1, 5, 0, 0].getD i 0) [0, 1, 2, 3] (by kernel_rfl) (by kernel_rfl) (fun _ _ d _ _ h => by cases d <;> first | exact h | exact absurd h (hP _ _ _)) ?_
  (refine TD.load (v := ?v4) (p := ?p4) (Mod.refl _ _) (by simp only [zA, zB, zC]; rfl) rfl ?hw4 rfl ?hx4 (fun wq hSq => ?hy4) ?hn4; (case hw4 => rfl); (case hx4 => (simp only [Act.eval, zD, zA, zB, zC, zE]; (try rfl))); (case hy4 => (have kp4q := hSq.at kp4 (fun h => h); go_simp; (try with_reducible rfl))); (try simp only [Act.put, zF, zG, zH]))
  refine TD.eff (by simp only [zA, zB, zC]; rfl) rfl (fun w3 hr => ?_)
  have kp4 := hr.mod.at kp4 (fun h => h)
  have m3 := m1.then0 hr.mod
  clear hr
  (refine eff_store (X := ?X6) (Y := ?Y6) (w' := ?w6) (by simp only [zA, zB, zC]; rfl) ?hw6 rfl ?hx6 ?hz6 ?hy6 ?hn6; (case hw6 => rfl); (case hx6 => (simp only [Act.eval, zD, zA, zB, zC, zE]; (try rfl))); (case hz6 => (simp only [Act.eval, zD, zA, zB, zC, zE]; (try rfl))); (case hy6 => (go_simp; (try with_reducible rfl))))
  (first | refine TE.mid_set kp4 (fun wn kp4 mS => ?_) | refine TE.mid_setCell kp4 (fun wn kp4 mS => ?_))
  (try simp only [Array.setIfInBounds, zF, zG, zH] at kp4)
  have m4 := m3.thenB mS (.inl gp4)
  clear mS
  (refine TE.val0 (v := ?v7) (by simp only [zA, zB, zC]; rfl) ?hw7 (fun w1 => ?hy7) ?hn7; (case hw7 => rfl); (case hy7 => (go_simp; (try with_reducible rfl))); (try simp only [Act.put, zF, zG, zH]))
  (refine TE.val0 (v := ?v8) (by simp only [zA, zB, zC]; rfl) ?hw8 (fun w1 => ?hy8) ?hn8; (case hw8 => rfl); (case hy8 => (go_simp; (try with_reducible rfl))); (try simp only [Act.put, zF, zG, zH]))
  refine TE.nil ?_
  go_wp2_with fail
  exact bodyPost_ret (results_cell3 (x := .agg (rkc rk0)) rfl rfl (by rw [ldRk]; simp [kp4, rkc, rk0])) rfl ⟨rfl, m4⟩
set_option maxRecDepth 20000 in
set_option maxHeartbeats 3200000 in
theorem end1_c {h : Nat} {C : List Nd} {T : Nat → Prop} {w : World} (hA : HAt h C T w) (hC : C ≠ []) (k : Bool) : Calls Tryd.prog 54 #[ptrV h, .int .i64 (kn k : Int)] w fun e w' => ∃ x, Best k C x ∧ e = .returned (.tuple #[.agg (rkc x.r), .int .i64 x.id.toInt, .bool true]) ∧ Mod (fun _ => False) w w' := by
  obtain ⟨s0, s1, mb, v0, v1, L0, L1, nd, m, H, rfl, hO⟩ := hA
  obtain ⟨es, c, kb, M⟩ := H.km
  have kh := H.kh
  have hle : ∀ ty (wq : World), wq.heap[mb]? = some (.map es c) → (Builtin.len_ #[108] ty #[.map (some mb)]).run Tryd.prog wq = .ok (.int .i64 m.length) wq := fun ty wq hq => M.len Tryd.underlying108 wq hq
  have hm0 : m.length ≠ 0 := fun e => hC (by rw [List.eq_nil_of_length_eq_zero e]; rfl)
  have hz : ((m.length : Int) == 0) = false := by
    rw [beq_eq_false_iff_ne]
    omega
  obtain ⟨b, hb⟩ : ∃ b, (if k then L1 else L0)[0]? = some b := by
    cases k
    · exact ⟨_, List.getElem?_eq_getElem (show 0 < L0.length by rw [H.p0.length_eq, List.length_map]; omega)⟩
    · exact ⟨_, List.getElem?_eq_getElem (show 0 < L1.length by rw [H.p1.length_eq, List.length_map]; omega)⟩
  have HB := Lib.hid (H.best k hb)
  cases k
  · obtain ⟨g, cap, cur, rfl, _, kg, hcap, hcs, hcur, _⟩ := own_row H.d0.own (fun e => by simp only [if_true, if_false, Bool.false_eq_true] at hb; rw [e] at hb; cases hb)
    have c0 := hcur 0 b hb
    have hl0 := (List.getElem?_eq_some_iff.1 hb).1
    have ks := H.d0.side
    have kn0 := H.d0.nodes 0 b hb
    simp only [if_true, if_false, Bool.false_eq_true] at hl0
    simp only [ndc, if_true, if_false, Bool.false_eq_true] at kn0
    simp only [sdc, kn, if_true, if_false, Bool.false_eq_true] at ks
    have HKB := Lib.hid kn0
    clear H hO M hC hm0 hcur hb
    show Calls Tryd.prog _ #[ptrV h, .int .i64 0] w _
    go_enter Tryd.func54, Tryd.ntmps54
    go_upto_region 0 with fail
    have Lkh := lt_size kh
    have Lkb := lt_size kb
    have Lks := lt_size ks
    have Lkg := lt_size kg
    have Lkn0 := lt_size kn0
    refine wp_pass0 (C := fun _ _ _ => False) (κ := fun i => [3, 0, 0].getD i 0) [0, 1, 2] (by kernel_rfl) (by kernel_rfl) (fun _ _ d _ _ h => by cases d <;> first | exact h | exact absurd h (hP _ _ _)) ?_
    (refine TD.allocB (by simp only [zA, zB, zC]; rfl) rfl ?hw9 rfl rfl alRk (fun p4 hp4 => ?hn9); (case hw9 => rfl); (try simp only [Act.put, zF, zG, zH]))
    (refine TD.val0 (v := ?v10) (by simp only [zA, zB, zC]; rfl) rfl ?hw10 (fun w1 => ?hy10) ?hn10; (case hw10 => rfl); (case hy10 => (go_simp; (try with_reducible rfl))); (try simp only [Act.put, zF, zG, zH]))
    (refine TD.val0 (v := ?v11) (by simp only [zA, zB, zC]; rfl) rfl ?hw11 (fun w1 => ?hy11) ?hn11; (case hw11 => rfl); (case hy11 => (go_simp; (try with_reducible rfl))); (try simp only [Act.put, zF, zG, zH]))
    refine TD.nil (fun w1 hr => ?_)
    have kh := hr.mod.at kh (fun h => h)
    have kb := hr.mod.at kb (fun h => h)
    have ks := hr.mod.at ks (fun h => h)
    have kg := hr.mod.at kg (fun h => h)
    have kn0 := hr.mod.at kn0 (fun h => h)
    have kp4 := hr.box p4 _ (by first | exact Bx.set_same _ _ _ | (simp only [Bx.set_same]; rfl)); dsimp only [Value.cells] at kp4; obtain ⟨gp4, kp4⟩ := kp4
    have m1 := hr.mod
    clear hr
    have hle1 := fun ty => hle ty w1 kb
    clear hle
    go_wp2_with fail
    go_at_call 55
    refine (there_c kh).mono ?_
    rintro e w2 ⟨rfl, rfl⟩
    replace kp4 : w2.heap[p4]? = some (.cells #[.int .u64 0, .int .u64 0] 60 (0, 0)) := kp4
    go_upto_region 3 with fail
    have Lkh := lt_size kh
    have Lks := lt_size ks
    have Lkg := lt_size kg
    have Lkn0 := lt_size kn0
    have Lkp4 := lt_size kp4
    refine wp_pass0 (C := fun _ _ _ => False) (κ := fun i => [0, 0, 0, 0, 0, 1, 0, 0, 1, 0, 1, 0].getD i 0) [0, 1, 2, 3, 4, 5, 6, 7, 8, 9, 10, 11] (by kernel_rfl) (by kernel_rfl) (fun _ _ d _ _ h => by cases d <;> first | exact h | exact absurd h (hP _ _ _)) ?_
    (refine TD.val0 (v := ?v12) (by simp only [zA, zB, zC]; rfl) rfl ?hw12 (fun w1 => ?hy12) ?hn12; (case hw12 => rfl); (case hy12 => (go_simp; (try with_reducible rfl))); (try simp only [Act.put, zF, zG, zH]))
    (refine TD.val0 (v := ?v13) (by simp only [zA, zB, zC]; rfl) rfl ?hw13 (fun w1 => ?hy13) ?hn13; (case hw13 => rfl); (case hy13 => (go_simp; (try with_reducible rfl))); (try simp only [Act.put, zF, zG, zH]))
    (refine TD.val0 (v := ?v14) (by simp only [zA, zB, zC]; rfl) rfl ?hw14 (fun w1 => ?hy14) ?hn14; (case hw14 => rfl); (case hy14 => (go_simp; (try with_reducible rfl))); (try simp only [Act.put, zF, zG, zH]))
    (refine TD.val0 (v := ?v15) (by simp only [zA, zB, zC]; rfl) rfl ?hw15 (fun w1 => ?hy15) ?hn15; (case hw15 => rfl); (case hy15 => (go_simp; (try with_reducible rfl))); (try simp only [Act.put, zF, zG, zH]))
    (refine TD.val0 (v := ?v16) (by simp only [zA, zB, zC]; rfl) rfl ?hw16 (fun w1 => ?hy16) ?hn16; (case hw16 => rfl); (case hy16 => (go_simp; (try with_reducible rfl))); (try simp only [Act.put, zF, zG, zH]))
    (refine TD.load (v := ?v17) (p := ?p17) (Mod.refl _ _) (by simp only [zA, zB, zC]; rfl) rfl ?hw17 rfl ?hx17 (fun wq hSq => ?hy17) ?hn17; (case hw17 => rfl); (case hx17 => (simp only [Act.eval, zD, zA, zB, zC, zE]; (try rfl))); (case hy17 => (have khq := hSq.at kh (fun h => h); have ksq := hSq.at ks (fun h => h); have kgq := hSq.at kg (fun h => h); have kn0q := hSq.at kn0 (fun h => h); have kp4q := hSq.at kp4 (fun h => h); go_simp; (try with_reducible rfl))); (try simp only [Act.put, zF, zG, zH]))
    (refine TD.val0 (v := ?v18) (by simp only [zA, zB, zC]; rfl) rfl ?hw18 (fun w1 => ?hy18) ?hn18; (case hw18 => rfl); (case hy18 => (go_simp; (try with_reducible rfl))); (try simp only [Act.put, zF, zG, zH]))
    (refine TD.val0 (v := ?v19) (by simp only [zA, zB, zC]; rfl) rfl ?hw19 (fun w1 => ?hy19) ?hn19; (case hw19 => rfl); (case hy19 => (go_simp; (try with_reducible rfl))); (try simp only [Act.put, zF, zG, zH]))
    (refine TD.load (v := ?v20) (p := ?p20) (Mod.refl _ _) (by simp only [zA, zB, zC]; rfl) rfl ?hw20 rfl ?hx20 (fun wq hSq => ?hy20) ?hn20; (case hw20 => rfl); (case hx20 => (simp only [Act.eval, zD, zA, zB, zC, zE]; (try rfl))); (case hy20 => (have khq := hSq.at kh (fun h => h); have ksq := hSq.at ks (fun h => h); have kgq := hSq.at kg (fun h => h); have kn0q := hSq.at kn0 (fun h => h); have kp4q := hSq.at kp4 (fun h => h); go_simp; (try with_reducible rfl))); (try simp only [Act.put, zF, zG, zH]))
    (refine TD.val0 (v := ?v21) (by simp only [zA, zB, zC]; rfl) rfl ?hw21 (fun w1 => ?hy21) ?hn21; (case hw21 => rfl); (case hy21 => (go_simp; (try with_reducible rfl))); (try simp only [Act.put, zF, zG, zH]))
    (refine TD.load (v := ?v22) (p := ?p22) (Mod.refl _ _) (by simp only [zA, zB, zC]; rfl) rfl ?hw22 rfl ?hx22 (fun wq hSq => ?hy22) ?hn22; (case hw22 => rfl); (case hx22 => (simp only [Act.eval, zD, zA, zB, zC, zE]; (try rfl))); (case hy22 => (have khq := hSq.at kh (fun h => h); have ksq := hSq.at ks (fun h => h); have kgq := hSq.at kg (fun h => h); have kn0q := hSq.at kn0 (fun h => h); have kp4q := hSq.at kp4 (fun h => h); go_simp; (try with_reducible rfl))); (try simp only [Act.put, zF, zG, zH]))
    (refine TD.val0 (v := ?v23) (by simp only [zA, zB, zC]; rfl) rfl ?hw23 (fun w1 => ?hy23) ?hn23; (case hw23 => rfl); (case hy23 => (go_simp; (try with_reducible rfl))); (try simp only [Act.put, zF, zG, zH]))
    refine TD.nil (fun w3 hr => ?_)
    have kh := hr.mod.at kh (fun h => h)
    have ks := hr.mod.at ks (fun h => h)
    have kg := hr.mod.at kg (fun h => h)
    have kn0 := hr.mod.at kn0 (fun h => h)
    have kp4 := hr.mod.at kp4 (fun h => h)
    have m3 := m1.then0 hr.mod
    clear hr hle1
    go_upto_region 4 with fail
    have hbp : b ≠ p4 := fun e => by have := lt_size HKB.out; omega
    have Lkn0 := lt_size kn0
    refine wp_gpass (T0 := fun i => i = p4) (K := fun T w => T p4 ∧ w.heap[p4]? = some (.cells #[.int .u64 0, .int .u64 0] 60 (0, 0))) (κ := fun i => [0, 0, 0, 0, 0, 0, 0, 0, 6, 0, 0].getD i 0) (υ := fun i => [[], [], [], [], [], [], [], [], [], [], []].getD i []) [0, 1, 2, 3, 4, 5, 6, 7, 8, 9, 10] (by kernel_rfl) (by kernel_rfl) (Good.at p4 (.cells #[.int .u64 0, .int .u64 0] 60 (0, 0))).cl (⟨rfl, kp4⟩) (fun i hi => by subst hi; exact lt_size kp4) ?_
    have gK := Good.at p4 (.cells #[.int .u64 0, .int .u64 0] 60 (0, 0))
    (refine TG.v0 (v := ?v24) (by simp only [zA, zB, zC]; rfl) rfl ?hw24 (fun w1 => ?hy24) ?hn24; (case hw24 => rfl); (case hy24 => (go_simp; (try with_reducible rfl))); (try simp only [Act.put, zF, zG, zH]))
    (refine TG.v0 (v := ?v25) (by simp only [zA, zB, zC]; rfl) rfl ?hw25 (fun w1 => ?hy25) ?hn25; (case hw25 => rfl); (case hy25 => (go_simp; (try with_reducible rfl))); (try simp only [Act.put, zF, zG, zH]))
    (refine TG.v0 (v := ?v26) (by simp only [zA, zB, zC]; rfl) rfl ?hw26 (fun w1 => ?hy26) ?hn26; (case hw26 => rfl); (case hy26 => (go_simp; (try with_reducible rfl))); (try simp only [Act.put, zF, zG, zH]))
    (refine TG.load (v := ?v27) (p := ?p27) (by simp only [zA, zB, zC]; rfl) rfl ?hw27 rfl ?hx27 (fun wq hSq => ?hy27) ?hn27; (case hw27 => rfl); (case hx27 => (simp only [Act.eval, zD, zA, zB, zC, zE]; (try rfl))); (case hy27 => (have kn0q := hSq.at kn0 (by intro hT; first | exact hT | exact absurd hT (by assumption) | omega | (simp only at hT; omega)); go_simp; (try with_reducible rfl))); (try simp only [Act.put, zF, zG, zH]))
    (refine TG.v0 (v := ?v28) (by simp only [zA, zB, zC]; rfl) rfl ?hw28 (fun w1 => ?hy28) ?hn28; (case hw28 => rfl); (case hy28 => (go_simp; (try with_reducible rfl))); (try simp only [Act.put, zF, zG, zH]))
    (refine TG.v0 (v := ?v29) (by simp only [zA, zB, zC]; rfl) rfl ?hw29 (fun w1 => ?hy29) ?hn29; (case hw29 => rfl); (case hy29 => (go_simp; (try with_reducible rfl))); (try simp only [Act.put, zF, zG, zH]))
    (refine TG.v0 (v := ?v30) (by simp only [zA, zB, zC]; rfl) rfl ?hw30 (fun w1 => ?hy30) ?hn30; (case hw30 => rfl); (case hy30 => (go_simp; (try with_reducible rfl))); (try simp only [Act.put, zF, zG, zH]))
    (refine TG.load (v := ?v31) (p := ?p31) (by simp only [zA, zB, zC]; rfl) rfl ?hw31 rfl ?hx31 (fun wq hSq => ?hy31) ?hn31; (case hw31 => rfl); (case hx31 => (simp only [Act.eval, zD, zA, zB, zC, zE]; (try rfl))); (case hy31 => (have kn0q := hSq.at kn0 (by intro hT; first | exact hT | exact absurd hT (by assumption) | omega | (simp only at hT; omega)); go_simp; (try with_reducible rfl))); (try simp only [Act.put, zF, zG, zH]))
    (refine TG.storeO (X := ?X32) (Y := ?Y32) (fun T w => T p4 ∧ w.heap[p4]? = some (.cells (rkc (nd b).r) 60 (0, 0))) (Good.at p4 (.cells (rkc (nd b).r) 60 (0, 0))) (by simp only [zA, zB, zC]; rfl) rfl ?hw32 rfl rfl ?hx32 ?hz32 (fun T wq kq => ?hy32) (fun _ => ?hn32); (case hw32 => rfl); (case hx32 => (simp only [Act.eval, zD, zA, zB, zC, zE]; (try rfl))); (case hz32 => (simp only [Act.eval, zD, zA, zB, zC, zE]; (try rfl))); (case hy32 => (obtain ⟨k1, k2⟩ := kq; refine ⟨setBlock wq p4 (.cells (rkc (nd b).r) 60 (0, 0)), ?_, (mod_set wq p4 _).mono (fun i _ e => by rw [e]; exact k1), k1, heap_setBlock wq _ (lt_size k2)⟩; exact run_store_box k2 (by kernel_rfl) rfl (by simp [Value.oneCell']))); replace gK := (Good.at p4 (.cells (rkc (nd b).r) 60 (0, 0))); (try simp only [Act.put, zF, zG, zH]))
    (refine TG.v0 (v := ?v33) (by simp only [zA, zB, zC]; rfl) rfl ?hw33 (fun w1 => ?hy33) ?hn33; (case hw33 => rfl); (case hy33 => (go_simp; (try with_reducible rfl))); (try simp only [Act.put, zF, zG, zH]))
    (refine TG.v0 (v := ?v34) (by simp only [zA, zB, zC]; rfl) rfl ?hw34 (fun w1 => ?hy34) ?hn34; (case hw34 => rfl); (case hy34 => (go_simp; (try with_reducible rfl))); (try simp only [Act.put, zF, zG, zH]))
    refine TG.nil (fun w4 ⟨TR, hr⟩ => ?_)
    have kn0 := hr.mod.at kn0 (by intro hT; first | exact hT | exact absurd hT (by assumption) | omega | (simp only at hT; omega))
    clear gK
    obtain ⟨_, kp4⟩ := hr.k
    have m5 : Mod (fun _ => False) w w4 := m3.then hr.mod (fun i hi e => by subst e; have := gp4; omega)
    go_wp2_with fail
    exact bodyPost_ret (results_cell3 (x := .agg (rkc (nd b).r)) rfl rfl (by rw [ldRk]; simp [kp4, rkc])) rfl ⟨nd b, HB.out, rfl, m5⟩
  · obtain ⟨g, cap, cur, rfl, _, kg, hcap, hcs, hcur, _⟩ := own_row H.d1.own (fun e => by simp only [if_true, if_false, Bool.false_eq_true] at hb; rw [e] at hb; cases hb)
    have c0 := hcur 0 b hb
    have hl0 := (List.getElem?_eq_some_iff.1 hb).1
    have ks := H.d1.side
    have kn0 := H.d1.nodes 0 b hb
    simp only [if_true, if_false, Bool.false_eq_true] at hl0
    simp only [ndc, if_true, if_false, Bool.false_eq_true] at kn0
    simp only [sdc, kn, if_true, if_false, Bool.false_eq_true] at ks
    have HKB := Lib.hid kn0
    clear H hO M hC hm0 hcur hb
    show Calls Tryd.prog _ #[ptrV h, .int .i64 1] w _
    go_enter Tryd.func54, Tryd.ntmps54
    go_upto_region 0 with fail
    have Lkh := lt_size kh
    have Lkb := lt_size kb
    have Lks := lt_size ks
    have Lkg := lt_size kg
    have Lkn0 := lt_size kn0
    refine wp_pass0 (C := fun _ _ _ => False) (κ := fun i => [3, 0, 0].getD i 0) [0, 1, 2] (by kernel_rfl) (by kernel_rfl) (fun _ _ d _ _ h => by cases d <;> first | exact h | exact absurd h (hP _ _ _)) ?_
    (refine TD.allocB (by simp only [zA, zB, zC]; rfl) rfl ?hw35 rfl rfl alRk (fun p4 hp4 => ?hn35); (case hw35 => rfl); (try simp only [Act.put, zF, zG, zH]))
    (refine TD.val0 (v := ?v36) (by simp only [zA, zB, zC]; rfl) rfl ?hw36 (fun w1 => ?hy36) ?hn36; (case hw36 => rfl); (case hy36 => (go_simp; (try with_reducible rfl))); (try simp only [Act.put, zF, zG, zH]))
    (refine TD.val0 (v := ?v37) (by simp only [zA, zB, zC]; rfl) rfl ?hw37 (fun w1 => ?hy37) ?hn37; (case hw37 => rfl); (case hy37 => (go_simp; (try with_reducible rfl))); (try simp only [Act.put, zF, zG, zH]))
    refine TD.nil (fun w1 hr => ?_)
    have kh := hr.mod.at kh (fun h => h)
    have kb := hr.mod.at kb (fun h => h)
    have ks := hr.mod.at ks (fun h => h)
    have kg := hr.mod.at kg (fun h => h)
    have kn0 := hr.mod.at kn0 (fun h => h)
    have kp4 := hr.box p4 _ (by first | exact Bx.set_same _ _ _ | (simp only [Bx.set_same]; rfl)); dsimp only [Value.cells] at kp4; obtain ⟨gp4, kp4⟩ := kp4
    have m1 := hr.mod
    clear hr
    have hle1 := fun ty => hle ty w1 kb
    clear hle
    go_wp2_with fail
    go_at_call 55
    refine (there_c kh).mono ?_
    rintro e w2 ⟨rfl, rfl⟩
    replace kp4 : w2.heap[p4]? = some (.cells #[.int .u64 0, .int .u64 0] 60 (0, 0)) := kp4
    go_upto_region 3 with fail
    have Lkh := lt_size kh
    have Lks := lt_size ks
    have Lkg := lt_size kg
    have Lkn0 := lt_size kn0
    have Lkp4 := lt_size kp4
    refine wp_pass0 (C := fun _ _ _ => False) (κ := fun i => [0, 0, 0, 0, 0, 1, 0, 0, 1, 0, 1, 0].getD i 0) [0, 1, 2, 3, 4, 5, 6, 7, 8, 9, 10, 11] (by kernel_rfl) (by kernel_rfl) (fun _ _ d _ _ h => by cases d <;> first | exact h | exact absurd h (hP _ _ _)) ?_
    (refine TD.val0 (v := ?v38) (by simp only [zA, zB, zC]; rfl) rfl ?hw38 (fun w1 => ?hy38) ?hn38; (case hw38 => rfl); (case hy38 => (go_simp; (try with_reducible rfl))); (try simp only [Act.put, zF, zG, zH]))
    (refine TD.val0 (v := ?v39) (by simp only [zA, zB, zC]; rfl) rfl ?hw39 (fun w1 => ?hy39) ?hn39; (case hw39 => rfl); (case hy39 => (go_simp; (try with_reducible rfl))); (try simp only [Act.put, zF, zG, zH]))
    (refine TD.val0 (v := ?v40) (by simp only [zA, zB, zC]; rfl) rfl ?hw40 (fun w1 => ?hy40) ?hn40; (case hw40 => rfl); (case hy40 => (go_simp; (try with_reducible rfl))); (try simp only [Act.put, zF, zG, zH]))
    (refine TD.val0 (v := ?v41) (by simp only [zA, zB, zC]; rfl) rfl ?hw41 (fun w1 => ?hy41) ?hn41; (case hw41 => rfl); (case hy41 => (go_simp; (try with_reducible rfl))); (try simp only [Act.put, zF, zG, zH]))
    (refine TD.val0 (v := ?v42) (by simp only [zA, zB, zC]; rfl) rfl ?hw42 (fun w1 => ?hy42) ?hn42; (case hw42 => rfl); (case hy42 => (go_simp; (try with_reducible rfl))); (try simp only [Act.put, zF, zG, zH]))
    (refine TD.load (v := ?v43) (p := ?p43) (Mod.refl _ _) (by simp only [zA, zB, zC]; rfl) rfl ?hw43 rfl ?hx43 (fun wq hSq => ?hy43) ?hn43; (case hw43 => rfl); (case hx43 => (simp only [Act.eval, zD, zA, zB, zC, zE]; (try rfl))); (case hy43 => (have khq := hSq.at kh (fun h => h); have ksq := hSq.at ks (fun h => h); have kgq := hSq.at kg (fun h => h); have kn0q := hSq.at kn0 (fun h => h); have kp4q := hSq.at kp4 (fun h => h); go_simp; (try with_reducible rfl))); (try simp only [Act.put, zF, zG, zH]))
    (refine TD.val0 (v := ?v44) (by simp only [zA, zB, zC]; rfl) rfl ?hw44 (fun w1 => ?hy44) ?hn44; (case hw44 => rfl); (case hy44 => (go_simp; (try with_reducible rfl))); (try simp only [Act.put, zF, zG, zH]))
    (refine TD.val0 (v := ?v45) (by simp only [zA, zB, zC]; rfl) rfl ?hw45 (fun w1 => ?hy45) ?hn45; (case hw45 => rfl); (case hy45 => (go_simp; (try with_reducible rfl))); (try simp only [Act.put, zF, zG, zH]))
    (refine TD.load (v := ?v46) (p := ?p46) (Mod.refl _ _) (by simp only [zA, zB, zC]; rfl) rfl ?hw46 rfl ?hx46 (fun wq hSq => ?hy46) ?hn46; (case hw46 => rfl); (case hx46 => (simp only [Act.eval, zD, zA, zB, zC, zE]; (try rfl))); (case hy46 => (have khq := hSq.at kh (fun h => h); have ksq := hSq.at ks (fun h => h); have kgq := hSq.at kg (fun h => h); have kn0q := hSq.at kn0 (fun h => h); have kp4q := hSq.at kp4 (fun h => h); go_simp; (try with_reducible rfl))); (try simp only [Act.put, zF, zG, zH]))
    (refine TD.val0 (v := ?v47) (by simp only [zA, zB, zC]; rfl) rfl ?hw47 (fun w1 => ?hy47) ?hn47; (case hw47 => rfl); (case hy47 => (go_simp; (try with_reducible rfl))); (try simp only [Act.put, zF, zG, zH]))
    (refine TD.load (v := ?v48) (p := ?p48) (Mod.refl _ _) (by simp only [zA, zB, zC]; rfl) rfl ?hw48 rfl ?hx48 (fun wq hSq => ?hy48) ?hn48; (case hw48 => rfl); (case hx48 => (simp only [Act.eval, zD, zA, zB, zC, zE]; (try rfl))); (case hy48 => (have khq := hSq.at kh (fun h => h); have ksq := hSq.at ks (fun h => h); have kgq := hSq.at kg (fun h => h); have kn0q := hSq.at kn0 (fun h => h); have kp4q := hSq.at kp4 (fun h => h); go_simp; (try with_reducible rfl))); (try simp only [Act.put, zF, zG, zH]))
    (refine TD.val0 (v := ?v49) (by simp only [zA, zB, zC]; rfl) rfl ?hw49 (fun w1 => ?hy49) ?hn49; (case hw49 => rfl); (case hy49 => (go_simp; (try with_reducible rfl))); (try simp only [Act.put, zF, zG, zH]))
    refine TD.nil (fun w3 hr => ?_)
    have kh := hr.mod.at kh (fun h => h)
    have ks := hr.mod.at ks (fun h => h)
    have kg := hr.mod.at kg (fun h => h)
    have kn0 := hr.mod.at kn0 (fun h => h)
    have kp4 := hr.mod.at kp4 (fun h => h)
    have m3 := m1.then0 hr.mod
    clear hr hle1
    go_upto_region 4 with fail
    have hbp : b ≠ p4 := fun e => by have := lt_size HKB.out; omega
    have Lkn0 := lt_size kn0
    refine wp_gpass (T0 := fun i => i = p4) (K := fun T w => T p4 ∧ w.heap[p4]? = some (.cells #[.int .u64 0, .int .u64 0] 60 (0, 0))) (κ := fun i => [0, 0, 0, 0, 0, 0, 0, 0, 6, 0, 0].getD i 0) (υ := fun i => [[], [], [], [], [], [], [], [], [], [], []].getD i []) [0, 1, 2, 3, 4, 5, 6, 7, 8, 9, 10] (by kernel_rfl) (by kernel_rfl) (Good.at p4 (.cells #[.int .u64 0, .int .u64 0] 60 (0, 0))).cl (⟨rfl, kp4⟩) (fun i hi => by subst hi; exact lt_size kp4) ?_
    have gK := Good.at p4 (.cells #[.int .u64 0, .int .u64 0] 60 (0, 0))
    (refine TG.v0 (v := ?v50) (by simp only [zA, zB, zC]; rfl) rfl ?hw50 (fun w1 => ?hy50) ?hn50; (case hw50 => rfl); (case hy50 => (go_simp; (try with_reducible rfl))); (try simp only [Act.put, zF, zG, zH]))
    (refine TG.v0 (v := ?v51) (by simp only [zA, zB, zC]; rfl) rfl ?hw51 (fun w1 => ?hy51) ?hn51; (case hw51 => rfl); (case hy51 => (go_simp; (try with_reducible rfl))); (try simp only [Act.put, zF, zG, zH]))
    (refine TG.v0 (v := ?v52) (by simp only [zA, zB, zC]; rfl) rfl ?hw52 (fun w1 => ?hy52) ?hn52; (case hw52 => rfl); (case hy52 => (go_simp; (try with_reducible rfl))); (try simp only [Act.put, zF, zG, zH]))
    (refine TG.load (v := ?v53) (p := ?p53) (by simp only [zA, zB, zC]; rfl) rfl ?hw53 rfl ?hx53 (fun wq hSq => ?hy53) ?hn53; (case hw53 => rfl); (case hx53 => (simp only [Act.eval, zD, zA, zB, zC, zE]; (try rfl))); (case hy53 => (have kn0q := hSq.at kn0 (by intro hT; first | exact hT | exact absurd hT (by assumption) | omega | (simp only at hT; omega)); go_simp; (try with_reducible rfl))); (try simp only [Act.put, zF, zG, zH]))
    (refine TG.v0 (v := ?v54) (by simp only [zA, zB, zC]; rfl) rfl ?hw54 (fun w1 => ?hy54) ?hn54; (case hw54 => rfl); (case hy54 => (go_simp; (try with_reducible rfl))); (try simp only [Act.put, zF, zG, zH]))
    (refine TG.v0 (v := ?v55) (by simp only [zA, zB, zC]; rfl) rfl ?hw55 (fun w1 => ?hy55) ?hn55; (case hw55 => rfl); (case hy55 => (go_simp; (try with_reducible rfl))); (try simp only [Act.put, zF, zG, zH]))
    (refine TG.v0 (v := ?v56) (by simp only [zA, zB, zC]; rfl) rfl ?hw56 (fun w1 => ?hy56) ?hn56; (case hw56 => rfl); (case hy56 => (go_simp; (try with_reducible rfl))); (try simp only [Act.put, zF, zG, zH]))
    (refine TG.load (v := ?v57) (p := ?p57) (by simp only [zA, zB, zC]; rfl) rfl ?hw57 rfl ?hx57 (fun wq hSq => ?hy57) ?hn57; (case hw57 => rfl); (case hx57 => (simp only [Act.eval, zD, zA, zB, zC, zE]; (try rfl))); (case hy57 => (have kn0q := hSq.at kn0 (by intro hT; first | exact hT | exact absurd hT (by assumption) | omega | (simp only at hT; omega)); go_simp; (try with_reducible rfl))); (try simp only [Act.put, zF, zG, zH]))
    (refine TG.storeO (X := ?X58) (Y := ?Y58) (fun T w => T p4 ∧ w.heap[p4]? = some (.cells (rkc (nd b).r) 60 (0, 0))) (Good.at p4 (.cells (rkc (nd b).r) 60 (0, 0))) (by simp only [zA, zB, zC]; rfl) rfl ?hw58 rfl rfl ?hx58 ?hz58 (fun T wq kq => ?hy58) (fun _ => ?hn58); (case hw58 => rfl); (case hx58 => (simp only [Act.eval, zD, zA, zB, zC, zE]; (try rfl))); (case hz58 => (simp only [Act.eval, zD, zA, zB, zC, zE]; (try rfl))); (case hy58 => (obtain ⟨k1, k2⟩ := kq; refine ⟨setBlock wq p4 (.cells (rkc (nd b).r) 60 (0, 0)), ?_, (mod_set wq p4 _).mono (fun i _ e => by rw [e]; exact k1), k1, heap_setBlock wq _ (lt_size k2)⟩; exact run_store_box k2 (by kernel_rfl) rfl (by simp [Value.oneCell']))); replace gK := (Good.at p4 (.cells (rkc (nd b).r) 60 (0, 0))); (try simp only [Act.put, zF, zG, zH]))
    (refine TG.v0 (v := ?v59) (by simp only [zA, zB, zC]; rfl) rfl ?hw59 (fun w1 => ?hy59) ?hn59; (case hw59 => rfl); (case hy59 => (go_simp; (try with_reducible rfl))); (try simp only [Act.put, zF, zG, zH]))
    (refine TG.v0 (v := ?v60) (by simp only [zA, zB, zC]; rfl) rfl ?hw60 (fun w1 => ?hy60) ?hn60; (case hw60 => rfl); (case hy60 => (go_simp; (try with_reducible rfl))); (try simp only [Act.put, zF, zG, zH]))
    refine TG.nil (fun w4 ⟨TR, hr⟩ => ?_)
    have kn0 := hr.mod.at kn0 (by intro hT; first | exact hT | exact absurd hT (by assumption) | omega | (simp only at hT; omega))
    clear gK
    obtain ⟨_, kp4⟩ := hr.k
    have m5 : Mod (fun _ => False) w w4 := m3.then hr.mod (fun i hi e => by subst e; have := gp4; omega)
    go_wp2_with fail
    exact bodyPost_ret (results_cell3 (x := .agg (rkc (nd b).r)) rfl rfl (by rw [ldRk]; simp [kp4, rkc])) rfl ⟨nd b, HB.out, rfl, m5⟩
end Go.Proofs.YtdeghpmlhcaedaaDoor
