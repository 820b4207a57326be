/- Ranks: both ends, the list in order (the contracts, without the document's heap); what is alike in lists of ids. -/
import Derived.Test.YtdeghpmlhcaedaaDoorRls
import Derived.Test.YtdeghpmlhcaedaaDoorTf
namespace Go.Proofs.YtdeghpmlhcaedaaDoor
open Go.RowKit Go.Sort
open Go.ChangeMaps (setBlock)
set_option linter.unusedSimpArgs false
set_option linter.unusedVariables false
attribute [local go_sem ↓] wlRk ldRk stRk eqRk eqRk2
attribute [local go_sem] rkc_size ndc_size cell_blk frozen_blk one_int one_bool one_ptr one_slice one_map Value.cells rkc_all1
theorem ic_cell {w : World} {base : Nat} {v : Value} {l : List Int64} (h : SlOwn ic 1 3 w base v l) {i : Nat} {x : Int64} (hx : l[i]? = some x) : ∃ g cap C, v = .slice (some ⟨g, 0, none⟩) l.length cap ∧ base ≤ g ∧ w.heap[g]? = some (.cells C 3 (0, 0)) ∧ C[i]? = some (.int .i64 x.toInt) := by
  have hi := (List.getElem?_eq_some_iff.1 hx).1
  rcases h.2 with ⟨_, hn⟩ | ⟨g, cap, cur, rfl, hb, hg, hnc, hcm, hcs, htake⟩
  · omega
  · refine ⟨g, cap, cur, rfl, hb, hg, ?_⟩
    rw [Nat.mul_one, cellsOf_ic] at htake
    have h1 := congrArg (fun l => l[i]?) htake
    simp only [List.getElem?_take, List.getElem?_map, hx, Option.map_some, if_pos hi] at h1
    simpa using h1
set_option maxRecDepth 20000 in
theorem bsInt (x : Int64) (w : World) : (Instr.buildSlice 51 1 #[(0, .int .i64 x.toInt)]).run Tryd.prog w = .ok (.slice (some ⟨w.heap.size, 0, none⟩) 1 1) (w.alloc (.cells (ic x) 3)) := by
  obtain ⟨i0, z, hi, hz, hz1, hz2, hz3⟩ := intT.info
  refine run_buildSlice w _ _ 1 _ _ i0 _ Tryd.underlying51 hi hz (by rw [hz1]; omega) (by rw [hz1]; omega) ?_
  rw [hz1]
  show Instr.fill _ _ [(0, _)] = _
  rw [fill_cons (off := 0) (n := 1) rfl rfl (by simp)]
  show some (wr _ 0 (ic x).toList) = _
  rw [wr_whole (ic x) _ (by simp [ic, hz3])]
set_option maxRecDepth 20000 in
set_option maxHeartbeats 3200000 in
theorem sameA_c {a1 a2 : Option Addr} {c1 c2 : Nat} {l m : List Int64} {w : World} (hv : SlAt ic 1 w a1 l) (hu : SlAt ic 1 w a2 m) (hl : l.length ≤ 900000) (hm : m.length ≤ 900000) : Calls Tryd.prog 19 #[.slice a1 l.length c1, .slice a2 m.length c2] w fun e w' => e = .returned (.bool (decide (l = m))) ∧ Mod (fun _ => False) w w' := by
  have HV := Lib.hid (And.intro hv hu)
  clear hv hu
  go_enter Tryd.func19, Tryd.ntmps19
  go_wp2_with fail
  go_loopw [5] (fun s5 ws => ∃ i : Nat, i ≤ l.length ∧ i ≤ m.length ∧ s5 = .int .i64 (i : Int) ∧ Hid (l.take i = m.take i) ∧ Mod (fun _ => False) w ws) (fun s5 _ => l.length - (intOf s5).toNat)
  case atStart => exact ⟨0, by omega, by omega, rfl, Lib.hid (by simp), Mod.refl _ _⟩
  case round =>
    obtain ⟨i, hi1, hi2, rfl, HT, hmw⟩ := hrel
    by_cases hlt : i < l.length
    · by_cases hlt2 : i < m.length
      · obtain ⟨x, hx⟩ : ∃ x, l[i]? = some x := ⟨_, List.getElem?_eq_getElem hlt⟩
        obtain ⟨y, hy⟩ : ∃ y, m[i]? = some y := ⟨_, List.getElem?_eq_getElem hlt2⟩
        obtain ⟨g1, o1, C1, U1, fr1, rfl, k1, he1, _⟩ := (HV.out.1.mod0 hmw).block hx
        obtain ⟨g2, o2, C2, U2, fr2, rfl, k2, he2, _⟩ := (HV.out.2.mod0 hmw).block hy
        have q1 : C1[o1 + i]? = some (.int .i64 x.toInt) := by have h0 := cellC he1 (j := 0) (v := .int .i64 x.toInt) rfl; simpa using h0
        have q2 : C2[o2 + i]? = some (.int .i64 y.toInt) := by have h0 := cellC he2 (j := 0) (v := .int .i64 y.toInt) rfl; simpa using h0
        clear he1 he2
        have HX := Lib.hid (And.intro hx hy)
        clear hx hy
        by_cases hxy : x = y
        · subst hxy
          go_upto_region 4 with fail
          have Lk1 := lt_size k1
          have Lk2 := lt_size k2
          refine wp_pass (C := fun _ _ _ => False) (κ := fun i => [0, 0, 0, 1, 0, 0, 0, 1, 0].getD i 0) [0, 1, 2, 3, 4, 5, 6, 7, 8] (by kernel_rfl) (by kernel_rfl) (fun _ _ d _ _ h => by cases d <;> first | exact h | exact absurd h (hP _ _ _)) ?_
          (refine TD.val0 (v := ?v1) (by simp only [zA, zB, zC]; rfl) rfl ?hw1 (fun w1 => ?hy1) ?hn1; (case hw1 => rfl); (case hy1 => (go_simp; (try with_reducible rfl))); (try simp only [Act.put, zF, zG, zH]))
          (refine TD.val0 (v := ?v2) (by simp only [zA, zB, zC]; rfl) rfl ?hw2 (fun w1 => ?hy2) ?hn2; (case hw2 => rfl); (case hy2 => (go_simp; (try with_reducible rfl))); (try simp only [Act.put, zF, zG, zH]))
          (refine TD.val0 (v := ?v3) (by simp only [zA, zB, zC]; rfl) rfl ?hw3 (fun w1 => ?hy3) ?hn3; (case hw3 => rfl); (case hy3 => (go_simp; (try with_reducible rfl))); (try simp only [Act.put, zF, zG, zH]))
          (refine TD.load (v := ?v4) (p := ?p4) (Mod.refl _ _) (by simp only [zA, zB, zC]; rfl) rfl ?hw4 rfl ?hx4 (fun wq hSq => ?hy4) ?hn4; (case hw4 => rfl); (case hx4 => (simp only [Act.eval, zD, zA, zB, zC, zE]; (try rfl))); (case hy4 => (have k1q := hSq.at k1 (fun h => h); have k2q := hSq.at k2 (fun h => h); go_simp; (try with_reducible rfl))); (try simp only [Act.put, zF, zG, zH]))
          (refine TD.val0 (v := ?v5) (by simp only [zA, zB, zC]; rfl) rfl ?hw5 (fun w1 => ?hy5) ?hn5; (case hw5 => rfl); (case hy5 => (go_simp; (try with_reducible rfl))); (try simp only [Act.put, zF, zG, zH]))
          (refine TD.val0 (v := ?v6) (by simp only [zA, zB, zC]; rfl) rfl ?hw6 (fun w1 => ?hy6) ?hn6; (case hw6 => rfl); (case hy6 => (go_simp; (try with_reducible rfl))); (try simp only [Act.put, zF, zG, zH]))
          (refine TD.val0 (v := ?v7) (by simp only [zA, zB, zC]; rfl) rfl ?hw7 (fun w1 => ?hy7) ?hn7; (case hw7 => rfl); (case hy7 => (go_simp; (try with_reducible rfl))); (try simp only [Act.put, zF, zG, zH]))
          (refine TD.load (v := ?v8) (p := ?p8) (Mod.refl _ _) (by simp only [zA, zB, zC]; rfl) rfl ?hw8 rfl ?hx8 (fun wq hSq => ?hy8) ?hn8; (case hw8 => rfl); (case hx8 => (simp only [Act.eval, zD, zA, zB, zC, zE]; (try rfl))); (case hy8 => (have k1q := hSq.at k1 (fun h => h); have k2q := hSq.at k2 (fun h => h); go_simp; (try with_reducible rfl))); (try simp only [Act.put, zF, zG, zH]))
          (refine TD.val0 (v := ?v9) (by simp only [zA, zB, zC]; rfl) rfl ?hw9 (fun w1 => ?hy9) ?hn9; (case hw9 => rfl); (case hy9 => (go_simp; (try with_reducible rfl))); (try simp only [Act.put, zF, zG, zH]))
          refine TD.nil (fun w2 hr => ?_)
          have k1 := hr.mod.at k1 (fun h => h)
          have k2 := hr.mod.at k2 (fun h => h)
          have mm := hmw.then0 hr.mod
          clear hr
          go_wp2_with fail
          go_roundw
          case rel => exact ⟨i + 1, by omega, by omega, by go_num, Lib.hid (by
            rw [List.take_add_one, List.take_add_one, HT.out, HX.out.1, HX.out.2]), mm⟩
          case measure => simp [intOf]; omega
        · have hde : (x.toInt != y.toInt) = true := by
            rw [bne_iff_ne]
            exact fun e => hxy (Int64.toInt_inj.1 e)
          have HXY := Lib.hid hxy
          clear hxy
          go_upto_region 4 with fail
          have Lk1 := lt_size k1
          have Lk2 := lt_size k2
          refine wp_pass (C := fun _ _ _ => False) (κ := fun i => [0, 0, 0, 1, 0, 0, 0, 1, 0].getD i 0) [0, 1, 2, 3, 4, 5, 6, 7, 8] (by kernel_rfl) (by kernel_rfl) (fun _ _ d _ _ h => by cases d <;> first | exact h | exact absurd h (hP _ _ _)) ?_
          (refine TD.val0 (v := ?v10) (by simp only [zA, zB, zC]; rfl) rfl ?hw10 (fun w1 => ?hy10) ?hn10; (case hw10 => rfl); (case hy10 => (go_simp; (try with_reducible rfl))); (try simp only [Act.put, zF, zG, zH]))
          (refine TD.val0 (v := ?v11) (by simp only [zA, zB, zC]; rfl) rfl ?hw11 (fun w1 => ?hy11) ?hn11; (case hw11 => rfl); (case hy11 => (go_simp; (try with_reducible rfl))); (try simp only [Act.put, zF, zG, zH]))
          (refine TD.val0 (v := ?v12) (by simp only [zA, zB, zC]; rfl) rfl ?hw12 (fun w1 => ?hy12) ?hn12; (case hw12 => rfl); (case hy12 => (go_simp; (try with_reducible rfl))); (try simp only [Act.put, zF, zG, zH]))
          (refine TD.load (v := ?v13) (p := ?p13) (Mod.refl _ _) (by simp only [zA, zB, zC]; rfl) rfl ?hw13 rfl ?hx13 (fun wq hSq => ?hy13) ?hn13; (case hw13 => rfl); (case hx13 => (simp only [Act.eval, zD, zA, zB, zC, zE]; (try rfl))); (case hy13 => (have k1q := hSq.at k1 (fun h => h); have k2q := hSq.at k2 (fun h => h); go_simp; (try with_reducible rfl))); (try simp only [Act.put, zF, zG, zH]))
          (refine TD.val0 (v := ?v14) (by simp only [zA, zB, zC]; rfl) rfl ?hw14 (fun w1 => ?hy14) ?hn14; (case hw14 => rfl); (case hy14 => (go_simp; (try with_reducible rfl))); (try simp only [Act.put, zF, zG, zH]))
          (refine TD.val0 (v := ?v15) (by simp only [zA, zB, zC]; rfl) rfl ?hw15 (fun w1 => ?hy15) ?hn15; (case hw15 => rfl); (case hy15 => (go_simp; (try with_reducible rfl))); (try simp only [Act.put, zF, zG, zH]))
          (refine TD.val0 (v := ?v16) (by simp only [zA, zB, zC]; rfl) rfl ?hw16 (fun w1 => ?hy16) ?hn16; (case hw16 => rfl); (case hy16 => (go_simp; (try with_reducible rfl))); (try simp only [Act.put, zF, zG, zH]))
          (refine TD.load (v := ?v17) (p := ?p17) (Mod.refl _ _) (by simp only [zA, zB, zC]; rfl) rfl ?hw17 rfl ?hx17 (fun wq hSq => ?hy17) ?hn17; (case hw17 => rfl); (case hx17 => (simp only [Act.eval, zD, zA, zB, zC, zE]; (try rfl))); (case hy17 => (have k1q := hSq.at k1 (fun h => h); have k2q := hSq.at k2 (fun h => h); go_simp; (try with_reducible rfl))); (try simp only [Act.put, zF, zG, zH]))
          (refine TD.val0 (v := ?v18) (by simp only [zA, zB, zC]; rfl) rfl ?hw18 (fun w1 => ?hy18) ?hn18; (case hw18 => rfl); (case hy18 => (go_simp; (try with_reducible rfl))); (try simp only [Act.put, zF, zG, zH]))
          refine TD.nil (fun w2 hr => ?_)
          have k1 := hr.mod.at k1 (fun h => h)
          have k2 := hr.mod.at k2 (fun h => h)
          have mm := hmw.then0 hr.mod
          clear hr
          go_wp2_with fail
          go_ret
          refine ⟨?_, mm⟩
          rw [decide_eq_false (fun e => by
            subst e
            have := HX.out.1.symm.trans HX.out.2
            exact HXY.out (by injection this))]
          rfl
      · have hne : ((l.length : Int) == (m.length : Int)) = false := by rw [beq_eq_false_iff_ne]; omega
        go_wp2_with fail
        go_ret
        refine ⟨?_, hmw⟩
        rw [decide_eq_false (fun e => by rw [e] at hlt; omega)]
        rfl
    · have hie : i = l.length := by omega
      by_cases hle : l.length = m.length
      · have hll : l = m := by
          have := HT.out
          rw [List.take_of_length_le (by omega), List.take_of_length_le (by omega)] at this
          exact this
        have HLL := Lib.hid hll
        clear hll
        have hne : ((l.length : Int) == (m.length : Int)) = true := by rw [beq_iff_eq]; omega
        clear hle
        go_wp2_with fail
        go_ret
        exact ⟨by rw [decide_eq_true HLL.out]; rfl, hmw⟩
      · have hne : ((l.length : Int) == (m.length : Int)) = false := by rw [beq_eq_false_iff_ne]; omega
        go_wp2_with fail
        go_ret
        refine ⟨?_, hmw⟩
        rw [decide_eq_false (fun e => hle (by rw [e]))]
        rfl
theorem same_c {v u : Value} {b b' : Nat} {l m : List Int64} {w : World} (hv : SlOwn ic 1 3 w b v l) (hu : SlOwn ic 1 3 w b' u m) (hl : l.length ≤ 900000) (hm : m.length ≤ 900000) : Calls Tryd.prog 19 #[v, u] w fun e w' => e = .returned (.bool (decide (l = m))) ∧ Mod (fun _ => False) w w' := by
  obtain ⟨a1, c1, rfl, h1, _⟩ := hv.at intT
  obtain ⟨a2, c2, rfl, h2, _⟩ := hu.at intT
  exact sameA_c h1 h2 hl hm
/-- An end of a heap: a rank, an id, whether there is one. -/
structure En where
  r : Rk
  id : Int64
  ok : Bool
def env (e : En) : Value := .tuple #[.agg (rkc e.r), .int .i64 e.id.toInt, .bool e.ok]
def enOf : Option Nd → En
  | none => ⟨rk0, 0, false⟩
  | some x => ⟨x.r, x.id, true⟩
theorem Srt.head {x : Nd} {l : List Nd} (h : Srt (x :: l)) : ∀ y ∈ x :: l, nlt y x = false := fun y hy => by
  rcases List.mem_cons.1 hy with rfl | hy
  · exact nlt_irrefl _
  · exact nlt_asymm (List.rel_of_pairwise_cons h hy)
theorem Srt.last {x : Nd} {l : List Nd} (h : Srt (l ++ [x])) : ∀ y ∈ l ++ [x], nlt x y = false := fun y hy => by
  rcases List.mem_append.1 hy with hy | hy
  · exact nlt_asymm ((List.pairwise_append.1 h).2.2 y hy x (by simp))
  · rw [List.mem_singleton.1 hy]
    exact nlt_irrefl _
theorem best_top {C D : List Nd} {x y : Nd} (hD : D.Perm C) (hS : Srt D) (hb : Best false C x) (hh : D.head? = some y) : x = y := by
  match D, hh with
  | z :: r, hh =>
    simp only [List.head?_cons, Option.some.injEq] at hh
    subst hh
    exact nlt_total (hS.head x (hD.mem_iff.2 hb.1)) (hb.2 z (hD.mem_iff.1 (by simp)))
theorem best_bot {C D : List Nd} {x y : Nd} (hD : D.Perm C) (hS : Srt D) (hb : Best true C x) (hh : D.getLast? = some y) : x = y := by
  obtain ⟨r, rfl⟩ : ∃ r, D = r ++ [y] := by
    obtain ⟨h1, h2⟩ := List.getLast?_eq_some_iff.1 hh
    exact ⟨_, h2⟩
  exact nlt_total (hb.2 y (hD.mem_iff.1 (by simp))) (hS.last x (hD.mem_iff.2 hb.1))
theorem endS0 {C D : List Nd} (hD : D.Perm C) : C = [] ↔ D = [] := ⟨fun h => by subst h; exact hD.eq_nil, fun h => by subst h; exact hD.symm.eq_nil⟩
theorem srt_unique : ∀ {l D : List Nd}, l.Perm D → Srt l → Srt D → l = D
  | [], D, h, _, _ => h.nil_eq
  | x :: l, [], h, _, _ => absurd h.length_eq (by simp)
  | x :: l, y :: D, h, h1, h2 => by
    have e1 := h1.head y (h.mem_iff.2 (by simp))
    have e2 := h2.head x (h.mem_iff.1 (by simp))
    have e := nlt_total e1 e2
    subst e
    rw [srt_unique h.cons_inv (List.Pairwise.of_cons h1) (List.Pairwise.of_cons h2)]
set_option maxRecDepth 20000 in
set_option maxHeartbeats 3200000 in
theorem top0_c {h : Nat} {T : Nat → Prop} {w : World} (hA : HAt h [] T w) : Calls Tryd.prog 37 #[ptrV h] w fun e w' => e = .returned (.tuple #[.agg (rkc rk0), .int .i64 0, .bool false]) ∧ Mod (fun _ => False) w w' := by
  have HA := Lib.hid hA
  clear hA
  go_enter Tryd.func37, Tryd.ntmps37
  go_upto_region 0 with fail
  refine wp_pass0 (C := fun _ _ _ => False) (κ := fun i => [3, 0, 0].getD i 0) [0, 1, 2] (by kernel_rfl) (by kernel_rfl) (fun _ _ d _ _ h => by cases d <;> first | exact h | exact absurd h (hP _ _ _)) ?_
  (refine TD.allocB (by simp only [zA, zB, zC]; rfl) rfl ?hw19 rfl rfl alRk (fun p2 hp2 => ?hn19); (case hw19 => rfl); (try simp only [Act.put, zF, zG, zH]))
  (refine TD.val0 (v := ?v20) (by simp only [zA, zB, zC]; rfl) rfl ?hw20 (fun w1 => ?hy20) ?hn20; (case hw20 => rfl); (case hy20 => (go_simp; (try with_reducible rfl))); (try simp only [Act.put, zF, zG, zH]))
  (refine TD.val0 (v := ?v21) (by simp only [zA, zB, zC]; rfl) rfl ?hw21 (fun w1 => ?hy21) ?hn21; (case hw21 => rfl); (case hy21 => (go_simp; (try with_reducible rfl))); (try simp only [Act.put, zF, zG, zH]))
  refine TD.nil (fun w1 hr => ?_)
  have kp2 := hr.box p2 _ (by first | exact Bx.set_same _ _ _ | (simp only [Bx.set_same]; rfl)); dsimp only [Value.cells] at kp2; obtain ⟨gp2, kp2⟩ := kp2
  have m1 := hr.mod
  clear hr
  have hA1 := (HAt.good h []).cl T w w1 HA.out (m1.mono (fun _ _ h => h.elim))
  have hcall : ∀ wq, Mod (fun _ => False) w1 wq → Calls Tryd.prog 54 #[ptrV h, .int .i64 0] wq fun e w' => e = .returned (.tuple #[.agg (rkc rk0), .int .i64 0, .bool false]) ∧ Mod (fun _ => False) wq w' := fun wq hq => end0_c ((HAt.good h []).cl T w1 wq hA1 (hq.mono (fun _ _ h => h.elim))) 0
  have HC := Lib.hid hcall
  clear hA1 hcall
  replace kp2 : w1.heap[p2]? = some (.cells #[.int .u64 0, .int .u64 0] 60 (0, 0)) := kp2
  go_upto_region 1 with fail
  have Lkp2 := lt_size kp2
  refine wp_pass0 (C := fun _ _ v => v = .tuple #[.agg (rkc rk0), .int .i64 0, .bool false]) (κ := fun i => [0, 2, 0, 0, 0, 5, 0, 0].getD i 0) [0, 1, 2, 3, 4, 5, 6, 7] (by kernel_rfl) (by kernel_rfl) (fun _ _ d _ _ h => by cases d <;> first | exact h | exact absurd h (hP _ _ _)) ?_
  (refine TD.val0 (v := ?v22) (by simp only [zA, zB, zC]; rfl) rfl ?hw22 (fun w1 => ?hy22) ?hn22; (case hw22 => rfl); (case hy22 => (go_simp; (try with_reducible rfl))); (try simp only [Act.put, zF, zG, zH]))
  (refine TD.call (f := ?f23) (args := ?r23) (Mod.refl _ _) (by simp only [zA, zB, zC]; rfl) rfl ?hw23 (fun w1 => ?hy23) ?hsp23 ?hn23; (case hw23 => rfl); (case hy23 => (go_simp; (first | with_reducible rfl | (constructor <;> with_reducible rfl)))); (case hsp23 => (intro wq hSq; have kp2q := hSq.at kp2 (fun h => h); exact (HC.out wq hSq).mono (fun e w' h => ⟨_, h.1, rfl, h.2⟩))); rintro _ rfl; (try simp only [Act.put, zF, zG, zH]))
  (refine TD.val0 (v := ?v24) (by simp only [zA, zB, zC]; rfl) rfl ?hw24 (fun w1 => ?hy24) ?hn24; (case hw24 => rfl); (case hy24 => (go_simp; (try with_reducible rfl))); (try simp only [Act.put, zF, zG, zH]))
  (refine TD.val0 (v := ?v25) (by simp only [zA, zB, zC]; rfl) rfl ?hw25 (fun w1 => ?hy25) ?hn25; (case hw25 => rfl); (case hy25 => (go_simp; (try with_reducible rfl))); (try simp only [Act.put, zF, zG, zH]))
  (refine TD.val0 (v := ?v26) (by simp only [zA, zB, zC]; rfl) rfl ?hw26 (fun w1 => ?hy26) ?hn26; (case hw26 => rfl); (case hy26 => (go_simp; (try with_reducible rfl))); (try simp only [Act.put, zF, zG, zH]))
  refine TD.eff (by simp only [zA, zB, zC]; rfl) rfl (fun w2 hr => ?_)
  have kp2 := hr.mod.at kp2 (fun h => h)
  have m2 := m1.then0 hr.mod
  clear hr
  (refine eff_store (X := ?X28) (Y := ?Y28) (w' := ?w28) (by simp only [zA, zB, zC]; rfl) ?hw28 rfl ?hx28 ?hz28 ?hy28 ?hn28; (case hw28 => rfl); (case hx28 => (simp only [Act.eval, zD, zA, zB, zC, zE]; (try rfl))); (case hz28 => (simp only [Act.eval, zD, zA, zB, zC, zE]; (try rfl))); (case hy28 => (go_simp; (try with_reducible rfl))))
  (first | refine TE.mid_set kp2 (fun wn kp2 mS => ?_) | refine TE.mid_setCell kp2 (fun wn kp2 mS => ?_))
  (try simp only [Array.setIfInBounds, zF, zG, zH] at kp2)
  have m3 := m2.thenB mS (.inl gp2)
  clear mS
  (refine TE.val0 (v := ?v29) (by simp only [zA, zB, zC]; rfl) ?hw29 (fun w1 => ?hy29) ?hn29; (case hw29 => rfl); (case hy29 => (go_simp; (try with_reducible rfl))); (try simp only [Act.put, zF, zG, zH]))
  (refine TE.val0 (v := ?v30) (by simp only [zA, zB, zC]; rfl) ?hw30 (fun w1 => ?hy30) ?hn30; (case hw30 => rfl); (case hy30 => (go_simp; (try with_reducible rfl))); (try simp only [Act.put, zF, zG, zH]))
  refine TE.nil ?_
  go_wp2_with fail
  exact bodyPost_ret (results_cell3 (x := .agg (rkc rk0)) rfl rfl (by rw [ldRk]; simp [kp2, rkc, rk0])) rfl ⟨rfl, m3⟩
set_option maxRecDepth 20000 in
set_option maxHeartbeats 3200000 in
theorem bot0_c {h : Nat} {T : Nat → Prop} {w : World} (hA : HAt h [] T w) : Calls Tryd.prog 29 #[ptrV h] w fun e w' => e = .returned (.tuple #[.agg (rkc rk0), .int .i64 0, .bool false]) ∧ Mod (fun _ => False) w w' := by
  have HA := Lib.hid hA
  clear hA
  go_enter Tryd.func29, Tryd.ntmps29
  go_upto_region 0 with fail
  refine wp_pass0 (C := fun _ _ _ => False) (κ := fun i => [3, 0, 0].getD i 0) [0, 1, 2] (by kernel_rfl) (by kernel_rfl) (fun _ _ d _ _ h => by cases d <;> first | exact h | exact absurd h (hP _ _ _)) ?_
  (refine TD.allocB (by simp only [zA, zB, zC]; rfl) rfl ?hw31 rfl rfl alRk (fun p2 hp2 => ?hn31); (case hw31 => rfl); (try simp only [Act.put, zF, zG, zH]))
  (refine TD.val0 (v := ?v32) (by simp only [zA, zB, zC]; rfl) rfl ?hw32 (fun w1 => ?hy32) ?hn32; (case hw32 => rfl); (case hy32 => (go_simp; (try with_reducible rfl))); (try simp only [Act.put, zF, zG, zH]))
  (refine TD.val0 (v := ?v33) (by simp only [zA, zB, zC]; rfl) rfl ?hw33 (fun w1 => ?hy33) ?hn33; (case hw33 => rfl); (case hy33 => (go_simp; (try with_reducible rfl))); (try simp only [Act.put, zF, zG, zH]))
  refine TD.nil (fun w1 hr => ?_)
  have kp2 := hr.box p2 _ (by first | exact Bx.set_same _ _ _ | (simp only [Bx.set_same]; rfl)); dsimp only [Value.cells] at kp2; obtain ⟨gp2, kp2⟩ := kp2
  have m1 := hr.mod
  clear hr
  have hA1 := (HAt.good h []).cl T w w1 HA.out (m1.mono (fun _ _ h => h.elim))
  have hcall : ∀ wq, Mod (fun _ => False) w1 wq → Calls Tryd.prog 54 #[ptrV h, .int .i64 1] wq fun e w' => e = .returned (.tuple #[.agg (rkc rk0), .int .i64 0, .bool false]) ∧ Mod (fun _ => False) wq w' := fun wq hq => end0_c ((HAt.good h []).cl T w1 wq hA1 (hq.mono (fun _ _ h => h.elim))) 1
  have HC := Lib.hid hcall
  clear hA1 hcall
  replace kp2 : w1.heap[p2]? = some (.cells #[.int .u64 0, .int .u64 0] 60 (0, 0)) := kp2
  go_upto_region 1 with fail
  have Lkp2 := lt_size kp2
  refine wp_pass0 (C := fun _ _ v => v = .tuple #[.agg (rkc rk0), .int .i64 0, .bool false]) (κ := fun i => [0, 2, 0, 0, 0, 5, 0, 0].getD i 0) [0, 1, 2, 3, 4, 5, 6, 7] (by kernel_rfl) (by kernel_rfl) (fun _ _ d _ _ h => by cases d <;> first | exact h | exact absurd h (hP _ _ _)) ?_
  (refine TD.val0 (v := ?v34) (by simp only [zA, zB, zC]; rfl) rfl ?hw34 (fun w1 => ?hy34) ?hn34; (case hw34 => rfl); (case hy34 => (go_simp; (try with_reducible rfl))); (try simp only [Act.put, zF, zG, zH]))
  (refine TD.call (f := ?f35) (args := ?r35) (Mod.refl _ _) (by simp only [zA, zB, zC]; rfl) rfl ?hw35 (fun w1 => ?hy35) ?hsp35 ?hn35; (case hw35 => rfl); (case hy35 => (go_simp; (first | with_reducible rfl | (constructor <;> with_reducible rfl)))); (case hsp35 => (intro wq hSq; have kp2q := hSq.at kp2 (fun h => h); exact (HC.out wq hSq).mono (fun e w' h => ⟨_, h.1, rfl, h.2⟩))); rintro _ rfl; (try simp only [Act.put, zF, zG, zH]))
  (refine TD.val0 (v := ?v36) (by simp only [zA, zB, zC]; rfl) rfl ?hw36 (fun w1 => ?hy36) ?hn36; (case hw36 => rfl); (case hy36 => (go_simp; (try with_reducible rfl))); (try simp only [Act.put, zF, zG, zH]))
  (refine TD.val0 (v := ?v37) (by simp only [zA, zB, zC]; rfl) rfl ?hw37 (fun w1 => ?hy37) ?hn37; (case hw37 => rfl); (case hy37 => (go_simp; (try with_reducible rfl))); (try simp only [Act.put, zF, zG, zH]))
  (refine TD.val0 (v := ?v38) (by simp only [zA, zB, zC]; rfl) rfl ?hw38 (fun w1 => ?hy38) ?hn38; (case hw38 => rfl); (case hy38 => (go_simp; (try with_reducible rfl))); (try simp only [Act.put, zF, zG, zH]))
  refine TD.eff (by simp only [zA, zB, zC]; rfl) rfl (fun w2 hr => ?_)
  have kp2 := hr.mod.at kp2 (fun h => h)
  have m2 := m1.then0 hr.mod
  clear hr
  (refine eff_store (X := ?X40) (Y := ?Y40) (w' := ?w40) (by simp only [zA, zB, zC]; rfl) ?hw40 rfl ?hx40 ?hz40 ?hy40 ?hn40; (case hw40 => rfl); (case hx40 => (simp only [Act.eval, zD, zA, zB, zC, zE]; (try rfl))); (case hz40 => (simp only [Act.eval, zD, zA, zB, zC, zE]; (try rfl))); (case hy40 => (go_simp; (try with_reducible rfl))))
  (first | refine TE.mid_set kp2 (fun wn kp2 mS => ?_) | refine TE.mid_setCell kp2 (fun wn kp2 mS => ?_))
  (try simp only [Array.setIfInBounds, zF, zG, zH] at kp2)
  have m3 := m2.thenB mS (.inl gp2)
  clear mS
  (refine TE.val0 (v := ?v41) (by simp only [zA, zB, zC]; rfl) ?hw41 (fun w1 => ?hy41) ?hn41; (case hw41 => rfl); (case hy41 => (go_simp; (try with_reducible rfl))); (try simp only [Act.put, zF, zG, zH]))
  (refine TE.val0 (v := ?v42) (by simp only [zA, zB, zC]; rfl) ?hw42 (fun w1 => ?hy42) ?hn42; (case hw42 => rfl); (case hy42 => (go_simp; (try with_reducible rfl))); (try simp only [Act.put, zF, zG, zH]))
  refine TE.nil ?_
  go_wp2_with fail
  exact bodyPost_ret (results_cell3 (x := .agg (rkc rk0)) rfl rfl (by rw [ldRk]; simp [kp2, rkc, rk0])) rfl ⟨rfl, m3⟩
section
variable {h p : Nat} {C D : List Nd} {T : Nat → Prop} {w : World}
theorem topS_c (hA : HAt h C T w) (hD : D.Perm C) (hS : Srt D) : Calls Tryd.prog 37 #[ptrV h] w fun e w' => e = .returned (env (enOf D.head?)) ∧ Mod (fun _ => False) w w' := by
  match D, hD, hS with
  | [], hD, _ =>
    obtain rfl := (endS0 hD).2 rfl
    exact top0_c hA
  | y :: r, hD, hS =>
    refine (top_c hA (fun e => by have := (endS0 hD).1 e; cases this)).mono ?_
    rintro e w' ⟨x, hx, rfl, hm⟩
    rw [best_top hD hS hx rfl]
    exact ⟨rfl, hm⟩
theorem botS_c (hA : HAt h C T w) (hD : D.Perm C) (hS : Srt D) : Calls Tryd.prog 29 #[ptrV h] w fun e w' => e = .returned (env (enOf D.getLast?)) ∧ Mod (fun _ => False) w w' := by
  by_cases he : D = []
  · subst he
    obtain rfl := (endS0 hD).2 rfl
    exact bot0_c hA
  · refine (bot_c hA (fun e => he ((endS0 hD).1 e))).mono ?_
    rintro e w' ⟨x, hx, rfl, hm⟩
    have hl := List.getLast?_eq_some_getLast he
    rw [hl, best_bot hD hS hx hl]
    exact ⟨rfl, hm⟩
theorem listS_c (hA : HAt h C T w) (hD : D.Perm C) (hS : Srt D) (hC : C.length ≤ 700000) : Calls Tryd.prog 35 #[ptrV h] w fun e w' => ∃ v, e = .returned v ∧ SlOwn ic 1 3 w' w.heap.size v (D.map Nd.id) ∧ Mod (fun _ => False) w w' :=
  (list_c hA hC).mono fun e w' h => by
    obtain ⟨v, l, he, hp, hs, ho, hm⟩ := h
    obtain rfl := srt_unique (hp.trans hD.symm) hs hS
    exact ⟨v, he, ho, hm⟩
end
/-- A list of ids that a pass has made. -/
def OwnI (l : List Int64) (v : Value) : Land := fun T w => SlOwn ic 1 3 w 0 v l ∧ ∀ g, v.ownBlock = some g → T g
theorem goodI (l : List Int64) (v : Value) : Good (OwnI l v) where
  cl := fun T w w' h hm => ⟨h.1.mod hm (fun b hb hn => hn (h.2 b hb)), h.2⟩
  gr := fun T T' w hT h => ⟨h.1, fun g hg => hT g (h.2 g hg)⟩
theorem ownI_base {w : World} {base : Nat} {v : Value} {l : List Int64} (h : SlOwn ic 1 3 w base v l) : SlOwn ic 1 3 w 0 v l := by
  refine ⟨h.1, ?_⟩
  rcases h.2 with h | ⟨g, cap, cur, e, hb, r⟩
  · exact .inl h
  · exact .inr ⟨g, cap, cur, e, Nat.zero_le _, r⟩
theorem ownI_new {w w' : World} {v : Value} {l : List Int64} {T : Nat → Prop} (h : SlOwn ic 1 3 w' w.heap.size v l) : OwnI l v (Grow T w w') w' := ⟨ownI_base h, fun g hg => .inr (h.lt g hg)⟩
end Go.Proofs.YtdeghpmlhcaedaaDoor
