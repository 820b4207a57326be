/- The law's own 'lives'. -/
import Derived.Test.YtnibhnnpjkemhaaRhh
namespace Go.Proofs.Ytnibhnnpjkemhaa
open Go.RowKit Go.Sort
open Go.ChangeMaps (setBlock)
set_option linter.unusedSimpArgs false
set_option linter.unusedVariables false
attribute [local go_sem ↓] wlRk ldRk stRk wlNdR ldNdR stNdR eqRk eqRk2
attribute [local go_sem] rkc_size ndc_size rn_size cell_blk frozen_blk one_int one_bool one_ptr one_slice one_map Value.cells rkc_all1 rn_r rn_i rn_all rkc_ext zRk_size zNdR_size
def r51 : Rk := ⟨5, 1⟩
def r92 : Rk := ⟨9, 2⟩
def r50 : Rk := ⟨5, 0⟩
def r11 : Rk := ⟨1, 1⟩
theorem rank51 (w : World) : Calls Try.prog 27 #[.int .u64 5, .int .u64 1] w fun e w' => e = .returned (.agg (rkc r51)) ∧ Mod (fun _ => False) w w' := rank_c 5 1 w
theorem rank92 (w : World) : Calls Try.prog 27 #[.int .u64 9, .int .u64 2] w fun e w' => e = .returned (.agg (rkc r92)) ∧ Mod (fun _ => False) w w' := rank_c 9 2 w
theorem rank50 (w : World) : Calls Try.prog 27 #[.int .u64 5, .int .u64 0] w fun e w' => e = .returned (.agg (rkc r50)) ∧ Mod (fun _ => False) w w' := rank_c 5 0 w
theorem rank11 (w : World) : Calls Try.prog 27 #[.int .u64 1, .int .u64 1] w fun e w' => e = .returned (.agg (rkc r11)) ∧ Mod (fun _ => False) w w' := rank_c 1 1 w
def C3 : List Nd := [⟨r51, 10⟩, ⟨r92, 20⟩, ⟨r50, 30⟩]
def D3 : List Nd := [⟨r92, 20⟩, ⟨r50, 30⟩, ⟨r51, 10⟩]
def C2 : List Nd := [⟨r51, 10⟩, ⟨r50, 30⟩]
def D2 : List Nd := [⟨r50, 30⟩, ⟨r51, 10⟩]
theorem dc3 : D3.Perm C3 := by decide
theorem dc2 : D2.Perm C2 := by decide
theorem sd3 : Srt D3 := by unfold Srt; decide
theorem sd2 : Srt D2 := by unfold Srt; decide
theorem c32 : C3.eraseP (fun y => y.id == 20) = C2 := by decide
theorem c3_20 {x : Nd} (hx : x ∈ C3) (hxi : x.id = 20) : x.r = r92 := by
  simp only [C3, List.mem_cons, List.not_mem_nil, or_false] at hx
  rcases hx with rfl | rfl | rfl
  · exact absurd hxi (by decide)
  · rfl
  · exact absurd hxi (by decide)
set_option maxRecDepth 20000 in
theorem bs3 (w : World) : (Instr.buildSlice 40 3 #[(0, .int .i64 20), (1, .int .i64 30), (2, .int .i64 10)]).run Try.prog w = .ok (.slice (some ⟨w.heap.size, 0, none⟩) 3 3) (w.alloc (.cells #[.int .i64 20, .int .i64 30, .int .i64 10] 3)) := by kernel_rfl
set_option maxRecDepth 20000 in
set_option maxHeartbeats 6400000 in
theorem lives_c (w : World) : Calls Try.prog 9 #[] w fun e w' => e = .returned (.bool true) ∧ Mod (fun _ => False) w w' := by
  go_enter Try.func9, Try.ntmps9
  go_wp2_with fail
  go_at_call 10
  refine (HH.new w).mono ?_
  rintro e w1 ⟨h, rfl, hx⟩
  have HX := Lib.hid hx
  clear hx
  go_wp2_with fail
  go_at_call 27
  refine (rank51 _).mono ?_
  rintro e w2 ⟨rfl, mr⟩
  have HY := Lib.hid (HX.out.mod0 mr)
  clear mr HX
  go_wp2_with fail
  go_at_call 14
  refine (HY.out.push r51 10 (n := 10) (by decide) (by decide) (by decide)).mono ?_
  rintro e w3 ⟨rfl, hx⟩
  have HX := Lib.hid hx
  clear hx HY
  go_wp2_with fail
  go_at_call 27
  refine (rank92 _).mono ?_
  rintro e w4 ⟨rfl, mr⟩
  have HY := Lib.hid (HX.out.mod0 mr)
  clear mr HX
  go_wp2_with fail
  go_at_call 14
  refine (HY.out.push r92 20 (n := 20) (by decide) (by decide) (by decide)).mono ?_
  rintro e w5 ⟨rfl, hx⟩
  have HX := Lib.hid hx
  clear hx HY
  go_wp2_with fail
  go_at_call 27
  refine (rank50 _).mono ?_
  rintro e w6 ⟨rfl, mr⟩
  have HY := Lib.hid (HX.out.mod0 mr)
  clear mr HX
  go_wp2_with fail
  go_at_call 14
  refine (HY.out.push r50 30 (n := 30) (by decide) (by decide) (by decide)).mono ?_
  rintro e w7 ⟨rfl, hx⟩
  have HX := Lib.hid hx
  clear hx HY
  replace HX : Hid (HH w h C3 w7) := HX
  go_wp2_with fail
  go_at_call 27
  refine (rank11 _).mono ?_
  rintro e w8 ⟨rfl, mr⟩
  have HY := Lib.hid (HX.out.mod0 mr)
  clear mr HX
  go_wp2_with fail
  go_at_call 14
  refine (HY.out.pushT r11 10 (n := 10) (by decide) (by decide)).mono ?_
  rintro e w9 ⟨rfl, mr⟩
  have HX := Lib.hid (HY.out.mod0 mr)
  clear mr HY
  go_upto_region 4 with fail
  refine wp_pass0 (C := fun _ _ v => v = .tuple #[.agg (rkc r92), .int .i64 20, .bool true]) (κ := fun i => [0, 2, 0, 0, 0, 0, 3, 4, 0, 0].getD i 0) [0, 1, 2, 3, 4, 5, 6, 7, 8, 9] (by kernel_rfl) (by kernel_rfl) (fun _ _ d _ _ h => by cases d <;> exact h) ?_
  (refine TD.val0 (v := ?v1) (by simp only [List.getElem?_toArray, List.getElem?_cons_succ, List.getElem?_cons_zero]; rfl) rfl ?hw1 (fun w1 => ?hy1) ?hn1; (case hw1 => rfl); (case hy1 => (go_simp; (try with_reducible rfl))); (try simp only [Act.put, List.setIfInBounds_toArray, List.set_cons_zero, List.set_cons_succ]))
  (refine TD.call (f := ?f2) (args := ?r2) (Mod.refl _ _) (by simp only [List.getElem?_toArray, List.getElem?_cons_succ, List.getElem?_cons_zero]; rfl) rfl ?hw2 (fun w1 => ?hy2) ?hsp2 ?hn2; (case hw2 => rfl); (case hy2 => (go_simp; (first | with_reducible rfl | (constructor <;> with_reducible rfl)))); (case hsp2 => (intro wq hSq; exact ((HX.out.mod0 hSq).top dc3 sd3).mono (fun e w' h => ⟨_, h.1, rfl, h.2⟩))); rintro _ rfl; (try simp only [Act.put, List.setIfInBounds_toArray, List.set_cons_zero, List.set_cons_succ]))
  (refine TD.val0 (v := ?v3) (by simp only [List.getElem?_toArray, List.getElem?_cons_succ, List.getElem?_cons_zero]; rfl) rfl ?hw3 (fun w1 => ?hy3) ?hn3; (case hw3 => rfl); (case hy3 => (go_simp; (try with_reducible rfl))); (try simp only [Act.put, List.setIfInBounds_toArray, List.set_cons_zero, List.set_cons_succ]))
  (refine TD.val0 (v := ?v4) (by simp only [List.getElem?_toArray, List.getElem?_cons_succ, List.getElem?_cons_zero]; rfl) rfl ?hw4 (fun w1 => ?hy4) ?hn4; (case hw4 => rfl); (case hy4 => (go_simp; (try with_reducible rfl))); (try simp only [Act.put, List.setIfInBounds_toArray, List.set_cons_zero, List.set_cons_succ]))
  (refine TD.val0 (v := ?v5) (by simp only [List.getElem?_toArray, List.getElem?_cons_succ, List.getElem?_cons_zero]; rfl) rfl ?hw5 (fun w1 => ?hy5) ?hn5; (case hw5 => rfl); (case hy5 => (go_simp; (try with_reducible rfl))); (try simp only [Act.put, List.setIfInBounds_toArray, List.set_cons_zero, List.set_cons_succ]))
  (refine TD.val0 (v := ?v6) (by simp only [List.getElem?_toArray, List.getElem?_cons_succ, List.getElem?_cons_zero]; rfl) rfl ?hw6 (fun w1 => ?hy6) ?hn6; (case hw6 => rfl); (case hy6 => (go_simp; (try with_reducible rfl))); (try simp only [Act.put, List.setIfInBounds_toArray, List.set_cons_zero, List.set_cons_succ]))
  (refine TD.allocB (by simp only [List.getElem?_toArray, List.getElem?_cons_succ, List.getElem?_cons_zero]; rfl) rfl ?hw7 rfl rfl alRk (fun p2 hp2 => ?hn7); (case hw7 => rfl); (try simp only [Act.put, List.setIfInBounds_toArray, List.set_cons_zero, List.set_cons_succ]))
  (refine TD.storeB (d := ?d8) (T := ?T8) (y := ?y8) (p := ?p8) (b := ?b8) (v := ?v8) (by simp only [List.getElem?_toArray, List.getElem?_cons_succ, List.getElem?_cons_zero]; rfl) rfl ?hw8 ?hd8 ?hop8 ?hev8 ?hx8 ?hb8 ?htag8 (fun w1 hb1 => ?hy8) ?hn8; (case hw8 => rfl); (case hd8 => rfl); (case hop8 => rfl); (case hev8 => (simp only [Act.eval, Array.getD_eq_getD_getElem?, List.getElem?_toArray, List.getElem?_cons_succ, List.getElem?_cons_zero, Option.getD_some]; (try rfl))); (case hx8 => (simp only [Act.eval, Array.getD_eq_getD_getElem?, List.getElem?_toArray, List.getElem?_cons_succ, List.getElem?_cons_zero, Option.getD_some]; (try rfl))); (case hb8 => first | exact Bx.set_same _ _ _ | (simp only [Bx.set_same]; rfl)); (case hy8 => (go_simp; (try with_reducible rfl))); (try simp only [Act.put, List.setIfInBounds_toArray, List.set_cons_zero, List.set_cons_succ]))
  (refine TD.val0 (v := ?v9) (by simp only [List.getElem?_toArray, List.getElem?_cons_succ, List.getElem?_cons_zero]; rfl) rfl ?hw9 (fun w1 => ?hy9) ?hn9; (case hw9 => rfl); (case hy9 => (go_simp; (try with_reducible rfl))); (try simp only [Act.put, List.setIfInBounds_toArray, List.set_cons_zero, List.set_cons_succ]))
  (refine TD.val0 (v := ?v10) (by simp only [List.getElem?_toArray, List.getElem?_cons_succ, List.getElem?_cons_zero]; rfl) rfl ?hw10 (fun w1 => ?hy10) ?hn10; (case hw10 => rfl); (case hy10 => (go_simp; (try with_reducible rfl))); (try simp only [Act.put, List.setIfInBounds_toArray, List.set_cons_zero, List.set_cons_succ]))
  refine TD.nil (fun w10 hr => ?_)
  have kp2 := hr.box p2 _ (by first | exact Bx.set_same _ _ _ | (simp only [Bx.set_same]; rfl)); dsimp only [Value.cells] at kp2; obtain ⟨gp2, kp2⟩ := kp2
  have HY := Lib.hid (HX.out.mod0 hr.mod)
  clear hr HX
  have HX := HY
  clear HY
  go_upto_region 5 with fail
  have Lkp2 := lt_size kp2
  refine wp_pass0 (C := fun _ _ v => v = .tuple #[.agg (rkc r51), .int .i64 10, .bool true]) (κ := fun i => [0, 2, 0, 0, 0, 0, 3, 4, 0, 0].getD i 0) [0, 1, 2, 3, 4, 5, 6, 7, 8, 9] (by kernel_rfl) (by kernel_rfl) (fun _ _ d _ _ h => by cases d <;> exact h) ?_
  (refine TD.val0 (v := ?v11) (by simp only [List.getElem?_toArray, List.getElem?_cons_succ, List.getElem?_cons_zero]; rfl) rfl ?hw11 (fun w1 => ?hy11) ?hn11; (case hw11 => rfl); (case hy11 => (go_simp; (try with_reducible rfl))); (try simp only [Act.put, List.setIfInBounds_toArray, List.set_cons_zero, List.set_cons_succ]))
  (refine TD.call (f := ?f12) (args := ?r12) (Mod.refl _ _) (by simp only [List.getElem?_toArray, List.getElem?_cons_succ, List.getElem?_cons_zero]; rfl) rfl ?hw12 (fun w1 => ?hy12) ?hsp12 ?hn12; (case hw12 => rfl); (case hy12 => (go_simp; (first | with_reducible rfl | (constructor <;> with_reducible rfl)))); (case hsp12 => (intro wq hSq; have kp2q := hSq.at kp2 (fun h => h); exact ((HX.out.mod0 hSq).bot dc3 sd3).mono (fun e w' h => ⟨_, h.1, rfl, h.2⟩))); rintro _ rfl; (try simp only [Act.put, List.setIfInBounds_toArray, List.set_cons_zero, List.set_cons_succ]))
  (refine TD.val0 (v := ?v13) (by simp only [List.getElem?_toArray, List.getElem?_cons_succ, List.getElem?_cons_zero]; rfl) rfl ?hw13 (fun w1 => ?hy13) ?hn13; (case hw13 => rfl); (case hy13 => (go_simp; (try with_reducible rfl))); (try simp only [Act.put, List.setIfInBounds_toArray, List.set_cons_zero, List.set_cons_succ]))
  (refine TD.val0 (v := ?v14) (by simp only [List.getElem?_toArray, List.getElem?_cons_succ, List.getElem?_cons_zero]; rfl) rfl ?hw14 (fun w1 => ?hy14) ?hn14; (case hw14 => rfl); (case hy14 => (go_simp; (try with_reducible rfl))); (try simp only [Act.put, List.setIfInBounds_toArray, List.set_cons_zero, List.set_cons_succ]))
  (refine TD.val0 (v := ?v15) (by simp only [List.getElem?_toArray, List.getElem?_cons_succ, List.getElem?_cons_zero]; rfl) rfl ?hw15 (fun w1 => ?hy15) ?hn15; (case hw15 => rfl); (case hy15 => (go_simp; (try with_reducible rfl))); (try simp only [Act.put, List.setIfInBounds_toArray, List.set_cons_zero, List.set_cons_succ]))
  (refine TD.val0 (v := ?v16) (by simp only [List.getElem?_toArray, List.getElem?_cons_succ, List.getElem?_cons_zero]; rfl) rfl ?hw16 (fun w1 => ?hy16) ?hn16; (case hw16 => rfl); (case hy16 => (go_simp; (try with_reducible rfl))); (try simp only [Act.put, List.setIfInBounds_toArray, List.set_cons_zero, List.set_cons_succ]))
  (refine TD.allocB (by simp only [List.getElem?_toArray, List.getElem?_cons_succ, List.getElem?_cons_zero]; rfl) rfl ?hw17 rfl rfl alRk (fun p5 hp5 => ?hn17); (case hw17 => rfl); (try simp only [Act.put, List.setIfInBounds_toArray, List.set_cons_zero, List.set_cons_succ]))
  (refine TD.storeB (d := ?d18) (T := ?T18) (y := ?y18) (p := ?p18) (b := ?b18) (v := ?v18) (by simp only [List.getElem?_toArray, List.getElem?_cons_succ, List.getElem?_cons_zero]; rfl) rfl ?hw18 ?hd18 ?hop18 ?hev18 ?hx18 ?hb18 ?htag18 (fun w1 hb1 => ?hy18) ?hn18; (case hw18 => rfl); (case hd18 => rfl); (case hop18 => rfl); (case hev18 => (simp only [Act.eval, Array.getD_eq_getD_getElem?, List.getElem?_toArray, List.getElem?_cons_succ, List.getElem?_cons_zero, Option.getD_some]; (try rfl))); (case hx18 => (simp only [Act.eval, Array.getD_eq_getD_getElem?, List.getElem?_toArray, List.getElem?_cons_succ, List.getElem?_cons_zero, Option.getD_some]; (try rfl))); (case hb18 => first | exact Bx.set_same _ _ _ | (simp only [Bx.set_same]; rfl)); (case hy18 => (go_simp; (try with_reducible rfl))); (try simp only [Act.put, List.setIfInBounds_toArray, List.set_cons_zero, List.set_cons_succ]))
  (refine TD.val0 (v := ?v19) (by simp only [List.getElem?_toArray, List.getElem?_cons_succ, List.getElem?_cons_zero]; rfl) rfl ?hw19 (fun w1 => ?hy19) ?hn19; (case hw19 => rfl); (case hy19 => (go_simp; (try with_reducible rfl))); (try simp only [Act.put, List.setIfInBounds_toArray, List.set_cons_zero, List.set_cons_succ]))
  (refine TD.val0 (v := ?v20) (by simp only [List.getElem?_toArray, List.getElem?_cons_succ, List.getElem?_cons_zero]; rfl) rfl ?hw20 (fun w1 => ?hy20) ?hn20; (case hw20 => rfl); (case hy20 => (go_simp; (try with_reducible rfl))); (try simp only [Act.put, List.setIfInBounds_toArray, List.set_cons_zero, List.set_cons_succ]))
  refine TD.nil (fun w11 hr => ?_)
  have kp2 := hr.mod.at kp2 (fun h => h)
  have kp5 := hr.box p5 _ (by first | exact Bx.set_same _ _ _ | (simp only [Bx.set_same]; rfl)); dsimp only [Value.cells] at kp5; obtain ⟨gp5, kp5⟩ := kp5
  have HY := Lib.hid (HX.out.mod0 hr.mod)
  clear hr HX
  have HX := HY
  clear HY
  have hb3 := bs3
  have HD3 : Hid (D3.map Nd.id = [20, 30, 10]) := Lib.hid (by decide)
  go_upto_region 6 with fail
  have Lkp2 := lt_size kp2
  have Lkp5 := lt_size kp5
  refine wp_gpass (T0 := fun _ => False) (K := fun _ _ => True) (κ := fun i => [0, 6, 0, 0, 0, 0, 0, 0, 0, 0, 0, 0, 0, 6, 0, 0, 0, 0, 0, 0, 0, 0, 0, 0, 0, 0, 6, 3, 6, 0, 0].getD i 0) (υ := fun i => [[], [], [], [], [], [], [], [], [], [], [], [], [], [], [], [], [], [], [], [], [], [], [], [], [], [], [], [], [77], [], []].getD i []) [0, 1, 2, 3, 4, 5, 6, 7, 8, 9, 10, 11, 12, 13, 14, 15, 16, 17, 18, 19, 20, 21, 22, 23, 24, 25, 26, 27, 28, 29, 30] (by kernel_rfl) (by kernel_rfl) (Good.true).cl (trivial) (fun _ h => h.elim) ?_
  have gK := Good.true
  (refine TG.load (v := ?v21) (p := ?p21) (by simp only [List.getElem?_toArray, List.getElem?_cons_succ, List.getElem?_cons_zero]; rfl) rfl ?hw21 rfl ?hx21 (fun wq hSq => ?hy21) ?hn21; (case hw21 => rfl); (case hx21 => (simp only [Act.eval, Array.getD_eq_getD_getElem?, List.getElem?_toArray, List.getElem?_cons_succ, List.getElem?_cons_zero, Option.getD_some]; (try rfl))); (case hy21 => (have kp2q := hSq.at kp2 (by intro hT; first | exact hT | exact absurd hT (by assumption) | (simp only at hT; omega)); have kp5q := hSq.at kp5 (by intro hT; first | exact hT | exact absurd hT (by assumption) | (simp only at hT; omega)); go_simp; (try with_reducible rfl))); (try simp only [Act.put, List.setIfInBounds_toArray, List.set_cons_zero, List.set_cons_succ]))
  (refine TG.callN (f := ?f22) (args := ?r22) (fun v => v = .agg (rkc r92)) gK (by simp only [List.getElem?_toArray, List.getElem?_cons_succ, List.getElem?_cons_zero]; rfl) rfl ?hw22 (fun w1 => ?hy22) (fun T wq kq ltq hSq ub => ?hsp22) ?hn22; (case hw22 => rfl); (case hy22 => (go_simp; (first | with_reducible rfl | (constructor <;> with_reducible rfl)))); (case hsp22 => (have kp2q := hSq.at kp2 (by intro hT; first | exact hT | exact absurd hT (by assumption) | (simp only at hT; omega)); have kp5q := hSq.at kp5 (by intro hT; first | exact hT | exact absurd hT (by assumption) | (simp only at hT; omega)); exact (rank92 wq).mono (fun e w' h => ⟨_, h.1, rfl, h.2⟩))); rintro v22 hC; subst hC; (try simp only [Act.put, List.setIfInBounds_toArray, List.set_cons_zero, List.set_cons_succ]))
  (refine TG.v0 (v := ?v23) (by simp only [List.getElem?_toArray, List.getElem?_cons_succ, List.getElem?_cons_zero]; rfl) rfl ?hw23 (fun w1 => ?hy23) ?hn23; (case hw23 => rfl); (case hy23 => (simp only [execOp, Act.eval, Array.getD_eq_getD_getElem?, List.getElem?_toArray, List.getElem?_cons_succ, List.getElem?_cons_zero, Option.getD_some, rkc_ext]; go_simp; (try with_reducible rfl))); (try simp only [Act.put, List.setIfInBounds_toArray, List.set_cons_zero, List.set_cons_succ]))
  (refine TG.v0 (v := ?v24) (by simp only [List.getElem?_toArray, List.getElem?_cons_succ, List.getElem?_cons_zero]; rfl) rfl ?hw24 (fun w1 => ?hy24) ?hn24; (case hw24 => rfl); (case hy24 => (go_simp; (try with_reducible rfl))); (try simp only [Act.put, List.setIfInBounds_toArray, List.set_cons_zero, List.set_cons_succ]))
  (refine TG.v0 (v := ?v25) (by simp only [List.getElem?_toArray, List.getElem?_cons_succ, List.getElem?_cons_zero]; rfl) rfl ?hw25 (fun w1 => ?hy25) ?hn25; (case hw25 => rfl); (case hy25 => (go_simp; (try with_reducible rfl))); (try simp only [Act.put, List.setIfInBounds_toArray, List.set_cons_zero, List.set_cons_succ]))
  (refine TG.v0 (v := ?v26) (by simp only [List.getElem?_toArray, List.getElem?_cons_succ, List.getElem?_cons_zero]; rfl) rfl ?hw26 (fun w1 => ?hy26) ?hn26; (case hw26 => rfl); (case hy26 => (go_simp; (try with_reducible rfl))); (try simp only [Act.put, List.setIfInBounds_toArray, List.set_cons_zero, List.set_cons_succ]))
  (refine TG.v0 (v := ?v27) (by simp only [List.getElem?_toArray, List.getElem?_cons_succ, List.getElem?_cons_zero]; rfl) rfl ?hw27 (fun w1 => ?hy27) ?hn27; (case hw27 => rfl); (case hy27 => (go_simp; (try with_reducible rfl))); (try simp only [Act.put, List.setIfInBounds_toArray, List.set_cons_zero, List.set_cons_succ]))
  (refine TG.v0 (v := ?v28) (by simp only [List.getElem?_toArray, List.getElem?_cons_succ, List.getElem?_cons_zero]; rfl) rfl ?hw28 (fun w1 => ?hy28) ?hn28; (case hw28 => rfl); (case hy28 => (go_simp; (try with_reducible rfl))); (try simp only [Act.put, List.setIfInBounds_toArray, List.set_cons_zero, List.set_cons_succ]))
  (refine TG.v0 (v := ?v29) (by simp only [List.getElem?_toArray, List.getElem?_cons_succ, List.getElem?_cons_zero]; rfl) rfl ?hw29 (fun w1 => ?hy29) ?hn29; (case hw29 => rfl); (case hy29 => (go_simp; (try with_reducible rfl))); (try simp only [Act.put, List.setIfInBounds_toArray, List.set_cons_zero, List.set_cons_succ]))
  (refine TG.v0 (v := ?v30) (by simp only [List.getElem?_toArray, List.getElem?_cons_succ, List.getElem?_cons_zero]; rfl) rfl ?hw30 (fun w1 => ?hy30) ?hn30; (case hw30 => rfl); (case hy30 => (go_simp; (try with_reducible rfl))); (try simp only [Act.put, List.setIfInBounds_toArray, List.set_cons_zero, List.set_cons_succ]))
  (refine TG.v0 (v := ?v31) (by simp only [List.getElem?_toArray, List.getElem?_cons_succ, List.getElem?_cons_zero]; rfl) rfl ?hw31 (fun w1 => ?hy31) ?hn31; (case hw31 => rfl); (case hy31 => (go_simp; (try with_reducible rfl))); (try simp only [Act.put, List.setIfInBounds_toArray, List.set_cons_zero, List.set_cons_succ]))
  (refine TG.v0 (v := ?v32) (by simp only [List.getElem?_toArray, List.getElem?_cons_succ, List.getElem?_cons_zero]; rfl) rfl ?hw32 (fun w1 => ?hy32) ?hn32; (case hw32 => rfl); (case hy32 => (go_simp; (try with_reducible rfl))); (try simp only [Act.put, List.setIfInBounds_toArray, List.set_cons_zero, List.set_cons_succ]))
  (refine TG.load (v := ?v33) (p := ?p33) (by simp only [List.getElem?_toArray, List.getElem?_cons_succ, List.getElem?_cons_zero]; rfl) rfl ?hw33 rfl ?hx33 (fun wq hSq => ?hy33) ?hn33; (case hw33 => rfl); (case hx33 => (simp only [Act.eval, Array.getD_eq_getD_getElem?, List.getElem?_toArray, List.getElem?_cons_succ, List.getElem?_cons_zero, Option.getD_some]; (try rfl))); (case hy33 => (have kp2q := hSq.at kp2 (by intro hT; first | exact hT | exact absurd hT (by assumption) | (simp only at hT; omega)); have kp5q := hSq.at kp5 (by intro hT; first | exact hT | exact absurd hT (by assumption) | (simp only at hT; omega)); go_simp; (try with_reducible rfl))); (try simp only [Act.put, List.setIfInBounds_toArray, List.set_cons_zero, List.set_cons_succ]))
  (refine TG.callN (f := ?f34) (args := ?r34) (fun v => v = .agg (rkc r51)) gK (by simp only [List.getElem?_toArray, List.getElem?_cons_succ, List.getElem?_cons_zero]; rfl) rfl ?hw34 (fun w1 => ?hy34) (fun T wq kq ltq hSq ub => ?hsp34) ?hn34; (case hw34 => rfl); (case hy34 => (go_simp; (first | with_reducible rfl | (constructor <;> with_reducible rfl)))); (case hsp34 => (have kp2q := hSq.at kp2 (by intro hT; first | exact hT | exact absurd hT (by assumption) | (simp only at hT; omega)); have kp5q := hSq.at kp5 (by intro hT; first | exact hT | exact absurd hT (by assumption) | (simp only at hT; omega)); exact (rank51 wq).mono (fun e w' h => ⟨_, h.1, rfl, h.2⟩))); rintro v34 hC; subst hC; (try simp only [Act.put, List.setIfInBounds_toArray, List.set_cons_zero, List.set_cons_succ]))
  (refine TG.v0 (v := ?v35) (by simp only [List.getElem?_toArray, List.getElem?_cons_succ, List.getElem?_cons_zero]; rfl) rfl ?hw35 (fun w1 => ?hy35) ?hn35; (case hw35 => rfl); (case hy35 => (simp only [execOp, Act.eval, Array.getD_eq_getD_getElem?, List.getElem?_toArray, List.getElem?_cons_succ, List.getElem?_cons_zero, Option.getD_some, rkc_ext]; go_simp; (try with_reducible rfl))); (try simp only [Act.put, List.setIfInBounds_toArray, List.set_cons_zero, List.set_cons_succ]))
  (refine TG.v0 (v := ?v36) (by simp only [List.getElem?_toArray, List.getElem?_cons_succ, List.getElem?_cons_zero]; rfl) rfl ?hw36 (fun w1 => ?hy36) ?hn36; (case hw36 => rfl); (case hy36 => (go_simp; (try with_reducible rfl))); (try simp only [Act.put, List.setIfInBounds_toArray, List.set_cons_zero, List.set_cons_succ]))
  (refine TG.v0 (v := ?v37) (by simp only [List.getElem?_toArray, List.getElem?_cons_succ, List.getElem?_cons_zero]; rfl) rfl ?hw37 (fun w1 => ?hy37) ?hn37; (case hw37 => rfl); (case hy37 => (go_simp; (try with_reducible rfl))); (try simp only [Act.put, List.setIfInBounds_toArray, List.set_cons_zero, List.set_cons_succ]))
  (refine TG.v0 (v := ?v38) (by simp only [List.getElem?_toArray, List.getElem?_cons_succ, List.getElem?_cons_zero]; rfl) rfl ?hw38 (fun w1 => ?hy38) ?hn38; (case hw38 => rfl); (case hy38 => (go_simp; (try with_reducible rfl))); (try simp only [Act.put, List.setIfInBounds_toArray, List.set_cons_zero, List.set_cons_succ]))
  (refine TG.v0 (v := ?v39) (by simp only [List.getElem?_toArray, List.getElem?_cons_succ, List.getElem?_cons_zero]; rfl) rfl ?hw39 (fun w1 => ?hy39) ?hn39; (case hw39 => rfl); (case hy39 => (go_simp; (try with_reducible rfl))); (try simp only [Act.put, List.setIfInBounds_toArray, List.set_cons_zero, List.set_cons_succ]))
  (refine TG.v0 (v := ?v40) (by simp only [List.getElem?_toArray, List.getElem?_cons_succ, List.getElem?_cons_zero]; rfl) rfl ?hw40 (fun w1 => ?hy40) ?hn40; (case hw40 => rfl); (case hy40 => (go_simp; (try with_reducible rfl))); (try simp only [Act.put, List.setIfInBounds_toArray, List.set_cons_zero, List.set_cons_succ]))
  (refine TG.v0 (v := ?v41) (by simp only [List.getElem?_toArray, List.getElem?_cons_succ, List.getElem?_cons_zero]; rfl) rfl ?hw41 (fun w1 => ?hy41) ?hn41; (case hw41 => rfl); (case hy41 => (go_simp; (try with_reducible rfl))); (try simp only [Act.put, List.setIfInBounds_toArray, List.set_cons_zero, List.set_cons_succ]))
  (refine TG.v0 (v := ?v42) (by simp only [List.getElem?_toArray, List.getElem?_cons_succ, List.getElem?_cons_zero]; rfl) rfl ?hw42 (fun w1 => ?hy42) ?hn42; (case hw42 => rfl); (case hy42 => (go_simp; (try with_reducible rfl))); (try simp only [Act.put, List.setIfInBounds_toArray, List.set_cons_zero, List.set_cons_succ]))
  (refine TG.v0 (v := ?v43) (by simp only [List.getElem?_toArray, List.getElem?_cons_succ, List.getElem?_cons_zero]; rfl) rfl ?hw43 (fun w1 => ?hy43) ?hn43; (case hw43 => rfl); (case hy43 => (go_simp; (try with_reducible rfl))); (try simp only [Act.put, List.setIfInBounds_toArray, List.set_cons_zero, List.set_cons_succ]))
  (refine TG.v0 (v := ?v44) (by simp only [List.getElem?_toArray, List.getElem?_cons_succ, List.getElem?_cons_zero]; rfl) rfl ?hw44 (fun w1 => ?hy44) ?hn44; (case hw44 => rfl); (case hy44 => (go_simp; (try with_reducible rfl))); (try simp only [Act.put, List.setIfInBounds_toArray, List.set_cons_zero, List.set_cons_succ]))
  (refine TG.v0 (v := ?v45) (by simp only [List.getElem?_toArray, List.getElem?_cons_succ, List.getElem?_cons_zero]; rfl) rfl ?hw45 (fun w1 => ?hy45) ?hn45; (case hw45 => rfl); (case hy45 => (go_simp; (try with_reducible rfl))); (try simp only [Act.put, List.setIfInBounds_toArray, List.set_cons_zero, List.set_cons_succ]))
  (refine TG.v0 (v := ?v46) (by simp only [List.getElem?_toArray, List.getElem?_cons_succ, List.getElem?_cons_zero]; rfl) rfl ?hw46 (fun w1 => ?hy46) ?hn46; (case hw46 => rfl); (case hy46 => (go_simp; (try with_reducible rfl))); (try simp only [Act.put, List.setIfInBounds_toArray, List.set_cons_zero, List.set_cons_succ]))
  (refine TG.callM (f := ?f47) (args := ?r47) (OwnI [20, 30, 10]) (goodI [20, 30, 10]) gK (by simp only [List.getElem?_toArray, List.getElem?_cons_succ, List.getElem?_cons_zero]; rfl) rfl ?hw47 (fun w1 => ?hy47) (fun T wq kq ltq hSq ub => ?hsp47) ?hn47; (case hw47 => rfl); (case hy47 => (go_simp; (first | with_reducible rfl | (constructor <;> with_reducible rfl)))); (case hsp47 => (have kp2q := hSq.at kp2 (by intro hT; first | exact hT | exact absurd hT (by assumption) | (simp only at hT; omega)); have kp5q := hSq.at kp5 (by intro hT; first | exact hT | exact absurd hT (by assumption) | (simp only at hT; omega)); exact ((HX.out.mod0 hSq).list dc3 sd3 (by decide)).mono (fun e w' h => by obtain ⟨v, h1, h2, h3⟩ := h; rw [HD3.out] at h2; exact ⟨v, h1, h3, ownI_new h2⟩))); rintro v47 ⟨wI, TI, hI⟩; replace gK := gK.and ((goodI [20, 30, 10]) v47); skip; (try clear hI TI wI); (try simp only [Act.put, List.setIfInBounds_toArray, List.set_cons_zero, List.set_cons_succ]))
  (refine TG.bslice (by simp only [List.getElem?_toArray, List.getElem?_cons_succ, List.getElem?_cons_zero]; rfl) rfl ?hw48 rfl rfl ?hx48 hb3 (fun p77 hp77 _ => ?hn48); (case hw48 => rfl); (case hx48 => (simp only [List.map_toArray, List.map_cons, List.map_nil, Act.eval, Array.getD_eq_getD_getElem?, List.getElem?_toArray, List.getElem?_cons_succ, List.getElem?_cons_zero, Option.getD_some]; (try rfl))); (try simp only [Act.put, List.setIfInBounds_toArray, List.set_cons_zero, List.set_cons_succ]))
  (refine TG.callN (f := ?f49) (args := ?r49) (fun v => v = .bool true) gK (by simp only [List.getElem?_toArray, List.getElem?_cons_succ, List.getElem?_cons_zero]; rfl) rfl ?hw49 (fun w1 => ?hy49) (fun T wq kq ltq hSq ub => ?hsp49) ?hn49; (case hw49 => rfl); (case hy49 => (go_simp; (first | with_reducible rfl | (constructor <;> with_reducible rfl)))); (case hsp49 => (have kp2q := hSq.at kp2 (by intro hT; first | exact hT | exact absurd hT (by assumption) | (simp only at hT; omega)); have kp5q := hSq.at kp5 (by intro hT; first | exact hT | exact absurd hT (by assumption) | (simp only at hT; omega)); have kp77 := ub.box (p := p77) (by first | exact Bx.set_same _ _ _ | (simp only [Bx.set_same]; rfl)) (by decide); dsimp only [Value.cells] at kp77; have hl : SlOwn ic 1 3 wq 0 (.slice (some ⟨p77, 0, none⟩) 3 3) [20, 30, 10] := own_ints (Nat.zero_le _) kp77 rfl rfl (by decide) (fun i x hx => by match i, hx with | 0, hx => cases hx; rfl | 1, hx => cases hx; rfl | 2, hx => cases hx; rfl); exact (same_c kq.2.1 hl (by decide) (by decide)).mono (fun e w' h => ⟨_, h.1, congrArg Value.bool (by decide), h.2⟩))); rintro v49 hC; subst hC; (try simp only [Act.put, List.setIfInBounds_toArray, List.set_cons_zero, List.set_cons_succ]))
  (refine TG.v0 (v := ?v50) (by simp only [List.getElem?_toArray, List.getElem?_cons_succ, List.getElem?_cons_zero]; rfl) rfl ?hw50 (fun w1 => ?hy50) ?hn50; (case hw50 => rfl); (case hy50 => (go_simp; (try with_reducible rfl))); (try simp only [Act.put, List.setIfInBounds_toArray, List.set_cons_zero, List.set_cons_succ]))
  (refine TG.v0 (v := ?v51) (by simp only [List.getElem?_toArray, List.getElem?_cons_succ, List.getElem?_cons_zero]; rfl) rfl ?hw51 (fun w1 => ?hy51) ?hn51; (case hw51 => rfl); (case hy51 => (go_simp; (try with_reducible rfl))); (try simp only [Act.put, List.setIfInBounds_toArray, List.set_cons_zero, List.set_cons_succ]))
  refine TG.nil (fun w12 ⟨TR, hr⟩ => ?_)
  have kp2 := hr.mod.at kp2 (by intro hT; first | exact hT | exact absurd hT (by assumption) | (simp only at hT; omega))
  have kp5 := hr.mod.at kp5 (by intro hT; first | exact hT | exact absurd hT (by assumption) | (simp only at hT; omega))
  have kp77 := hr.box p77 _ (by first | exact Bx.set_same _ _ _ | (simp only [Bx.set_same]; rfl)); dsimp only [Value.cells] at kp77; obtain ⟨gp77, nTp77, kp77⟩ := kp77
  clear gK
  have HY := Lib.hid (HX.out.mod0 hr.mod)
  clear hr HX kp77 HD3 hb3 kp2 kp5
  obtain ⟨T, hA, hT, hm⟩ := HY.out
  have HT := Lib.hid hT
  clear hT HY
  go_upto_region 8 with fail
  refine wp_gpass0 (T0 := T) (K := HAt h C3) (κ := fun i => [0, 6, 0, 0, 0, 3, 4, 0].getD i 0) (υ := fun i => [[], [], [], [], [], [], [], []].getD i []) [0, 1, 2, 3, 4, 5, 6, 7] (by kernel_rfl) (by kernel_rfl) (HAt.good h C3).cl (hA) (fun i hi => (HT.out i hi).2) ?_
  have gK := HAt.good h C3
  (refine TG.v0 (v := ?v52) (by simp only [List.getElem?_toArray, List.getElem?_cons_succ, List.getElem?_cons_zero]; rfl) rfl ?hw52 (fun w1 => ?hy52) ?hn52; (case hw52 => rfl); (case hy52 => (go_simp; (try with_reducible rfl))); (try simp only [Act.put, List.setIfInBounds_toArray, List.set_cons_zero, List.set_cons_succ]))
  (refine TG.callK (f := ?f53) (args := ?r53) (fun v T w => v = .tuple #[.agg (rkc r92), .int .i64 0] ∧ HAt h C2 T w) (fun v => (Good.pure (v = .tuple #[.agg (rkc r92), .int .i64 0])).and (HAt.good h C2)) (by simp only [List.getElem?_toArray, List.getElem?_cons_succ, List.getElem?_cons_zero]; rfl) rfl ?hw53 (fun w1 => ?hy53) (fun T wq kq ltq hSq ub => ?hsp53) ?hn53; (case hw53 => rfl); (case hy53 => (go_simp; (first | with_reducible rfl | (constructor <;> with_reducible rfl)))); (case hsp53 => (exact (dropH_c kq ltq 20 (by decide) ⟨⟨r92, 20⟩, by decide, rfl⟩).mono (fun e w' hh => by obtain ⟨⟨x, hx, hxi, he⟩, hA', hm'⟩ := hh; rw [c32] at hA'; have e92 := c3_20 hx hxi; rw [e92] at he; exact ⟨_, he, hm', rfl, (HAt.good h C2).gr _ _ _ (fun _ h => .inl h) hA'⟩))); rintro v53 ⟨wI, TI, hI⟩; replace gK := (fun v => (Good.pure (v = .tuple #[.agg (rkc r92), .int .i64 0])).and (HAt.good h C2)) v53; obtain ⟨rfl, _⟩ := hI.k; (try clear hI TI wI); (try simp only [Act.put, List.setIfInBounds_toArray, List.set_cons_zero, List.set_cons_succ]))
  (refine TG.v0 (v := ?v54) (by simp only [List.getElem?_toArray, List.getElem?_cons_succ, List.getElem?_cons_zero]; rfl) rfl ?hw54 (fun w1 => ?hy54) ?hn54; (case hw54 => rfl); (case hy54 => (go_simp; (try with_reducible rfl))); (try simp only [Act.put, List.setIfInBounds_toArray, List.set_cons_zero, List.set_cons_succ]))
  (refine TG.v0 (v := ?v55) (by simp only [List.getElem?_toArray, List.getElem?_cons_succ, List.getElem?_cons_zero]; rfl) rfl ?hw55 (fun w1 => ?hy55) ?hn55; (case hw55 => rfl); (case hy55 => (go_simp; (try with_reducible rfl))); (try simp only [Act.put, List.setIfInBounds_toArray, List.set_cons_zero, List.set_cons_succ]))
  (refine TG.v0 (v := ?v56) (by simp only [List.getElem?_toArray, List.getElem?_cons_succ, List.getElem?_cons_zero]; rfl) rfl ?hw56 (fun w1 => ?hy56) ?hn56; (case hw56 => rfl); (case hy56 => (go_simp; (try with_reducible rfl))); (try simp only [Act.put, List.setIfInBounds_toArray, List.set_cons_zero, List.set_cons_succ]))
  (refine TG.allocB (by simp only [List.getElem?_toArray, List.getElem?_cons_succ, List.getElem?_cons_zero]; rfl) rfl ?hw57 rfl rfl alRk (fun p8 hp8 _ => ?hn57); (case hw57 => rfl); (try simp only [Act.put, List.setIfInBounds_toArray, List.set_cons_zero, List.set_cons_succ]))
  (refine TG.storeB (d := ?d58) (T := ?T58) (y := ?y58) (p := ?p58) (b := ?b58) (v := ?v58) (by simp only [List.getElem?_toArray, List.getElem?_cons_succ, List.getElem?_cons_zero]; rfl) rfl ?hw58 ?hd58 ?hop58 ?hev58 ?hx58 ?hb58 ?htag58 (fun w1 hb1 => ?hy58) ?hn58; (case hw58 => rfl); (case hd58 => rfl); (case hop58 => rfl); (case hev58 => (simp only [Act.eval, Array.getD_eq_getD_getElem?, List.getElem?_toArray, List.getElem?_cons_succ, List.getElem?_cons_zero, Option.getD_some]; (try rfl))); (case hx58 => (simp only [Act.eval, Array.getD_eq_getD_getElem?, List.getElem?_toArray, List.getElem?_cons_succ, List.getElem?_cons_zero, Option.getD_some]; (try rfl))); (case hb58 => first | exact Bx.set_same _ _ _ | (simp only [Bx.set_same]; rfl)); (case htag58 => rfl); (case hy58 => (go_simp; (try with_reducible rfl))); (try simp only [Act.put, List.setIfInBounds_toArray, List.set_cons_zero, List.set_cons_succ]))
  (refine TG.v0 (v := ?v59) (by simp only [List.getElem?_toArray, List.getElem?_cons_succ, List.getElem?_cons_zero]; rfl) rfl ?hw59 (fun w1 => ?hy59) ?hn59; (case hw59 => rfl); (case hy59 => (go_simp; (try with_reducible rfl))); (try simp only [Act.put, List.setIfInBounds_toArray, List.set_cons_zero, List.set_cons_succ]))
  refine TG.nil (fun w13 ⟨TR, hr⟩ => ?_)
  have kp8 := hr.box p8 _ (by first | exact Bx.set_same _ _ _ | (simp only [Bx.set_same]; rfl)); dsimp only [Value.cells] at kp8; obtain ⟨gp8, nTp8, kp8⟩ := kp8
  clear gK
  have HX := Lib.hid (HH.rt (fun i hi => (HT.out i hi).1) hm hr hr.k.2)
  clear hr hm hA HT
  go_upto_region 9 with fail
  have Lkp8 := lt_size kp8
  refine wp_pass0 (C := fun _ _ v => v = .tuple #[.agg (rkc r50), .int .i64 30, .bool true]) (κ := fun i => [0, 2, 0, 0, 0, 0, 3, 4, 0, 0].getD i 0) [0, 1, 2, 3, 4, 5, 6, 7, 8, 9] (by kernel_rfl) (by kernel_rfl) (fun _ _ d _ _ h => by cases d <;> exact h) ?_
  (refine TD.val0 (v := ?v60) (by simp only [List.getElem?_toArray, List.getElem?_cons_succ, List.getElem?_cons_zero]; rfl) rfl ?hw60 (fun w1 => ?hy60) ?hn60; (case hw60 => rfl); (case hy60 => (go_simp; (try with_reducible rfl))); (try simp only [Act.put, List.setIfInBounds_toArray, List.set_cons_zero, List.set_cons_succ]))
  (refine TD.call (f := ?f61) (args := ?r61) (Mod.refl _ _) (by simp only [List.getElem?_toArray, List.getElem?_cons_succ, List.getElem?_cons_zero]; rfl) rfl ?hw61 (fun w1 => ?hy61) ?hsp61 ?hn61; (case hw61 => rfl); (case hy61 => (go_simp; (first | with_reducible rfl | (constructor <;> with_reducible rfl)))); (case hsp61 => (intro wq hSq; have kp8q := hSq.at kp8 (fun h => h); exact ((HX.out.mod0 hSq).top dc2 sd2).mono (fun e w' h => ⟨_, h.1, rfl, h.2⟩))); rintro _ rfl; (try simp only [Act.put, List.setIfInBounds_toArray, List.set_cons_zero, List.set_cons_succ]))
  (refine TD.val0 (v := ?v62) (by simp only [List.getElem?_toArray, List.getElem?_cons_succ, List.getElem?_cons_zero]; rfl) rfl ?hw62 (fun w1 => ?hy62) ?hn62; (case hw62 => rfl); (case hy62 => (go_simp; (try with_reducible rfl))); (try simp only [Act.put, List.setIfInBounds_toArray, List.set_cons_zero, List.set_cons_succ]))
  (refine TD.val0 (v := ?v63) (by simp only [List.getElem?_toArray, List.getElem?_cons_succ, List.getElem?_cons_zero]; rfl) rfl ?hw63 (fun w1 => ?hy63) ?hn63; (case hw63 => rfl); (case hy63 => (go_simp; (try with_reducible rfl))); (try simp only [Act.put, List.setIfInBounds_toArray, List.set_cons_zero, List.set_cons_succ]))
  (refine TD.val0 (v := ?v64) (by simp only [List.getElem?_toArray, List.getElem?_cons_succ, List.getElem?_cons_zero]; rfl) rfl ?hw64 (fun w1 => ?hy64) ?hn64; (case hw64 => rfl); (case hy64 => (go_simp; (try with_reducible rfl))); (try simp only [Act.put, List.setIfInBounds_toArray, List.set_cons_zero, List.set_cons_succ]))
  (refine TD.val0 (v := ?v65) (by simp only [List.getElem?_toArray, List.getElem?_cons_succ, List.getElem?_cons_zero]; rfl) rfl ?hw65 (fun w1 => ?hy65) ?hn65; (case hw65 => rfl); (case hy65 => (go_simp; (try with_reducible rfl))); (try simp only [Act.put, List.setIfInBounds_toArray, List.set_cons_zero, List.set_cons_succ]))
  (refine TD.allocB (by simp only [List.getElem?_toArray, List.getElem?_cons_succ, List.getElem?_cons_zero]; rfl) rfl ?hw66 rfl rfl alRk (fun p10 hp10 => ?hn66); (case hw66 => rfl); (try simp only [Act.put, List.setIfInBounds_toArray, List.set_cons_zero, List.set_cons_succ]))
  (refine TD.storeB (d := ?d67) (T := ?T67) (y := ?y67) (p := ?p67) (b := ?b67) (v := ?v67) (by simp only [List.getElem?_toArray, List.getElem?_cons_succ, List.getElem?_cons_zero]; rfl) rfl ?hw67 ?hd67 ?hop67 ?hev67 ?hx67 ?hb67 ?htag67 (fun w1 hb1 => ?hy67) ?hn67; (case hw67 => rfl); (case hd67 => rfl); (case hop67 => rfl); (case hev67 => (simp only [Act.eval, Array.getD_eq_getD_getElem?, List.getElem?_toArray, List.getElem?_cons_succ, List.getElem?_cons_zero, Option.getD_some]; (try rfl))); (case hx67 => (simp only [Act.eval, Array.getD_eq_getD_getElem?, List.getElem?_toArray, List.getElem?_cons_succ, List.getElem?_cons_zero, Option.getD_some]; (try rfl))); (case hb67 => first | exact Bx.set_same _ _ _ | (simp only [Bx.set_same]; rfl)); (case hy67 => (go_simp; (try with_reducible rfl))); (try simp only [Act.put, List.setIfInBounds_toArray, List.set_cons_zero, List.set_cons_succ]))
  (refine TD.val0 (v := ?v68) (by simp only [List.getElem?_toArray, List.getElem?_cons_succ, List.getElem?_cons_zero]; rfl) rfl ?hw68 (fun w1 => ?hy68) ?hn68; (case hw68 => rfl); (case hy68 => (go_simp; (try with_reducible rfl))); (try simp only [Act.put, List.setIfInBounds_toArray, List.set_cons_zero, List.set_cons_succ]))
  (refine TD.val0 (v := ?v69) (by simp only [List.getElem?_toArray, List.getElem?_cons_succ, List.getElem?_cons_zero]; rfl) rfl ?hw69 (fun w1 => ?hy69) ?hn69; (case hw69 => rfl); (case hy69 => (go_simp; (try with_reducible rfl))); (try simp only [Act.put, List.setIfInBounds_toArray, List.set_cons_zero, List.set_cons_succ]))
  refine TD.nil (fun w14 hr => ?_)
  have kp8 := hr.mod.at kp8 (fun h => h)
  have kp10 := hr.box p10 _ (by first | exact Bx.set_same _ _ _ | (simp only [Bx.set_same]; rfl)); dsimp only [Value.cells] at kp10; obtain ⟨gp10, kp10⟩ := kp10
  have HY := Lib.hid (HX.out.mod0 hr.mod)
  clear hr HX
  have HX := HY
  clear HY
  go_upto_region 10 with fail
  have Lkp8 := lt_size kp8
  have Lkp10 := lt_size kp10
  refine wp_pass0 (C := fun _ _ v => v = .tuple #[.agg (rkc rk0), .int .i64 11]) (κ := fun i => [0, 2, 0, 0, 0, 3, 4, 0].getD i 0) [0, 1, 2, 3, 4, 5, 6, 7] (by kernel_rfl) (by kernel_rfl) (fun _ _ d _ _ h => by cases d <;> exact h) ?_
  (refine TD.val0 (v := ?v70) (by simp only [List.getElem?_toArray, List.getElem?_cons_succ, List.getElem?_cons_zero]; rfl) rfl ?hw70 (fun w1 => ?hy70) ?hn70; (case hw70 => rfl); (case hy70 => (go_simp; (try with_reducible rfl))); (try simp only [Act.put, List.setIfInBounds_toArray, List.set_cons_zero, List.set_cons_succ]))
  (refine TD.call (f := ?f71) (args := ?r71) (Mod.refl _ _) (by simp only [List.getElem?_toArray, List.getElem?_cons_succ, List.getElem?_cons_zero]; rfl) rfl ?hw71 (fun w1 => ?hy71) ?hsp71 ?hn71; (case hw71 => rfl); (case hy71 => (go_simp; (first | with_reducible rfl | (constructor <;> with_reducible rfl)))); (case hsp71 => (intro wq hSq; have kp8q := hSq.at kp8 (fun h => h); have kp10q := hSq.at kp10 (fun h => h); exact ((HX.out.mod0 hSq).dropN 20 (n := 20) (by decide) (by decide)).mono (fun e w' h => ⟨_, h.1, rfl, h.2⟩))); rintro _ rfl; (try simp only [Act.put, List.setIfInBounds_toArray, List.set_cons_zero, List.set_cons_succ]))
  (refine TD.val0 (v := ?v72) (by simp only [List.getElem?_toArray, List.getElem?_cons_succ, List.getElem?_cons_zero]; rfl) rfl ?hw72 (fun w1 => ?hy72) ?hn72; (case hw72 => rfl); (case hy72 => (go_simp; (try with_reducible rfl))); (try simp only [Act.put, List.setIfInBounds_toArray, List.set_cons_zero, List.set_cons_succ]))
  (refine TD.val0 (v := ?v73) (by simp only [List.getElem?_toArray, List.getElem?_cons_succ, List.getElem?_cons_zero]; rfl) rfl ?hw73 (fun w1 => ?hy73) ?hn73; (case hw73 => rfl); (case hy73 => (go_simp; (try with_reducible rfl))); (try simp only [Act.put, List.setIfInBounds_toArray, List.set_cons_zero, List.set_cons_succ]))
  (refine TD.val0 (v := ?v74) (by simp only [List.getElem?_toArray, List.getElem?_cons_succ, List.getElem?_cons_zero]; rfl) rfl ?hw74 (fun w1 => ?hy74) ?hn74; (case hw74 => rfl); (case hy74 => (go_simp; (try with_reducible rfl))); (try simp only [Act.put, List.setIfInBounds_toArray, List.set_cons_zero, List.set_cons_succ]))
  (refine TD.allocB (by simp only [List.getElem?_toArray, List.getElem?_cons_succ, List.getElem?_cons_zero]; rfl) rfl ?hw75 rfl rfl alRk (fun p13 hp13 => ?hn75); (case hw75 => rfl); (try simp only [Act.put, List.setIfInBounds_toArray, List.set_cons_zero, List.set_cons_succ]))
  (refine TD.storeB (d := ?d76) (T := ?T76) (y := ?y76) (p := ?p76) (b := ?b76) (v := ?v76) (by simp only [List.getElem?_toArray, List.getElem?_cons_succ, List.getElem?_cons_zero]; rfl) rfl ?hw76 ?hd76 ?hop76 ?hev76 ?hx76 ?hb76 ?htag76 (fun w1 hb1 => ?hy76) ?hn76; (case hw76 => rfl); (case hd76 => rfl); (case hop76 => rfl); (case hev76 => (simp only [Act.eval, Array.getD_eq_getD_getElem?, List.getElem?_toArray, List.getElem?_cons_succ, List.getElem?_cons_zero, Option.getD_some]; (try rfl))); (case hx76 => (simp only [Act.eval, Array.getD_eq_getD_getElem?, List.getElem?_toArray, List.getElem?_cons_succ, List.getElem?_cons_zero, Option.getD_some]; (try rfl))); (case hb76 => first | exact Bx.set_same _ _ _ | (simp only [Bx.set_same]; rfl)); (case hy76 => (go_simp; (try with_reducible rfl))); (try simp only [Act.put, List.setIfInBounds_toArray, List.set_cons_zero, List.set_cons_succ]))
  (refine TD.val0 (v := ?v77) (by simp only [List.getElem?_toArray, List.getElem?_cons_succ, List.getElem?_cons_zero]; rfl) rfl ?hw77 (fun w1 => ?hy77) ?hn77; (case hw77 => rfl); (case hy77 => (go_simp; (try with_reducible rfl))); (try simp only [Act.put, List.setIfInBounds_toArray, List.set_cons_zero, List.set_cons_succ]))
  refine TD.nil (fun w15 hr => ?_)
  have kp8 := hr.mod.at kp8 (fun h => h)
  have kp10 := hr.mod.at kp10 (fun h => h)
  have kp13 := hr.box p13 _ (by first | exact Bx.set_same _ _ _ | (simp only [Bx.set_same]; rfl)); dsimp only [Value.cells] at kp13; obtain ⟨gp13, kp13⟩ := kp13
  have HM := Lib.hid (HX.out.mod0 hr.mod).m
  clear hr HX
  go_upto_region 11 with fail
  have Lkp8 := lt_size kp8
  have Lkp10 := lt_size kp10
  refine wp_gpass (T0 := fun _ => False) (K := fun _ _ => True) (κ := fun i => [0, 6, 0, 0, 0, 0, 0, 0, 0, 6, 0, 0, 0, 0, 0, 0, 0, 0, 0, 0, 0, 0, 0, 0].getD i 0) (υ := fun i => [[], [], [], [], [], [], [], [], [], [], [], [], [], [], [], [], [], [], [], [], [], [], [], []].getD i []) [0, 1, 2, 3, 4, 5, 6, 7, 8, 9, 10, 11, 12, 13, 14, 15, 16, 17, 18, 19, 20, 21, 22, 23] (by kernel_rfl) (by kernel_rfl) (Good.true).cl (trivial) (fun _ h => h.elim) ?_
  have gK := Good.true
  (refine TG.load (v := ?v78) (p := ?p78) (by simp only [List.getElem?_toArray, List.getElem?_cons_succ, List.getElem?_cons_zero]; rfl) rfl ?hw78 rfl ?hx78 (fun wq hSq => ?hy78) ?hn78; (case hw78 => rfl); (case hx78 => (simp only [Act.eval, Array.getD_eq_getD_getElem?, List.getElem?_toArray, List.getElem?_cons_succ, List.getElem?_cons_zero, Option.getD_some]; (try rfl))); (case hy78 => (have kp8q := hSq.at kp8 (by intro hT; first | exact hT | exact absurd hT (by assumption) | (simp only at hT; omega)); have kp10q := hSq.at kp10 (by intro hT; first | exact hT | exact absurd hT (by assumption) | (simp only at hT; omega)); go_simp; (try with_reducible rfl))); (try simp only [Act.put, List.setIfInBounds_toArray, List.set_cons_zero, List.set_cons_succ]))
  (refine TG.callN (f := ?f79) (args := ?r79) (fun v => v = .agg (rkc r92)) gK (by simp only [List.getElem?_toArray, List.getElem?_cons_succ, List.getElem?_cons_zero]; rfl) rfl ?hw79 (fun w1 => ?hy79) (fun T wq kq ltq hSq ub => ?hsp79) ?hn79; (case hw79 => rfl); (case hy79 => (go_simp; (first | with_reducible rfl | (constructor <;> with_reducible rfl)))); (case hsp79 => (have kp8q := hSq.at kp8 (by intro hT; first | exact hT | exact absurd hT (by assumption) | (simp only at hT; omega)); have kp10q := hSq.at kp10 (by intro hT; first | exact hT | exact absurd hT (by assumption) | (simp only at hT; omega)); exact (rank92 wq).mono (fun e w' h => ⟨_, h.1, rfl, h.2⟩))); rintro v79 hC; subst hC; (try simp only [Act.put, List.setIfInBounds_toArray, List.set_cons_zero, List.set_cons_succ]))
  (refine TG.v0 (v := ?v80) (by simp only [List.getElem?_toArray, List.getElem?_cons_succ, List.getElem?_cons_zero]; rfl) rfl ?hw80 (fun w1 => ?hy80) ?hn80; (case hw80 => rfl); (case hy80 => (simp only [execOp, Act.eval, Array.getD_eq_getD_getElem?, List.getElem?_toArray, List.getElem?_cons_succ, List.getElem?_cons_zero, Option.getD_some, rkc_ext]; go_simp; (try with_reducible rfl))); (try simp only [Act.put, List.setIfInBounds_toArray, List.set_cons_zero, List.set_cons_succ]))
  (refine TG.v0 (v := ?v81) (by simp only [List.getElem?_toArray, List.getElem?_cons_succ, List.getElem?_cons_zero]; rfl) rfl ?hw81 (fun w1 => ?hy81) ?hn81; (case hw81 => rfl); (case hy81 => (go_simp; (try with_reducible rfl))); (try simp only [Act.put, List.setIfInBounds_toArray, List.set_cons_zero, List.set_cons_succ]))
  (refine TG.v0 (v := ?v82) (by simp only [List.getElem?_toArray, List.getElem?_cons_succ, List.getElem?_cons_zero]; rfl) rfl ?hw82 (fun w1 => ?hy82) ?hn82; (case hw82 => rfl); (case hy82 => (go_simp; (try with_reducible rfl))); (try simp only [Act.put, List.setIfInBounds_toArray, List.set_cons_zero, List.set_cons_succ]))
  (refine TG.v0 (v := ?v83) (by simp only [List.getElem?_toArray, List.getElem?_cons_succ, List.getElem?_cons_zero]; rfl) rfl ?hw83 (fun w1 => ?hy83) ?hn83; (case hw83 => rfl); (case hy83 => (go_simp; (try with_reducible rfl))); (try simp only [Act.put, List.setIfInBounds_toArray, List.set_cons_zero, List.set_cons_succ]))
  (refine TG.v0 (v := ?v84) (by simp only [List.getElem?_toArray, List.getElem?_cons_succ, List.getElem?_cons_zero]; rfl) rfl ?hw84 (fun w1 => ?hy84) ?hn84; (case hw84 => rfl); (case hy84 => (go_simp; (try with_reducible rfl))); (try simp only [Act.put, List.setIfInBounds_toArray, List.set_cons_zero, List.set_cons_succ]))
  (refine TG.v0 (v := ?v85) (by simp only [List.getElem?_toArray, List.getElem?_cons_succ, List.getElem?_cons_zero]; rfl) rfl ?hw85 (fun w1 => ?hy85) ?hn85; (case hw85 => rfl); (case hy85 => (go_simp; (try with_reducible rfl))); (try simp only [Act.put, List.setIfInBounds_toArray, List.set_cons_zero, List.set_cons_succ]))
  (refine TG.load (v := ?v86) (p := ?p86) (by simp only [List.getElem?_toArray, List.getElem?_cons_succ, List.getElem?_cons_zero]; rfl) rfl ?hw86 rfl ?hx86 (fun wq hSq => ?hy86) ?hn86; (case hw86 => rfl); (case hx86 => (simp only [Act.eval, Array.getD_eq_getD_getElem?, List.getElem?_toArray, List.getElem?_cons_succ, List.getElem?_cons_zero, Option.getD_some]; (try rfl))); (case hy86 => (have kp8q := hSq.at kp8 (by intro hT; first | exact hT | exact absurd hT (by assumption) | (simp only at hT; omega)); have kp10q := hSq.at kp10 (by intro hT; first | exact hT | exact absurd hT (by assumption) | (simp only at hT; omega)); go_simp; (try with_reducible rfl))); (try simp only [Act.put, List.setIfInBounds_toArray, List.set_cons_zero, List.set_cons_succ]))
  (refine TG.callN (f := ?f87) (args := ?r87) (fun v => v = .agg (rkc r50)) gK (by simp only [List.getElem?_toArray, List.getElem?_cons_succ, List.getElem?_cons_zero]; rfl) rfl ?hw87 (fun w1 => ?hy87) (fun T wq kq ltq hSq ub => ?hsp87) ?hn87; (case hw87 => rfl); (case hy87 => (go_simp; (first | with_reducible rfl | (constructor <;> with_reducible rfl)))); (case hsp87 => (have kp8q := hSq.at kp8 (by intro hT; first | exact hT | exact absurd hT (by assumption) | (simp only at hT; omega)); have kp10q := hSq.at kp10 (by intro hT; first | exact hT | exact absurd hT (by assumption) | (simp only at hT; omega)); exact (rank50 wq).mono (fun e w' h => ⟨_, h.1, rfl, h.2⟩))); rintro v87 hC; subst hC; (try simp only [Act.put, List.setIfInBounds_toArray, List.set_cons_zero, List.set_cons_succ]))
  (refine TG.v0 (v := ?v88) (by simp only [List.getElem?_toArray, List.getElem?_cons_succ, List.getElem?_cons_zero]; rfl) rfl ?hw88 (fun w1 => ?hy88) ?hn88; (case hw88 => rfl); (case hy88 => (simp only [execOp, Act.eval, Array.getD_eq_getD_getElem?, List.getElem?_toArray, List.getElem?_cons_succ, List.getElem?_cons_zero, Option.getD_some, rkc_ext]; go_simp; (try with_reducible rfl))); (try simp only [Act.put, List.setIfInBounds_toArray, List.set_cons_zero, List.set_cons_succ]))
  (refine TG.v0 (v := ?v89) (by simp only [List.getElem?_toArray, List.getElem?_cons_succ, List.getElem?_cons_zero]; rfl) rfl ?hw89 (fun w1 => ?hy89) ?hn89; (case hw89 => rfl); (case hy89 => (go_simp; (try with_reducible rfl))); (try simp only [Act.put, List.setIfInBounds_toArray, List.set_cons_zero, List.set_cons_succ]))
  (refine TG.v0 (v := ?v90) (by simp only [List.getElem?_toArray, List.getElem?_cons_succ, List.getElem?_cons_zero]; rfl) rfl ?hw90 (fun w1 => ?hy90) ?hn90; (case hw90 => rfl); (case hy90 => (go_simp; (try with_reducible rfl))); (try simp only [Act.put, List.setIfInBounds_toArray, List.set_cons_zero, List.set_cons_succ]))
  (refine TG.v0 (v := ?v91) (by simp only [List.getElem?_toArray, List.getElem?_cons_succ, List.getElem?_cons_zero]; rfl) rfl ?hw91 (fun w1 => ?hy91) ?hn91; (case hw91 => rfl); (case hy91 => (go_simp; (try with_reducible rfl))); (try simp only [Act.put, List.setIfInBounds_toArray, List.set_cons_zero, List.set_cons_succ]))
  (refine TG.v0 (v := ?v92) (by simp only [List.getElem?_toArray, List.getElem?_cons_succ, List.getElem?_cons_zero]; rfl) rfl ?hw92 (fun w1 => ?hy92) ?hn92; (case hw92 => rfl); (case hy92 => (go_simp; (try with_reducible rfl))); (try simp only [Act.put, List.setIfInBounds_toArray, List.set_cons_zero, List.set_cons_succ]))
  (refine TG.v0 (v := ?v93) (by simp only [List.getElem?_toArray, List.getElem?_cons_succ, List.getElem?_cons_zero]; rfl) rfl ?hw93 (fun w1 => ?hy93) ?hn93; (case hw93 => rfl); (case hy93 => (go_simp; (try with_reducible rfl))); (try simp only [Act.put, List.setIfInBounds_toArray, List.set_cons_zero, List.set_cons_succ]))
  (refine TG.v0 (v := ?v94) (by simp only [List.getElem?_toArray, List.getElem?_cons_succ, List.getElem?_cons_zero]; rfl) rfl ?hw94 (fun w1 => ?hy94) ?hn94; (case hw94 => rfl); (case hy94 => (go_simp; (try with_reducible rfl))); (try simp only [Act.put, List.setIfInBounds_toArray, List.set_cons_zero, List.set_cons_succ]))
  (refine TG.v0 (v := ?v95) (by simp only [List.getElem?_toArray, List.getElem?_cons_succ, List.getElem?_cons_zero]; rfl) rfl ?hw95 (fun w1 => ?hy95) ?hn95; (case hw95 => rfl); (case hy95 => (go_simp; (try with_reducible rfl))); (try simp only [Act.put, List.setIfInBounds_toArray, List.set_cons_zero, List.set_cons_succ]))
  (refine TG.v0 (v := ?v96) (by simp only [List.getElem?_toArray, List.getElem?_cons_succ, List.getElem?_cons_zero]; rfl) rfl ?hw96 (fun w1 => ?hy96) ?hn96; (case hw96 => rfl); (case hy96 => (go_simp; (try with_reducible rfl))); (try simp only [Act.put, List.setIfInBounds_toArray, List.set_cons_zero, List.set_cons_succ]))
  (refine TG.v0 (v := ?v97) (by simp only [List.getElem?_toArray, List.getElem?_cons_succ, List.getElem?_cons_zero]; rfl) rfl ?hw97 (fun w1 => ?hy97) ?hn97; (case hw97 => rfl); (case hy97 => (go_simp; (try with_reducible rfl))); (try simp only [Act.put, List.setIfInBounds_toArray, List.set_cons_zero, List.set_cons_succ]))
  (refine TG.v0 (v := ?v98) (by simp only [List.getElem?_toArray, List.getElem?_cons_succ, List.getElem?_cons_zero]; rfl) rfl ?hw98 (fun w1 => ?hy98) ?hn98; (case hw98 => rfl); (case hy98 => (go_simp; (try with_reducible rfl))); (try simp only [Act.put, List.setIfInBounds_toArray, List.set_cons_zero, List.set_cons_succ]))
  (refine TG.v0 (v := ?v99) (by simp only [List.getElem?_toArray, List.getElem?_cons_succ, List.getElem?_cons_zero]; rfl) rfl ?hw99 (fun w1 => ?hy99) ?hn99; (case hw99 => rfl); (case hy99 => (go_simp; (try with_reducible rfl))); (try simp only [Act.put, List.setIfInBounds_toArray, List.set_cons_zero, List.set_cons_succ]))
  (refine TG.v0 (v := ?v100) (by simp only [List.getElem?_toArray, List.getElem?_cons_succ, List.getElem?_cons_zero]; rfl) rfl ?hw100 (fun w1 => ?hy100) ?hn100; (case hw100 => rfl); (case hy100 => (go_simp; (try with_reducible rfl))); (try simp only [Act.put, List.setIfInBounds_toArray, List.set_cons_zero, List.set_cons_succ]))
  (refine TG.v0 (v := ?v101) (by simp only [List.getElem?_toArray, List.getElem?_cons_succ, List.getElem?_cons_zero]; rfl) rfl ?hw101 (fun w1 => ?hy101) ?hn101; (case hw101 => rfl); (case hy101 => (go_simp; (try with_reducible rfl))); (try simp only [Act.put, List.setIfInBounds_toArray, List.set_cons_zero, List.set_cons_succ]))
  refine TG.nil (fun w16 ⟨TR, hr⟩ => ?_)
  have kp8 := hr.mod.at kp8 (by intro hT; first | exact hT | exact absurd hT (by assumption) | (simp only at hT; omega))
  have kp10 := hr.mod.at kp10 (by intro hT; first | exact hT | exact absurd hT (by assumption) | (simp only at hT; omega))
  clear gK
  have mF := HM.out.then0 hr.mod
  clear hr
  go_wp2_with fail
  go_ret
  exact ⟨rfl, mF⟩
end Go.Proofs.Ytnibhnnpjkemhaa
