/- The lemmas of the proof, part M4: how the program and its data lie in memory, and what its functions do. -/
import Derived.Test.YtiaehkkkcaeaiaaGreatDoorM3
import Derived.Shelf.Abstract
import Derived.OwnWalk
set_option linter.unusedSimpArgs false
set_option linter.unusedVariables false
set_option linter.unusedSectionVars false
namespace Go.Proofs.YtiaehkkkcaeaiaaGreatDoor
open Go.RowKit
open Go.ChangeMaps (setBlock)
attribute [local go_sem ↓] wlKey ldKey stKey ldSg stSg wlTc ldTc stTc eqKey1
attribute [local go_sem] cell_blk frozen_blk kc_ext one_int one_bool one_ptr one_slice one_map kc_one kc_one0 kc_size zKey_size sgc_size sgc_ext sgc_one0 sgc_one' txr_size txr_all txr_one txr_one' txr0 txr38 txr39 txr0' txr38' txr39' zTx_size Value.cells
attribute [local go_sem] txr2 txr5 txr2' txr5' txr_hd
abbrev fnV (f : FuncId) : Value := .func (.func f) #[] #[]
def zRule : Array Value := #[.nilFunc, .int .i64 0]
theorem ldRule (w : World) (b o : Nat) : (Instr.loadAt 118 (.pointer (some ⟨b, o, none⟩))).run Tryz.prog w =
   match w.heap[b]? with
   | some (.cells cs _ _) => if o + 2 ≤ cs.size then .ok (.agg (cs.extract o (o + 2))) w else farL Tryz.prog w 118 b o
   | _ => farL Tryz.prog w 118 b o := load_rule (d := _) Tryz.underlying118 rfl (by kernel_rfl) w b o
theorem stRule (w : World) (b o : Nat) (xs : Array Value) : (Instr.storeAt 118 (.pointer (some ⟨b, o, none⟩)) (.agg xs)).run Tryz.prog w =
   match w.heap[b]? with
   | some (.cells cs U (0, 0)) =>
    if o + 2 ≤ cs.size ∧ xs.size = 2 ∧ xs.all (·.oneCell') = true then .ok () (setBlock w b (.cells (if o = 0 ∧ 2 = cs.size then xs else wr cs o xs.toList) U (0, 0))) else farS Tryz.prog w 118 b o (.agg xs)
   | _ => farS Tryz.prog w 118 b o (.agg xs) := store_rule (by kernel_rfl) w b o xs
theorem alRule (w : World) : (Instr.alloc 118 true (.tuple #[])).run Tryz.prog w = .ok (.pointer (some ⟨w.heap.size, 0, none⟩)) (w.alloc (.cells zRule 118)) :=
 run_alloc_row (z := .agg zRule) (fun w => by kernel_rfl) w
theorem zRule_size : zRule.size = 2 := rfl
attribute [local go_sem ↓] ldRule stRule
attribute [local go_sem] zRule_size
theorem bRule (f : FuncId) (n : Int) (w : World) : (Instr.build 118 #[(0, fnV f), (1, .int .i64 n)]).run Tryz.prog w = .ok (.agg #[fnV f, .int .i64 n]) w := by kernel_rfl
def rlC : Array Value := #[fnV 66, .int .i64 6, fnV 67, .int .i64 7, fnV 68, .int .i64 10, fnV 69, .int .i64 3, fnV 70, .int .i64 8, fnV 71, .int .i64 9]
theorem bsRules (w : World) : (Instr.buildSlice 119 6 #[(0, .agg #[fnV 66, .int .i64 6]), (1, .agg #[fnV 67, .int .i64 7]), (2, .agg #[fnV 68, .int .i64 10]), (3, .agg #[fnV 69, .int .i64 3]), (4, .agg #[fnV 70, .int .i64 8]), (5, .agg #[fnV 71, .int .i64 9])]).run Tryz.prog w = .ok (.slice (some ⟨w.heap.size, 0, none⟩) 6 6) (w.alloc (.cells rlC 118)) := by kernel_rfl
theorem rlC_size : rlC.size = 12 := rfl
theorem rlC0 : rlC.extract 0 2 = #[fnV 66, .int .i64 6] := rfl
theorem rlC1 : rlC.extract 2 4 = #[fnV 67, .int .i64 7] := rfl
theorem rlC2 : rlC.extract 4 6 = #[fnV 68, .int .i64 10] := rfl
theorem rlC3 : rlC.extract 6 8 = #[fnV 69, .int .i64 3] := rfl
theorem rlC4 : rlC.extract 8 10 = #[fnV 70, .int .i64 8] := rfl
theorem rlC5 : rlC.extract 10 12 = #[fnV 71, .int .i64 9] := rfl
theorem fn_one (f : FuncId) : (fnV f).oneCell' = true := rfl
theorem fn_one2 (f : FuncId) : (Value.func (.func f) #[] #[]).oneCell' = true := rfl
attribute [local go_sem] fn_one fn_one2
attribute [local go_sem] rlC_size rlC0 rlC1 rlC2 rlC3 rlC4 rlC5
def rP : Nat → TxP → Bool
 | 0 => signedP
 | 1 => headedP
 | 2 => lookedP
 | 3 => fewP
 | 4 => pointedP
 | _ => onceP
theorem chk_all {x : TxP} (h : ∀ j, j < 6 → rP j x = true) : chkP x = 0 := by
 have h0 : signedP x = true := h 0 (by omega)
 have h1 : headedP x = true := h 1 (by omega)
 have h2 : lookedP x = true := h 2 (by omega)
 have h3 : fewP x = true := h 3 (by omega)
 have h4 : pointedP x = true := h 4 (by omega)
 have h5 : onceP x = true := h 5 (by omega)
 simp [chkP, h0, h1, h2, h3, h4, h5]
theorem chk_a {x : TxP} (h : ∀ j, j < 0 → rP j x = true) (hf : rP 0 x = false) : chkP x = 6 := by
 have h0 : 0 < 0 → signedP x = true := h 0
 have h1 : 1 < 0 → headedP x = true := h 1
 have h2 : 2 < 0 → lookedP x = true := h 2
 have h3 : 3 < 0 → fewP x = true := h 3
 have h4 : 4 < 0 → pointedP x = true := h 4
 simp at h0 h1 h2 h3 h4
 simp [rP] at hf
 simp_all [chkP]
theorem chk_b {x : TxP} (h : ∀ j, j < 1 → rP j x = true) (hf : rP 1 x = false) : chkP x = 7 := by
 have h0 : 0 < 1 → signedP x = true := h 0
 have h1 : 1 < 1 → headedP x = true := h 1
 have h2 : 2 < 1 → lookedP x = true := h 2
 have h3 : 3 < 1 → fewP x = true := h 3
 have h4 : 4 < 1 → pointedP x = true := h 4
 simp at h0 h1 h2 h3 h4
 simp [rP] at hf
 simp_all [chkP]
theorem chk_c {x : TxP} (h : ∀ j, j < 2 → rP j x = true) (hf : rP 2 x = false) : chkP x = 10 := by
 have h0 : 0 < 2 → signedP x = true := h 0
 have h1 : 1 < 2 → headedP x = true := h 1
 have h2 : 2 < 2 → lookedP x = true := h 2
 have h3 : 3 < 2 → fewP x = true := h 3
 have h4 : 4 < 2 → pointedP x = true := h 4
 simp at h0 h1 h2 h3 h4
 simp [rP] at hf
 simp_all [chkP]
theorem chk_d {x : TxP} (h : ∀ j, j < 3 → rP j x = true) (hf : rP 3 x = false) : chkP x = 3 := by
 have h0 : 0 < 3 → signedP x = true := h 0
 have h1 : 1 < 3 → headedP x = true := h 1
 have h2 : 2 < 3 → lookedP x = true := h 2
 have h3 : 3 < 3 → fewP x = true := h 3
 have h4 : 4 < 3 → pointedP x = true := h 4
 simp at h0 h1 h2 h3 h4
 simp [rP] at hf
 simp_all [chkP]
theorem chk_e {x : TxP} (h : ∀ j, j < 4 → rP j x = true) (hf : rP 4 x = false) : chkP x = 8 := by
 have h0 : 0 < 4 → signedP x = true := h 0
 have h1 : 1 < 4 → headedP x = true := h 1
 have h2 : 2 < 4 → lookedP x = true := h 2
 have h3 : 3 < 4 → fewP x = true := h 3
 have h4 : 4 < 4 → pointedP x = true := h 4
 simp at h0 h1 h2 h3 h4
 simp [rP] at hf
 simp_all [chkP]
theorem chk_f {x : TxP} (h : ∀ j, j < 5 → rP j x = true) (hf : rP 5 x = false) : chkP x = 9 := by
 have h0 : 0 < 5 → signedP x = true := h 0
 have h1 : 1 < 5 → headedP x = true := h 1
 have h2 : 2 < 5 → lookedP x = true := h 2
 have h3 : 3 < 5 → fewP x = true := h 3
 have h4 : 4 < 5 → pointedP x = true := h 4
 simp at h0 h1 h2 h3 h4
 simp [rP] at hf
 simp_all [chkP]
theorem rP_step {x : TxP} {i : Nat} (h : ∀ j, j < i → rP j x = true) (hi : rP i x = true) : ∀ j, j < i + 1 → rP j x = true := fun j hj => by
 by_cases e : j = i
 ·rw [e]; exact hi
 ·exact h j (by omega)
set_option maxRecDepth 20000 in
set_option maxHeartbeats 6400000 in
theorem check_c (x : RdR) (w : World) (h : TxRd w x) : Calls Tryz.prog 25 #[.agg (txr x)] w fun e w' => e = .returned (.int .i64 ((chkP (txP x) : Nat) : Int)) ∧ Mod (fun _ => False) w w' := by
 have HX := Lib.hid h
 clear h
 obtain ⟨r, hr0⟩ : ∃ r, chkP (txP x) = r := ⟨_, rfl⟩
 have hb0 := fun w => bRule 66 6 w
 have hb1 := fun w => bRule 67 7 w
 have hb2 := fun w => bRule 68 10 w
 have hb3 := fun w => bRule 69 3 w
 have hb4 := fun w => bRule 70 8 w
 have hb5 := fun w => bRule 71 9 w
 have hbs := bsRules
 clear hr0
 go_enter Tryz.func25, Tryz.ntmps25
 go_upto_region 0 with fail
 refine wp_pass0 (C := fun _ _ _ => False) (κ := fun i => [3, 0].getD i 0) [0, 1] (by kernel_rfl) (by kernel_rfl) (fun _ _ d _ _ h => by cases d <;> first | exact h | exact absurd h (hP _ _ _)) ?_
 (refine TD.box (v := ?v1) (by simp only [zK]; rfl) rfl (by rfl) rfl rfl ?hx1 (fun p1 hp1 => ?n1); (case hx1 => simp only [zM]; try rfl); try simp only [zL])
 (refine TD.val0 (v := ?_) (by simp only [zK]; rfl) rfl (by rfl) (fun w1 => ?_) ?_; rotate_left; (next => go_simp; try with_reducible rfl); try simp only [zL])
 refine TD.nil (fun w1 hr => ?_)
 have kp1 := hr.box p1 _ (by first | exact Bx.set_same _ _ _ | (simp only [Bx.set_same]; rfl)); dsimp only [Value.cells] at kp1; obtain ⟨gp1, kp1⟩ := kp1
 have HM1 := Lib.hid hr.mod
 clear hr
 go_upto_region 1 with fail
 have Lkp1 := lt_size kp1
 refine wp_pass0 (C := fun _ _ _ => False) (κ := fun i => [0, 0, 0, 0, 0, 0, 3, 0, 0].getD i 0) [0, 1, 2, 3, 4, 5, 6, 7, 8] (by kernel_rfl) (by kernel_rfl) (fun _ _ d _ _ h => by cases d <;> first | exact h | exact absurd h (hP _ _ _)) ?_
 (refine TD.build (v := ?v3) (ps := ?p3) (by simp only [zK]; rfl) rfl (by rfl) rfl ?hx3 (fun w1 => ?y3) ?n3; (case hx3 => (simp only [List.map_toArray, List.map_cons, List.map_nil, zM]; (try rfl))); (case y3 => (rw [hb0]; (try with_reducible rfl))); try simp only [zL])
 (refine TD.build (v := ?v4) (ps := ?p4) (by simp only [zK]; rfl) rfl (by rfl) rfl ?hx4 (fun w1 => ?y4) ?n4; (case hx4 => (simp only [List.map_toArray, List.map_cons, List.map_nil, zM]; (try rfl))); (case y4 => (rw [hb1]; (try with_reducible rfl))); try simp only [zL])
 (refine TD.build (v := ?v5) (ps := ?p5) (by simp only [zK]; rfl) rfl (by rfl) rfl ?hx5 (fun w1 => ?y5) ?n5; (case hx5 => (simp only [List.map_toArray, List.map_cons, List.map_nil, zM]; (try rfl))); (case y5 => (rw [hb2]; (try with_reducible rfl))); try simp only [zL])
 (refine TD.build (v := ?v6) (ps := ?p6) (by simp only [zK]; rfl) rfl (by rfl) rfl ?hx6 (fun w1 => ?y6) ?n6; (case hx6 => (simp only [List.map_toArray, List.map_cons, List.map_nil, zM]; (try rfl))); (case y6 => (rw [hb3]; (try with_reducible rfl))); try simp only [zL])
 (refine TD.build (v := ?v7) (ps := ?p7) (by simp only [zK]; rfl) rfl (by rfl) rfl ?hx7 (fun w1 => ?y7) ?n7; (case hx7 => (simp only [List.map_toArray, List.map_cons, List.map_nil, zM]; (try rfl))); (case y7 => (rw [hb4]; (try with_reducible rfl))); try simp only [zL])
 (refine TD.build (v := ?v8) (ps := ?p8) (by simp only [zK]; rfl) rfl (by rfl) rfl ?hx8 (fun w1 => ?y8) ?n8; (case hx8 => (simp only [List.map_toArray, List.map_cons, List.map_nil, zM]; (try rfl))); (case y8 => (rw [hb5]; (try with_reducible rfl))); try simp only [zL])
 (refine TD.bslice (by simp only [zK]; rfl) rfl (by rfl) rfl rfl ?hx9 hbs (fun p11 hp11 => ?n9); (case hx9 => (simp only [List.map_toArray, List.map_cons, List.map_nil, zM]; (try rfl))); try simp only [zL])
 iterate 2 (refine TD.val0 (v := ?_) (by simp only [zK]; rfl) rfl (by rfl) (fun w1 => ?_) ?_; rotate_left; (next => go_simp; try with_reducible rfl); try simp only [zL])
 refine TD.nil (fun w2 hr => ?_)
 replace kp1 := hr.mod.at kp1 (fun h => h)
 have kp11 := hr.box p11 _ (by first | exact Bx.set_same _ _ _ | (simp only [Bx.set_same]; rfl)); dsimp only [Value.cells] at kp11; obtain ⟨gp11, kp11⟩ := kp11
 have HM2 := Lib.hid (HM1.out.then0 hr.mod)
 have kl := kp11
 clear hr hb0 hb1 hb2 hb3 hb4 hb5 hbs kp11
 go_wp2_with fail
 go_loopw [13] (fun s13 ws => ∃ i : Nat, i ≤ 6 ∧ s13 = .int .i64 (i : Int) ∧ Hid (∀ j, j < i → rP j (txP x) = true) ∧ Hid (Mod (fun _ => False) w ws) ∧ ws.heap[p11]? = some (.cells rlC 118 (0, 0)) ∧ ws.heap[p1]? = some (.cells (txr x) 35 (0, 0))) (fun s13 _ => 6 - (intOf s13).toNat)
 case atStart => exact ⟨0, by omega, rfl, Lib.hid (fun j hj => by omega), HM2, kl, kp1⟩
 case round =>
  clear kl kp1
  obtain ⟨i, hi, rfl, HI, HM, kl, kp1⟩ := hrel
  rcases (by omega : i = 0 ∨ i = 1 ∨ i = 2 ∨ i = 3 ∨ i = 4 ∨ i = 5 ∨ i = 6) with rfl | rfl | rfl | rfl | rfl | rfl | rfl
  ·
   obtain ⟨b, hb⟩ : ∃ b, signedP (txP x) = b := ⟨_, rfl⟩
   have HB := Lib.hid hb
   clear hb
   go_upto_region 3 with fail
   have Lkl := lt_size kl
   have Lkp1 := lt_size kp1
   refine wp_pass0 (C := fun _ _ _ => False) (κ := fun i => [0, 1, 3, 4].getD i 0) [0, 1, 2, 3] (by kernel_rfl) (by kernel_rfl) (fun _ _ d _ _ h => by cases d <;> first | exact h | exact absurd h (hP _ _ _)) ?_
   (refine TD.val0 (v := ?_) (by simp only [zK]; rfl) rfl (by rfl) (fun w1 => ?_) ?_; rotate_left; (next => go_simp; try with_reducible rfl); try simp only [zL])
   (refine TD.load (v := ?_) (p := ?_) (Mod.refl _ _) (by simp only [zK]; rfl) rfl (by rfl) rfl ?_ (fun wq hSq => ?_) ?_; rotate_left 2; (next => simp only [zM]; try rfl); (next => have klq := hSq.at kl (fun h => h); have kp1q := hSq.at kp1 (fun h => h); go_simp; try with_reducible rfl); try simp only [zL])
   (refine TD.allocB (by simp only [zK]; rfl) rfl (by rfl) rfl rfl alRule (fun p4 hp4 => ?n14); try simp only [zL])
   (refine TD.storeB (d := ?d15) (T := ?T15) (y := ?y15) (p := ?p15) (b := ?b15) (v := ?v15) (by simp only [zK]; rfl) rfl (by rfl) ?hd15 ?hop15 ?hev15 ?hx15 ?hb15 ?htag15 (fun w1 hb1 => ?hy15) ?hn15; (case hd15 => rfl); (case hop15 => rfl); (case hev15 => (simp only [zM]; (try rfl))); (case hx15 => simp only [zM]; try rfl); (case hb15 => first | exact Bx.set_same _ _ _ | (simp only [Bx.set_same]; rfl)); (case hy15 => (go_simp; (try first | with_reducible rfl | (rw [setCell_blk hb1]; rfl)))); try simp only [zL])
   refine TD.nil (fun w3 hr => ?_)
   replace kl := hr.mod.at kl (fun h => h)
   replace kp1 := hr.mod.at kp1 (fun h => h)
   have kp4 := hr.box p4 _ (by first | exact Bx.set_same _ _ _ | (simp only [Bx.set_same]; rfl)); dsimp only [Value.cells] at kp4; obtain ⟨gp4, kp4⟩ := kp4
   have HM3 := Lib.hid (HM.out.then0 hr.mod)
   clear hr
   go_wp2_with fail
   go_at_call 66
   refine (signed_c x _).mono ?_
   rintro e w4 ⟨rfl, m4⟩
   rw [HB.out]
   have HM4 := Lib.hid (HM3.out.trans m4)
   replace kl := m4.at0 kl
   replace kp1 := m4.at0 kp1
   replace kp4 := m4.at0 kp4
   clear m4
   cases b with
   | false =>
    have HE := Lib.hid (chk_a HI.out HB.out)
    go_wp2_with fail
    go_ret
    exact ⟨by rw [HE.out]; rfl, HM4.out⟩
   | true =>
    have HI2 := Lib.hid (rP_step HI.out HB.out)
    go_wp2_with fail
    go_roundw
    case rel => exact ⟨1, by omega, by go_num, HI2, HM4, kl, kp1⟩
    case measure => simp [intOf]
  ·
   obtain ⟨b, hb⟩ : ∃ b, headedP (txP x) = b := ⟨_, rfl⟩
   have HB := Lib.hid hb
   clear hb
   go_upto_region 3 with fail
   have Lkl := lt_size kl
   have Lkp1 := lt_size kp1
   refine wp_pass0 (C := fun _ _ _ => False) (κ := fun i => [0, 1, 3, 4].getD i 0) [0, 1, 2, 3] (by kernel_rfl) (by kernel_rfl) (fun _ _ d _ _ h => by cases d <;> first | exact h | exact absurd h (hP _ _ _)) ?_
   (refine TD.val0 (v := ?_) (by simp only [zK]; rfl) rfl (by rfl) (fun w1 => ?_) ?_; rotate_left; (next => go_simp; try with_reducible rfl); try simp only [zL])
   (refine TD.load (v := ?_) (p := ?_) (Mod.refl _ _) (by simp only [zK]; rfl) rfl (by rfl) rfl ?_ (fun wq hSq => ?_) ?_; rotate_left 2; (next => simp only [zM]; try rfl); (next => have klq := hSq.at kl (fun h => h); have kp1q := hSq.at kp1 (fun h => h); go_simp; try with_reducible rfl); try simp only [zL])
   (refine TD.allocB (by simp only [zK]; rfl) rfl (by rfl) rfl rfl alRule (fun p4 hp4 => ?n18); try simp only [zL])
   (refine TD.storeB (d := ?d19) (T := ?T19) (y := ?y19) (p := ?p19) (b := ?b19) (v := ?v19) (by simp only [zK]; rfl) rfl (by rfl) ?hd19 ?hop19 ?hev19 ?hx19 ?hb19 ?htag19 (fun w1 hb1 => ?hy19) ?hn19; (case hd19 => rfl); (case hop19 => rfl); (case hev19 => (simp only [zM]; (try rfl))); (case hx19 => simp only [zM]; try rfl); (case hb19 => first | exact Bx.set_same _ _ _ | (simp only [Bx.set_same]; rfl)); (case hy19 => (go_simp; (try first | with_reducible rfl | (rw [setCell_blk hb1]; rfl)))); try simp only [zL])
   refine TD.nil (fun w3 hr => ?_)
   replace kl := hr.mod.at kl (fun h => h)
   replace kp1 := hr.mod.at kp1 (fun h => h)
   have kp4 := hr.box p4 _ (by first | exact Bx.set_same _ _ _ | (simp only [Bx.set_same]; rfl)); dsimp only [Value.cells] at kp4; obtain ⟨gp4, kp4⟩ := kp4
   have HM3 := Lib.hid (HM.out.then0 hr.mod)
   clear hr
   go_wp2_with fail
   go_at_call 67
   refine (headed_c x _).mono ?_
   rintro e w4 ⟨rfl, m4⟩
   rw [HB.out]
   have HM4 := Lib.hid (HM3.out.trans m4)
   replace kl := m4.at0 kl
   replace kp1 := m4.at0 kp1
   replace kp4 := m4.at0 kp4
   clear m4
   cases b with
   | false =>
    have HE := Lib.hid (chk_b HI.out HB.out)
    go_wp2_with fail
    go_ret
    exact ⟨by rw [HE.out]; rfl, HM4.out⟩
   | true =>
    have HI2 := Lib.hid (rP_step HI.out HB.out)
    go_wp2_with fail
    go_roundw
    case rel => exact ⟨2, by omega, by go_num, HI2, HM4, kl, kp1⟩
    case measure => simp [intOf]
  ·
   obtain ⟨b, hb⟩ : ∃ b, lookedP (txP x) = b := ⟨_, rfl⟩
   have HB := Lib.hid hb
   clear hb
   go_upto_region 3 with fail
   have Lkl := lt_size kl
   have Lkp1 := lt_size kp1
   refine wp_pass0 (C := fun _ _ _ => False) (κ := fun i => [0, 1, 3, 4].getD i 0) [0, 1, 2, 3] (by kernel_rfl) (by kernel_rfl) (fun _ _ d _ _ h => by cases d <;> first | exact h | exact absurd h (hP _ _ _)) ?_
   (refine TD.val0 (v := ?_) (by simp only [zK]; rfl) rfl (by rfl) (fun w1 => ?_) ?_; rotate_left; (next => go_simp; try with_reducible rfl); try simp only [zL])
   (refine TD.load (v := ?_) (p := ?_) (Mod.refl _ _) (by simp only [zK]; rfl) rfl (by rfl) rfl ?_ (fun wq hSq => ?_) ?_; rotate_left 2; (next => simp only [zM]; try rfl); (next => have klq := hSq.at kl (fun h => h); have kp1q := hSq.at kp1 (fun h => h); go_simp; try with_reducible rfl); try simp only [zL])
   (refine TD.allocB (by simp only [zK]; rfl) rfl (by rfl) rfl rfl alRule (fun p4 hp4 => ?n22); try simp only [zL])
   (refine TD.storeB (d := ?d23) (T := ?T23) (y := ?y23) (p := ?p23) (b := ?b23) (v := ?v23) (by simp only [zK]; rfl) rfl (by rfl) ?hd23 ?hop23 ?hev23 ?hx23 ?hb23 ?htag23 (fun w1 hb1 => ?hy23) ?hn23; (case hd23 => rfl); (case hop23 => rfl); (case hev23 => (simp only [zM]; (try rfl))); (case hx23 => simp only [zM]; try rfl); (case hb23 => first | exact Bx.set_same _ _ _ | (simp only [Bx.set_same]; rfl)); (case hy23 => (go_simp; (try first | with_reducible rfl | (rw [setCell_blk hb1]; rfl)))); try simp only [zL])
   refine TD.nil (fun w3 hr => ?_)
   replace kl := hr.mod.at kl (fun h => h)
   replace kp1 := hr.mod.at kp1 (fun h => h)
   have kp4 := hr.box p4 _ (by first | exact Bx.set_same _ _ _ | (simp only [Bx.set_same]; rfl)); dsimp only [Value.cells] at kp4; obtain ⟨gp4, kp4⟩ := kp4
   have HM3 := Lib.hid (HM.out.then0 hr.mod)
   clear hr
   go_wp2_with fail
   go_at_call 68
   refine (looked_c x _ (HX.out.mod0 HM3.out)).mono ?_
   rintro e w4 ⟨rfl, m4⟩
   rw [HB.out]
   have HM4 := Lib.hid (HM3.out.trans m4)
   replace kl := m4.at0 kl
   replace kp1 := m4.at0 kp1
   replace kp4 := m4.at0 kp4
   clear m4
   cases b with
   | false =>
    have HE := Lib.hid (chk_c HI.out HB.out)
    go_wp2_with fail
    go_ret
    exact ⟨by rw [HE.out]; rfl, HM4.out⟩
   | true =>
    have HI2 := Lib.hid (rP_step HI.out HB.out)
    go_wp2_with fail
    go_roundw
    case rel => exact ⟨3, by omega, by go_num, HI2, HM4, kl, kp1⟩
    case measure => simp [intOf]
  ·
   obtain ⟨b, hb⟩ : ∃ b, fewP (txP x) = b := ⟨_, rfl⟩
   have HB := Lib.hid hb
   clear hb
   go_upto_region 3 with fail
   have Lkl := lt_size kl
   have Lkp1 := lt_size kp1
   refine wp_pass0 (C := fun _ _ _ => False) (κ := fun i => [0, 1, 3, 4].getD i 0) [0, 1, 2, 3] (by kernel_rfl) (by kernel_rfl) (fun _ _ d _ _ h => by cases d <;> first | exact h | exact absurd h (hP _ _ _)) ?_
   (refine TD.val0 (v := ?_) (by simp only [zK]; rfl) rfl (by rfl) (fun w1 => ?_) ?_; rotate_left; (next => go_simp; try with_reducible rfl); try simp only [zL])
   (refine TD.load (v := ?_) (p := ?_) (Mod.refl _ _) (by simp only [zK]; rfl) rfl (by rfl) rfl ?_ (fun wq hSq => ?_) ?_; rotate_left 2; (next => simp only [zM]; try rfl); (next => have klq := hSq.at kl (fun h => h); have kp1q := hSq.at kp1 (fun h => h); go_simp; try with_reducible rfl); try simp only [zL])
   (refine TD.allocB (by simp only [zK]; rfl) rfl (by rfl) rfl rfl alRule (fun p4 hp4 => ?n26); try simp only [zL])
   (refine TD.storeB (d := ?d27) (T := ?T27) (y := ?y27) (p := ?p27) (b := ?b27) (v := ?v27) (by simp only [zK]; rfl) rfl (by rfl) ?hd27 ?hop27 ?hev27 ?hx27 ?hb27 ?htag27 (fun w1 hb1 => ?hy27) ?hn27; (case hd27 => rfl); (case hop27 => rfl); (case hev27 => (simp only [zM]; (try rfl))); (case hx27 => simp only [zM]; try rfl); (case hb27 => first | exact Bx.set_same _ _ _ | (simp only [Bx.set_same]; rfl)); (case hy27 => (go_simp; (try first | with_reducible rfl | (rw [setCell_blk hb1]; rfl)))); try simp only [zL])
   refine TD.nil (fun w3 hr => ?_)
   replace kl := hr.mod.at kl (fun h => h)
   replace kp1 := hr.mod.at kp1 (fun h => h)
   have kp4 := hr.box p4 _ (by first | exact Bx.set_same _ _ _ | (simp only [Bx.set_same]; rfl)); dsimp only [Value.cells] at kp4; obtain ⟨gp4, kp4⟩ := kp4
   have HM3 := Lib.hid (HM.out.then0 hr.mod)
   clear hr
   go_wp2_with fail
   go_at_call 69
   refine (few_c x _ (HX.out.mod0 HM3.out)).mono ?_
   rintro e w4 ⟨rfl, m4⟩
   rw [HB.out]
   have HM4 := Lib.hid (HM3.out.trans m4)
   replace kl := m4.at0 kl
   replace kp1 := m4.at0 kp1
   replace kp4 := m4.at0 kp4
   clear m4
   cases b with
   | false =>
    have HE := Lib.hid (chk_d HI.out HB.out)
    go_wp2_with fail
    go_ret
    exact ⟨by rw [HE.out]; rfl, HM4.out⟩
   | true =>
    have HI2 := Lib.hid (rP_step HI.out HB.out)
    go_wp2_with fail
    go_roundw
    case rel => exact ⟨4, by omega, by go_num, HI2, HM4, kl, kp1⟩
    case measure => simp [intOf]
  ·
   obtain ⟨b, hb⟩ : ∃ b, pointedP (txP x) = b := ⟨_, rfl⟩
   have HB := Lib.hid hb
   clear hb
   go_upto_region 3 with fail
   have Lkl := lt_size kl
   have Lkp1 := lt_size kp1
   refine wp_pass0 (C := fun _ _ _ => False) (κ := fun i => [0, 1, 3, 4].getD i 0) [0, 1, 2, 3] (by kernel_rfl) (by kernel_rfl) (fun _ _ d _ _ h => by cases d <;> first | exact h | exact absurd h (hP _ _ _)) ?_
   (refine TD.val0 (v := ?_) (by simp only [zK]; rfl) rfl (by rfl) (fun w1 => ?_) ?_; rotate_left; (next => go_simp; try with_reducible rfl); try simp only [zL])
   (refine TD.load (v := ?_) (p := ?_) (Mod.refl _ _) (by simp only [zK]; rfl) rfl (by rfl) rfl ?_ (fun wq hSq => ?_) ?_; rotate_left 2; (next => simp only [zM]; try rfl); (next => have klq := hSq.at kl (fun h => h); have kp1q := hSq.at kp1 (fun h => h); go_simp; try with_reducible rfl); try simp only [zL])
   (refine TD.allocB (by simp only [zK]; rfl) rfl (by rfl) rfl rfl alRule (fun p4 hp4 => ?n30); try simp only [zL])
   (refine TD.storeB (d := ?d31) (T := ?T31) (y := ?y31) (p := ?p31) (b := ?b31) (v := ?v31) (by simp only [zK]; rfl) rfl (by rfl) ?hd31 ?hop31 ?hev31 ?hx31 ?hb31 ?htag31 (fun w1 hb1 => ?hy31) ?hn31; (case hd31 => rfl); (case hop31 => rfl); (case hev31 => (simp only [zM]; (try rfl))); (case hx31 => simp only [zM]; try rfl); (case hb31 => first | exact Bx.set_same _ _ _ | (simp only [Bx.set_same]; rfl)); (case hy31 => (go_simp; (try first | with_reducible rfl | (rw [setCell_blk hb1]; rfl)))); try simp only [zL])
   refine TD.nil (fun w3 hr => ?_)
   replace kl := hr.mod.at kl (fun h => h)
   replace kp1 := hr.mod.at kp1 (fun h => h)
   have kp4 := hr.box p4 _ (by first | exact Bx.set_same _ _ _ | (simp only [Bx.set_same]; rfl)); dsimp only [Value.cells] at kp4; obtain ⟨gp4, kp4⟩ := kp4
   have HM3 := Lib.hid (HM.out.then0 hr.mod)
   clear hr
   go_wp2_with fail
   go_at_call 70
   refine (pointed_c x _ (HX.out.mod0 HM3.out)).mono ?_
   rintro e w4 ⟨rfl, m4⟩
   rw [HB.out]
   have HM4 := Lib.hid (HM3.out.trans m4)
   replace kl := m4.at0 kl
   replace kp1 := m4.at0 kp1
   replace kp4 := m4.at0 kp4
   clear m4
   cases b with
   | false =>
    have HE := Lib.hid (chk_e HI.out HB.out)
    go_wp2_with fail
    go_ret
    exact ⟨by rw [HE.out]; rfl, HM4.out⟩
   | true =>
    have HI2 := Lib.hid (rP_step HI.out HB.out)
    go_wp2_with fail
    go_roundw
    case rel => exact ⟨5, by omega, by go_num, HI2, HM4, kl, kp1⟩
    case measure => simp [intOf]
  ·
   obtain ⟨b, hb⟩ : ∃ b, onceP (txP x) = b := ⟨_, rfl⟩
   have HB := Lib.hid hb
   clear hb
   go_upto_region 3 with fail
   have Lkl := lt_size kl
   have Lkp1 := lt_size kp1
   refine wp_pass0 (C := fun _ _ _ => False) (κ := fun i => [0, 1, 3, 4].getD i 0) [0, 1, 2, 3] (by kernel_rfl) (by kernel_rfl) (fun _ _ d _ _ h => by cases d <;> first | exact h | exact absurd h (hP _ _ _)) ?_
   (refine TD.val0 (v := ?_) (by simp only [zK]; rfl) rfl (by rfl) (fun w1 => ?_) ?_; rotate_left; (next => go_simp; try with_reducible rfl); try simp only [zL])
   (refine TD.load (v := ?_) (p := ?_) (Mod.refl _ _) (by simp only [zK]; rfl) rfl (by rfl) rfl ?_ (fun wq hSq => ?_) ?_; rotate_left 2; (next => simp only [zM]; try rfl); (next => have klq := hSq.at kl (fun h => h); have kp1q := hSq.at kp1 (fun h => h); go_simp; try with_reducible rfl); try simp only [zL])
   (refine TD.allocB (by simp only [zK]; rfl) rfl (by rfl) rfl rfl alRule (fun p4 hp4 => ?n34); try simp only [zL])
   (refine TD.storeB (d := ?d35) (T := ?T35) (y := ?y35) (p := ?p35) (b := ?b35) (v := ?v35) (by simp only [zK]; rfl) rfl (by rfl) ?hd35 ?hop35 ?hev35 ?hx35 ?hb35 ?htag35 (fun w1 hb1 => ?hy35) ?hn35; (case hd35 => rfl); (case hop35 => rfl); (case hev35 => (simp only [zM]; (try rfl))); (case hx35 => simp only [zM]; try rfl); (case hb35 => first | exact Bx.set_same _ _ _ | (simp only [Bx.set_same]; rfl)); (case hy35 => (go_simp; (try first | with_reducible rfl | (rw [setCell_blk hb1]; rfl)))); try simp only [zL])
   refine TD.nil (fun w3 hr => ?_)
   replace kl := hr.mod.at kl (fun h => h)
   replace kp1 := hr.mod.at kp1 (fun h => h)
   have kp4 := hr.box p4 _ (by first | exact Bx.set_same _ _ _ | (simp only [Bx.set_same]; rfl)); dsimp only [Value.cells] at kp4; obtain ⟨gp4, kp4⟩ := kp4
   have HM3 := Lib.hid (HM.out.then0 hr.mod)
   clear hr
   go_wp2_with fail
   go_at_call 71
   refine (once_c x _ (HX.out.mod0 HM3.out)).mono ?_
   rintro e w4 ⟨rfl, m4⟩
   rw [HB.out]
   have HM4 := Lib.hid (HM3.out.trans m4)
   replace kl := m4.at0 kl
   replace kp1 := m4.at0 kp1
   replace kp4 := m4.at0 kp4
   clear m4
   cases b with
   | false =>
    have HE := Lib.hid (chk_f HI.out HB.out)
    go_wp2_with fail
    go_ret
    exact ⟨by rw [HE.out]; rfl, HM4.out⟩
   | true =>
    have HI2 := Lib.hid (rP_step HI.out HB.out)
    go_wp2_with fail
    go_roundw
    case rel => exact ⟨6, by omega, by go_num, HI2, HM4, kl, kp1⟩
    case measure => simp [intOf]
  ·have HE := Lib.hid (chk_all HI.out)
   go_wp2_with fail
   go_ret
   exact ⟨by rw [HE.out]; rfl, HM.out⟩
end Go.Proofs.YtiaehkkkcaeaiaaGreatDoor
namespace Go.Proofs.YtiaehkkkcaeaiaaGreatDoor
open Go.RowKit
open Go.ChangeMaps (setBlock)
attribute [local go_sem ↓] wlKey ldKey stKey ldSg stSg wlTc ldTc stTc eqKey1
attribute [local go_sem] cell_blk frozen_blk kc_ext one_int one_bool one_ptr one_slice one_map kc_one kc_one0 kc_size zKey_size sgc_size sgc_ext sgc_one0 sgc_one' txr_size txr_all txr_one txr_one' txr0 txr38 txr39 txr0' txr38' txr39' zTx_size Value.cells
attribute [local go_sem] txr2 txr5 txr2' txr5' txr_hd zTc_size zTc_ext zTc_all zTc_all0
theorem results_ct {P : Program} {fn : Func} {t1 t2 : Tmp} {T1 : TypeId} {tmps : Array Value} {p1 : Addr} {v1 : Value} {w : World} (h : fn.results = #[.cell t1 T1, .tmp t2])
  (h1 : tmps.getD t1 undef = .pointer (some p1)) (k1 : (Instr.loadAt T1 (.pointer (some p1))).run P w = .ok v1 w) : (results fn tmps).run P w = .ok (.tuple #[v1, tmps.getD t2 undef]) w := by
 have l1 : (loadVar T1 p1).run P w = .ok v1 w := by simpa [Instr.loadAt, Instr.sureAddr] using k1
 unfold results
 rw [h]
 have hmap : ∀ {α β : Type} (f : α → β) (x : Sem α) (w : World), (f <$> x).run P w = (x.run P w).andThen fun a w => .ok (f a) w := fun f x w => by
  show (x >>= fun a => pure (f a)).run P w = _
  rw [Sem.run_bind]
  rfl
 simp only [List.mapM_toArray, List.mapM_cons, List.mapM_nil, h1, asAddr, Sem.run_bind, hmap, Sem.run_pure, Result.andThen_ok, l1]
 rfl
theorem wP_ne (l : List UInt8) (n : Nat) (h : wholeP l = .error n) : n ≠ 0 := by
 unfold wholeP at h
 split at h
 ·cases h; decide
 ·split at h
  ·rename_i e he
   cases h
   intro e0
   subst e0
   exact NE.tx l he
  ·split at h
   ·cases h; decide
   ·cases h
def WhoP (w : World) (l : List UInt8) (e : Ending) (w' : World) : Prop := Mod (fun _ => False) w w' ∧ match wholeP l with
 | .ok x => ∃ r, e = .returned (.tuple #[.agg (txr r), i64n 0]) ∧ TxO w.heap.size w' r ∧ txP r = x ∧ TxB x
 | .error n => e = .returned (.tuple #[.agg zTc, i64n n])
set_option maxRecDepth 20000 in
set_option maxHeartbeats 3200000 in
theorem whole_c {a : Option Addr} {l : List UInt8} {c : Nat} (w : World) (hl : SlAt uc 1 w a l) (hc : l.length ≤ c) (hn : a = none → c = 0) (hln : l.length ≤ 900000) (hin : ∀ x, a = some x → x.block < w.heap.size) :
  Calls Tryz.prog 54 #[.slice a l.length c] w (WhoP w l) := by
 have HG := Lib.hid (fun w1 (m : Mod (fun _ => False) w w1) => pget_c (c := c) w1 (hl.mod0 m) hc hn hln (by intro x h; exact Nat.lt_of_lt_of_le (hin x h) m.size))
 have hG := HG.out
 obtain ⟨ll, hll⟩ : ∃ ll, l.length = ll := ⟨_, rfl⟩
 rw [hll] at hG
 have HG2 := Lib.hid hG
 have HL := Lib.hid hll
 rw [hll]
 have hbt := bTx0
 have ha1 := alTx
 clear hl hc hn hln hin hG HG hll
 go_enter Tryz.func54, Tryz.ntmps54
 go_upto_region 0 with fail
 refine wp_pass0 (C := fun _ _ _ => False) (κ := fun i => [3, 0].getD i 0) [0, 1] (by kernel_rfl) (by kernel_rfl) (fun _ _ d _ _ h => by cases d <;> first | exact h | exact absurd h (hP _ _ _)) ?_
 (refine TD.allocB (by simp only [zK]; rfl) rfl (by rfl) rfl rfl alTc (fun p2 hp2 => ?n1); try simp only [zL])
 (refine TD.val0 (v := ?_) (by simp only [zK]; rfl) rfl (by rfl) (fun w1 => ?_) ?_; rotate_left; (next => go_simp; try with_reducible rfl); try simp only [zL])
 refine TD.nil (fun w1 hr => ?_)
 have kp2 := hr.box p2 _ (by first | exact Bx.set_same _ _ _ | (simp only [Bx.set_same]; rfl)); dsimp only [Value.cells] at kp2; obtain ⟨gp2, kp2⟩ := kp2
 have HM1 := Lib.hid hr.mod
 clear hr
 by_cases hbig : 1232 < ll
 ·have HE : Hid (wholeP l = .error 3) := Lib.hid (by unfold wholeP; rw [if_pos (by rw [HL.out]; exact hbig)])
  go_upto_region 2 with fail
  have Lkp2 := lt_size kp2
  refine wp_pass0 (C := fun _ _ _ => False) (κ := fun i => [0, 5, 0].getD i 0) [0, 1, 2] (by kernel_rfl) (by kernel_rfl) (fun _ _ d _ _ h => by cases d <;> first | exact h | exact absurd h (hP _ _ _)) ?_
  (refine TD.build (v := ?v3) (ps := ?p3) (by simp only [zK]; rfl) rfl (by rfl) rfl ?hx3 (fun w1 => ?y3) ?n3; (case hx3 => (simp only [List.map_toArray, List.map_cons, List.map_nil, zM]; (try rfl))); (case y3 => (rw [hbt]; (try with_reducible rfl))); try simp only [zL])
  refine TD.eff (by simp only [zK]; rfl) rfl (fun w2 hr => ?_)
  replace kp2 := hr.mod.at kp2 (fun h => h)
  have HM8 := Lib.hid (HM1.out.then0 hr.mod)
  clear hr
  (refine eff_store (X := ?X5) (Y := ?Y5) (w' := ?w5) (by simp only [zK]; rfl) (by rfl) rfl ?hx5 ?hz5 ?y5 ?n5; (case hx5 => simp only [zM]; try rfl); (case hz5 => simp only [zM]; try rfl); (case y5 => go_simp; try with_reducible rfl))
  (first | refine TE.mid_set kp2 (fun wn kp2 mS => ?_) | refine TE.mid_setCell kp2 (fun wn kp2 mS => ?_))
  have HM9 := Lib.hid (HM8.out.thenB mS (.inl gp2))
  clear mS
  (refine TE.val0 (v := ?v6) (by simp only [zK]; rfl) (by rfl) (fun w1 => ?y6) ?n6; (case y6 => go_simp; try with_reducible rfl); try simp only [zL])
  refine TE.nil ?_
  go_wp2_with fail
  refine bodyPost_ret (results_ct rfl rfl (ldTcZ kp2)) rfl ?_
  unfold WhoP
  rw [HE.out]
  exact ⟨HM9.out, rfl⟩
 ·have hd1 := decide_eq_false hbig
  have hG := HG2.out w1 HM1.out
  go_upto_region 3 with fail
  refine region_seq 10 rfl ?_
  simp only [List.range, List.range.loop]
  (refine sq_val (v := ?_) (by simp only [zK]; rfl) (by rfl) ?_ ?_; rotate_left; (next => go_simp; try with_reducible rfl); try simp only [zL])
  (refine sq_callT (by simp only [zK]; rfl) (by rfl) ?y8 hG ?hout (fun vn wn hR => ?hret) (fun ch wn hR => ?hpan); (case y8 => (go_simp; (try (first | with_reducible rfl | (constructor <;> with_reducible rfl))))))
  case hout =>
   intro w' h
   unfold PgetP at h
   split at h
   ·obtain ⟨_, _, h, _⟩ := h
    cases h
   ·cases h.2
  case hpan =>
   exfalso
   unfold PgetP at hR
   split at hR
   ·obtain ⟨_, _, h, _⟩ := hR
    cases h
   ·cases hR.2
  case hret =>
  obtain ⟨hm, hr⟩ := hR
  clear hG
  have HM3 := Lib.hid (HM1.out.trans hm)
  have HP2 := Lib.hid (lt_size kp2)
  replace kp2 := hm.at0 kp2
  cases hres : pTx l with
  | error e0 =>
   rw [hres] at hr
   simp only at hr
   cases hr
   have he0 : ((e0 : Int) != 0) = true := by
    have h1 := NE.tx l
    rw [NE, hres] at h1
    simpa using fun e => h1 (by rw [e])
   have HE : Hid (wholeP l = .error e0) := Lib.hid (by unfold wholeP; rw [if_neg (by rw [HL.out]; exact hbig), hres])
   clear hm hres
   (try simp only [zL])
   obtain ⟨w4, rfl⟩ : ∃ w4 : World, w4 = wn := ⟨_, rfl⟩
   iterate 4 (refine sq_val (v := ?_) (by simp only [zK]; rfl) (by rfl) ?_ ?_; rotate_left; (next => go_simp; try with_reducible rfl); try simp only [zL])
   (refine sq_alloc (by simp only [zK]; rfl) (by rfl) rfl alTx (fun p4 wn gp4 kp4 mp4 => ?n13); try simp only [zL])
   (refine sq_store (X := ?X14) (Y := ?Y14) (w' := ?w14) (by simp only [zK]; rfl) (by rfl) rfl rfl ?hx14 ?hz14 ?y14 ?n14; (case hx14 => simp only [zM]; try rfl); (case hz14 => simp only [zM]; try rfl); (case y14 => go_simp; try with_reducible rfl))
   (first | refine sq_set kp4 (fun wn kp4 mS => ?_) | refine sq_setCell kp4 (fun wn kp4 mS => ?_))
   iterate 2 (refine sq_val (v := ?_) (by simp only [zK]; rfl) (by rfl) ?_ ?_; rotate_left; (next => go_simp; try with_reducible rfl); try simp only [zL])
   refine sq_nil ?_
   have HM5 : Hid (Mod (fun _ => False) w wn) := Lib.hid ((HM3.out.trans mp4).then mS (fun i hi e => by have := HM3.out.size; omega))
   have hp24 : p2 < w4.heap.size := lt_size kp2
   have kp2' : wn.heap[p2]? = some (.cells zTc 35 (0, 0)) := mS.at (mp4.at0 kp2) (fun e => by omega)
   have kp2 := kp2'
   clear mS mp4 kp4 kp2' hp24 gp4
   obtain ⟨w5, rfl⟩ : ∃ w5 : World, w5 = wn := ⟨_, rfl⟩
   go_upto_region 5 with fail
   have Lkp2 := lt_size kp2
   refine wp_pass0 (C := fun _ _ _ => False) (κ := fun i => [0, 0, 5, 0].getD i 0) [0, 1, 2, 3] (by kernel_rfl) (by kernel_rfl) (fun _ _ d _ _ h => by cases d <;> first | exact h | exact absurd h (hP _ _ _)) ?_
   (refine TD.build (v := ?v17) (ps := ?p17) (by simp only [zK]; rfl) rfl (by rfl) rfl ?hx17 (fun w1 => ?y17) ?n17; (case hx17 => (simp only [List.map_toArray, List.map_cons, List.map_nil, zM]; (try rfl))); (case y17 => (rw [hbt]; (try with_reducible rfl))); try simp only [zL])
   (refine TD.val0 (v := ?_) (by simp only [zK]; rfl) rfl (by rfl) (fun w1 => ?_) ?_; rotate_left; (next => go_simp; try with_reducible rfl); try simp only [zL])
   refine TD.eff (by simp only [zK]; rfl) rfl (fun w6 hr => ?_)
   replace kp2 := hr.mod.at kp2 (fun h => h)
   have HM8 := Lib.hid (HM5.out.then0 hr.mod)
   clear hr
   (refine eff_store (X := ?X20) (Y := ?Y20) (w' := ?w20) (by simp only [zK]; rfl) (by rfl) rfl ?hx20 ?hz20 ?y20 ?n20; (case hx20 => simp only [zM]; try rfl); (case hz20 => simp only [zM]; try rfl); (case y20 => go_simp; try with_reducible rfl))
   (first | refine TE.mid_set kp2 (fun wn kp2 mS => ?_) | refine TE.mid_setCell kp2 (fun wn kp2 mS => ?_))
   have HM9 := Lib.hid (HM8.out.thenB mS (.inl gp2))
   clear mS
   (refine TE.val0 (v := ?v21) (by simp only [zK]; rfl) (by rfl) (fun w1 => ?y21) ?n21; (case y21 => go_simp; try with_reducible rfl); try simp only [zL])
   refine TE.nil ?_
   go_wp2_with fail
   refine bodyPost_ret (results_ct rfl rfl (ldTcZ kp2)) rfl ?_
   unfold WhoP
   rw [HE.out]
   exact ⟨HM9.out, rfl⟩
  | ok y =>
   obtain ⟨x, k⟩ := y
   rw [hres] at hr
   obtain ⟨v, hv0, hv, hk1⟩ := hr
   cases hv0
   obtain ⟨r, rfl, hrx, hO⟩ := hv.toO
   have HB := Lib.hid (PO.tx x k hres).2
   have HO := Lib.hid hO
   have HRX := Lib.hid hrx
   have HK : Hid (k ≤ ll) := Lib.hid (by rw [← HL.out]; exact hk1)
   clear hm hO hrx hv hk1
   (try simp only [zL])
   obtain ⟨w4, rfl⟩ : ∃ w4 : World, w4 = wn := ⟨_, rfl⟩
   iterate 4 (refine sq_val (v := ?_) (by simp only [zK]; rfl) (by rfl) ?_ ?_; rotate_left; (next => go_simp; try with_reducible rfl); try simp only [zL])
   (refine sq_alloc (by simp only [zK]; rfl) (by rfl) rfl alTx (fun p4 wn gp4 kp4 mp4 => ?n26); try simp only [zL])
   (refine sq_store (X := ?X27) (Y := ?Y27) (w' := ?w27) (by simp only [zK]; rfl) (by rfl) rfl rfl ?hx27 ?hz27 ?y27 ?n27; (case hx27 => simp only [zM]; try rfl); (case hz27 => simp only [zM]; try rfl); (case y27 => go_simp; try with_reducible rfl))
   (first | refine sq_set kp4 (fun wn kp4 mS => ?_) | refine sq_setCell kp4 (fun wn kp4 mS => ?_))
   iterate 2 (refine sq_val (v := ?_) (by simp only [zK]; rfl) (by rfl) ?_ ?_; rotate_left; (next => go_simp; try with_reducible rfl); try simp only [zL])
   refine sq_nil ?_
   replace kp4 : wn.heap[p4]? = some (.cells (txr r) 35 (0, 0)) := kp4
   have m4 : Mod (fun _ => False) w4 wn := mp4.then mS (fun i hi e => by omega)
   have HM5 := Lib.hid (HM3.out.trans m4)
   have HO5 := Lib.hid (HO.out.mod0 m4)
   have kp2' := m4.at0 kp2
   clear kp2
   have kp2 := kp2'
   clear mS mp4 kp2' gp4 m4
   obtain ⟨w5, rfl⟩ : ∃ w5 : World, w5 = wn := ⟨_, rfl⟩
   by_cases hk : k < ll
   ·have HE : Hid (wholeP l = .error 4) := Lib.hid (by unfold wholeP; rw [if_neg (by rw [HL.out]; exact hbig), hres]; simp only; rw [if_pos (by rw [HL.out]; exact hk)])
    clear hres
    go_upto_region 7 with fail
    have Lkp2 := lt_size kp2
    refine wp_pass0 (C := fun _ _ _ => False) (κ := fun i => [0, 5, 0].getD i 0) [0, 1, 2] (by kernel_rfl) (by kernel_rfl) (fun _ _ d _ _ h => by cases d <;> first | exact h | exact absurd h (hP _ _ _)) ?_
    (refine TD.build (v := ?v30) (ps := ?p30) (by simp only [zK]; rfl) rfl (by rfl) rfl ?hx30 (fun w1 => ?y30) ?n30; (case hx30 => (simp only [List.map_toArray, List.map_cons, List.map_nil, zM]; (try rfl))); (case y30 => (rw [hbt]; (try with_reducible rfl))); try simp only [zL])
    refine TD.eff (by simp only [zK]; rfl) rfl (fun w6 hr => ?_)
    replace kp2 := hr.mod.at kp2 (fun h => h)
    have HM8 := Lib.hid (HM5.out.then0 hr.mod)
    clear hr
    (refine eff_store (X := ?X32) (Y := ?Y32) (w' := ?w32) (by simp only [zK]; rfl) (by rfl) rfl ?hx32 ?hz32 ?y32 ?n32; (case hx32 => simp only [zM]; try rfl); (case hz32 => simp only [zM]; try rfl); (case y32 => go_simp; try with_reducible rfl))
    (first | refine TE.mid_set kp2 (fun wn kp2 mS => ?_) | refine TE.mid_setCell kp2 (fun wn kp2 mS => ?_))
    have HM9 := Lib.hid (HM8.out.thenB mS (.inl gp2))
    clear mS
    (refine TE.val0 (v := ?v33) (by simp only [zK]; rfl) (by rfl) (fun w1 => ?y33) ?n33; (case y33 => go_simp; try with_reducible rfl); try simp only [zL])
    refine TE.nil ?_
    go_wp2_with fail
    refine bodyPost_ret (results_ct rfl rfl (ldTcZ kp2)) rfl ?_
    unfold WhoP
    rw [HE.out]
    exact ⟨HM9.out, rfl⟩
   ·have HE : Hid (wholeP l = .ok x) := Lib.hid (by unfold wholeP; rw [if_neg (by rw [HL.out]; exact hbig), hres]; simp only; rw [if_neg (by rw [HL.out]; exact hk)])
    have hd5 := decide_eq_false hk
    clear hres
    go_upto_region 8 with fail
    have Lkp2 := lt_size kp2
    have Lkp4 := lt_size kp4
    refine wp_pass0 (C := fun _ _ _ => False) (κ := fun i => [1, 5, 0].getD i 0) [0, 1, 2] (by kernel_rfl) (by kernel_rfl) (fun _ _ d _ _ h => by cases d <;> first | exact h | exact absurd h (hP _ _ _)) ?_
    (refine TD.load (v := ?_) (p := ?_) (Mod.refl _ _) (by simp only [zK]; rfl) rfl (by rfl) rfl ?_ (fun wq hSq => ?_) ?_; rotate_left 2; (next => simp only [zM]; try rfl); (next => have kp2q := hSq.at kp2 (fun h => h); have kp4q := hSq.at kp4 (fun h => h); go_simp; try with_reducible rfl); try simp only [zL])
    refine TD.eff (by simp only [zK]; rfl) rfl (fun w6 hr => ?_)
    replace kp2 := hr.mod.at kp2 (fun h => h)
    replace kp4 := hr.mod.at kp4 (fun h => h)
    have HM8 := Lib.hid (HM5.out.then0 hr.mod)
    have HO6 := Lib.hid (HO5.out.mod0 hr.mod)
    clear hr
    (refine eff_store (X := ?X36) (Y := ?Y36) (w' := ?w36) (by simp only [zK]; rfl) (by rfl) rfl ?hx36 ?hz36 ?y36 ?n36; (case hx36 => simp only [zM]; try rfl); (case hz36 => simp only [zM]; try rfl); (case y36 => go_simp; try with_reducible rfl))
    (first | refine TE.mid_set kp2 (fun wn kp2 mS => ?_) | refine TE.mid_setCell kp2 (fun wn kp2 mS => ?_))
    have HM9 := Lib.hid (HM8.out.thenB mS (.inl gp2))
    have HO9 := Lib.hid ((HO6.out.mod mS (Apt.below (fun i e => by have e' : i = p2 := e; have := HP2.out; omega))).base HM1.out.size)
    clear mS
    (refine TE.val0 (v := ?v37) (by simp only [zK]; rfl) (by rfl) (fun w1 => ?y37) ?n37; (case y37 => go_simp; try with_reducible rfl); try simp only [zL])
    refine TE.nil ?_
    go_wp2_with fail
    refine bodyPost_ret (results_ct rfl rfl (ldTxr kp2)) rfl ?_
    unfold WhoP
    rw [HE.out]
    exact ⟨HM9.out, r, rfl, HO9.out, HRX.out, HB.out⟩
end Go.Proofs.YtiaehkkkcaeaiaaGreatDoor
namespace Go.Proofs.YtiaehkkkcaeaiaaGreatDoor
open Go.RowKit
open Go.ChangeMaps (setBlock)
attribute [local go_sem] cell_blk frozen_blk one_int one_bool one_ptr one_slice one_map Value.cells
attribute [local go_sem ↓] wlKey ldKey stKey
attribute [local go_sem] kc_ext kc_one kc_one0 kc_size zKey_size one_slice
theorem wr_get (vs : List Value) (cs : Array Value) (o : Nat) (h : o + vs.length ≤ cs.size) (t : Nat) : (wr cs o vs)[t]? = if o ≤ t ∧ t < o + vs.length then vs[t - o]? else cs[t]? := by
 rw [← Array.getElem?_toList, wr_list vs cs o h]
 have hl : cs.toList.length = cs.size := Array.length_toList
 by_cases h1 : t < o
 ·rw [if_neg (by omega), List.append_assoc, List.getElem?_append_left (by rw [List.length_take]; omega), List.getElem?_take, if_pos h1, Array.getElem?_toList]
 ·by_cases h2 : t < o + vs.length
  ·rw [if_pos ⟨by omega, h2⟩, List.append_assoc, List.getElem?_append_right (by rw [List.length_take]; omega), List.length_take, Nat.min_eq_left (by omega), List.getElem?_append_left (by omega)]
  ·rw [if_neg (by omega), List.getElem?_append_right (by rw [List.length_append, List.length_take]; omega), List.length_append, List.length_take, Nat.min_eq_left (by omega), List.getElem?_drop, Array.getElem?_toList]
   congr 1
   omega
theorem row_set {α : Type} {f : α → Array Value} {n o i : Nat} {C : Array Value} {l : List α} (hs : ∀ x, (f x).size = n) (hrow : ∀ j y, l[j]? = some y → C.extract (o + j * n) (o + j * n + n) = f y ∧ o + j * n + n ≤ C.size) (hi : i < l.length) (x : α) :
  ∀ j y, (l.set i x)[j]? = some y → (wr C (o + i * n) (f x).toList).extract (o + j * n) (o + j * n + n) = f y ∧ o + j * n + n ≤ (wr C (o + i * n) (f x).toList).size := by
 intro j y hy
 have hfl : (f x).toList.length = n := by rw [Array.length_toList, hs]
 have hii := (hrow i _ (List.getElem?_eq_getElem hi)).2
 rw [wr_size]
 have hget := fun t => wr_get (f x).toList C (o + i * n) (by rw [hfl]; exact hii) t
 rw [hfl] at hget
 by_cases hj : j = i
 ·subst hj
  rw [List.getElem?_set_self hi] at hy
  cases hy
  refine ⟨?_, hii⟩
  apply Array.ext_getElem?
  intro t
  rw [Array.getElem?_extract, wr_size]
  by_cases ht : t < n
  ·rw [if_pos (by omega), hget, if_pos (by omega), Nat.add_sub_cancel_left, Array.getElem?_toList]
  ·rw [if_neg (by omega), Array.getElem?_eq_none (by rw [hs]; omega)]
 ·rw [List.getElem?_set_ne (fun e => hj e.symm)] at hy
  obtain ⟨h1, h2⟩ := hrow j y hy
  refine ⟨?_, h2⟩
  rw [← h1]
  apply Array.ext_getElem?
  intro t
  rw [Array.getElem?_extract, Array.getElem?_extract, wr_size]
  by_cases ht : t < n
  ·rw [if_pos (by omega), if_pos (by omega), hget, if_neg]
   intro hh
   rcases Nat.lt_or_ge j i with h | h
   ·have : (j + 1) * n ≤ i * n := Nat.mul_le_mul_right _ h
    rw [Nat.add_mul, Nat.one_mul] at this
    omega
   ·have : (i + 1) * n ≤ j * n := Nat.mul_le_mul_right _ (by omega)
    rw [Nat.add_mul, Nat.one_mul] at this
    omega
  ·rw [if_neg (by omega), if_neg (by omega)]
def WAtG {α : Type} (f : α → Array Value) (n : Nat) (w : World) (a : Option Addr) (l : List α) : Prop := l = [] ∨ ∃ b o C U, a = some ⟨b, o, none⟩ ∧ w.heap[b]? = some (.cells C U (0, 0)) ∧ ∀ j y, l[j]? = some y → C.extract (o + j * n) (o + j * n + n) = f y ∧ o + j * n + n ≤ C.size
section
variable {α : Type} {f : α → Array Value} {n : Nat}
theorem WAtG.sl {w : World} {a : Option Addr} {l : List α} (h : WAtG f n w a l) : SlAt f n w a l := by
 rcases h with h | ⟨b, o, C, U, h1, h2, h3⟩
 ·exact .inl h
 ·exact .inr ⟨b, o, C, _, _, h1, h2, h3⟩
theorem WAtG.of {E : TypeId} {b : Nat} {w : World} {a : Option Addr} {m c : Nat} {l : List α} (h : NewS f n E b w (.slice a m c) l) : WAtG f n w a l := by
 rcases h with ⟨_, h⟩ | ⟨g, cur, h1, _, h2, h3⟩
 ·exact .inl h
 ·injection h1 with h1 _ _
  exact .inr ⟨g, 0, cur, E, h1, h2, fun j y hy => by simpa using h3 j y hy⟩
end
inductive Pg
 | y (a : Option Addr) (n : Nat) (h f : UInt8)
 | k (a : Option Addr) (n : Nat) (h f : Key)
 | s (a : Option Addr) (n : Nat) (h f : Sg)
def Pg.a : Pg → Option Addr
 | .y a _ _ _ => a
 | .k a _ _ _ => a
 | .s a _ _ _ => a
def Pg.n : Pg → Nat
 | .y _ n _ _ => n
 | .k _ n _ _ => n
 | .s _ n _ _ => n
end Go.Proofs.YtiaehkkkcaeaiaaGreatDoor
namespace Go.Proofs.YtiaehkkkcaeaiaaGreatDoor
open Go.RowKit
open Go.ChangeMaps (setBlock)
attribute [local go_sem] cell_blk frozen_blk one_int one_bool one_ptr one_slice one_map Value.cells
abbrev Pl := Nat × Option Addr × Nat
def FmL (a : Option Addr) (n : Nat) : Prop := (a = none ∧ n = 0) ∨ ∃ g, a = some ⟨g, 0, none⟩
section
variable {α : Type} {f : α → Array Value} {n B : Nat} {P : Program} {T E : TypeId}
theorem NewS.fm {b m c : Nat} {w : World} {a : Option Addr} {l : List α} (h : NewS f n E b w (.slice a m c) l) : FmL a l.length := by
 rcases h with ⟨h1, h2⟩ | ⟨g, cur, h1, _⟩
 ·injection h1 with h1 _ _
  subst h1
  subst h2
  exact .inl ⟨rfl, rfl⟩
 ·injection h1 with h1 _ _
  exact .inr ⟨g, h1⟩
end
def WrL (w : World) (p : Pl) : Prop := FmL p.2.1 p.2.2 ∧ (p.1 = 0 → ∃ l, l.length = p.2.2 ∧ WAtG uc 1 w p.2.1 l) ∧ (p.1 = 1 → ∃ l, l.length = p.2.2 ∧ WAtG kc 32 w p.2.1 l) ∧ (p.1 = 2 → ∃ l, l.length = p.2.2 ∧ WAtG sgc 64 w p.2.1 l)
theorem All2.left {α β : Type} {R : α → β → Prop} {l : List α} {m : List β} (h : All2 R l m) : ∀ x ∈ l, ∃ y ∈ m, R x y := by
 induction h with
 | nil => exact fun x h => by cases h
 | @cons a b l m hx _ ih =>
  intro x hx'
  rcases List.mem_cons.1 hx' with rfl | hx'
  ·exact ⟨b, List.mem_cons_self, hx⟩
  ·obtain ⟨y, h1, h2⟩ := ih x hx'
   exact ⟨y, List.mem_cons_of_mem _ h1, h2⟩
theorem WrL.y {b c m : Nat} {w : World} {a : Option Addr} {l : List UInt8} (h : NewS uc 1 5 b w (.slice a m c) l) : WrL w (0, a, l.length) := ⟨h.fm, fun _ => ⟨l, rfl, WAtG.of h⟩, fun e => (by cases e), fun e => (by cases e)⟩
theorem WrL.k {b c m : Nat} {w : World} {a : Option Addr} {l : List Key} (h : NewS kc 32 82 b w (.slice a m c) l) : WrL w (1, a, l.length) := ⟨h.fm, fun e => (by cases e), fun _ => ⟨l, rfl, WAtG.of h⟩, fun e => (by cases e)⟩
theorem WrL.s {b c m : Nat} {w : World} {a : Option Addr} {l : List Sg} (h : NewS sgc 64 101 b w (.slice a m c) l) : WrL w (2, a, l.length) := ⟨h.fm, fun e => (by cases e), fun e => (by cases e), fun _ => ⟨l, rfl, WAtG.of h⟩⟩
end Go.Proofs.YtiaehkkkcaeaiaaGreatDoor
namespace Go.Proofs.YtiaehkkkcaeaiaaGreatDoor
open Go.RowKit
open Go.ChangeMaps (setBlock)
attribute [local go_sem] cell_blk frozen_blk one_int one_bool one_ptr one_slice one_map Value.cells
theorem ns_rd {α : Type} {f : α → Array Value} {n : Nat} {E : TypeId} {b m c : Nat} {w : World} {a : Option Addr} {l : List α} (h : NewS f n E b w (.slice a m c) l) : SlAt f n w a l := (WAtG.of h).sl
theorem TxO.rd {b : Nat} {w : World} {x : RdR} (h : TxO b w x) (hB : TxB (txP x)) : TxRd w x := by
 obtain ⟨h1, h2, h3, h4, h5, h6, h7⟩ := h
 obtain ⟨b1, b2, ⟨b3, b4⟩, b5, b6⟩ := hB
 simp only [txP, msgP, List.length_map] at b1 b2 b3 b4 b5 b6
 refine ⟨⟨ns_rd h1, by omega⟩, ⟨ns_rd h2, by omega⟩, ⟨ns_rd h3, by omega, fun i hi => ?_⟩, ns_rd h5, by omega, fun i hi => ?_⟩
 ·obtain ⟨y, hy, _, e2, e3, e4, e5⟩ := h4.1.left i hi
  have hb := b4 y hy
  rw [← e2] at e4
  rw [← e3] at e5
  exact ⟨⟨ns_rd e4, by rw [e2]; exact Nat.le_trans hb.1 (by decide)⟩, ⟨ns_rd e5, by rw [e3]; exact Nat.le_trans hb.2 (by decide)⟩⟩
 ·obtain ⟨y, hy, _, e2, e3, e4, e5⟩ := h6.1.left i hi
  have hb := b6 y hy
  rw [← e2] at e4
  rw [← e3] at e5
  exact ⟨⟨ns_rd e4, by rw [e2]; exact Nat.le_trans hb.1 (by decide)⟩, ⟨ns_rd e5, by rw [e3]; exact Nat.le_trans hb.2 (by decide)⟩⟩
end Go.Proofs.YtiaehkkkcaeaiaaGreatDoor
namespace Go.Proofs.YtiaehkkkcaeaiaaGreatDoor
open Go.RowKit
open Go.ChangeMaps (setBlock)
attribute [local go_sem ↓] wlKey ldKey stKey ldSg stSg wlTc ldTc stTc eqKey1
attribute [local go_sem] cell_blk frozen_blk kc_ext one_int one_bool one_ptr one_slice one_map kc_one kc_one0 kc_size zKey_size sgc_size sgc_ext sgc_one0 sgc_one' txr_size txr_all txr_one txr_one' txr0 txr38 txr39 txr0' txr38' txr39' zTx_size Value.cells
attribute [local go_sem] txr2 txr5 txr2' txr5' txr_hd zTc_size zTc_ext zTc_all zTc_all0
theorem chk_ne {l : List UInt8} {n : Nat} (h : wireP l = .error n) : n ≠ 0 := by
 unfold wireP at h
 split at h
 ·rename_i e he
  cases h
  exact wP_ne l n he
 ·split at h
  ·cases h
  ·cases h
   assumption
def WirP (w : World) (l : List UInt8) (e : Ending) (w' : World) : Prop := Mod (fun _ => False) w w' ∧ match wireP l with
 | .ok x => ∃ r, e = .returned (.tuple #[.agg (txr r), i64n 0]) ∧ TxO w.heap.size w' r ∧ txP r = x ∧ TxB x
 | .error n => e = .returned (.tuple #[.agg zTc, i64n n])
def G2 (p2 p3 : Nat) (X : Array Value) (E : Int) : Land := fun T w => (T p2 ∧ w.heap[p2]? = some (.cells X 35 (0, 0))) ∧ (T p3 ∧ w.heap[p3]? = some (.cells #[.int .i64 E] 42 (0, 0)))
theorem ldX {w : World} {p : Nat} {X : Array Value} (hX : X.size = 40) (h : w.heap[p]? = some (.cells X 35 (0, 0))) : (Instr.loadAt 35 (pV p)).run Tryz.prog w = .ok (.agg X) w := by
 rw [ldTc, h]
 have : X.extract 0 40 = X := by rw [← hX]; simp
 simp [hX, this]
set_option maxRecDepth 20000 in
theorem wire1_c {p2 p3 n : Nat} {X : Array Value} {w : World} (h2 : w.heap[p2]? = some (.cells X 35 (0, 0))) (h3 : w.heap[p3]? = some (.cells #[.int .i64 (n : Int)] 42 (0, 0))) (hX : X.size = 40) (h1 : p2 ≠ p3) :
  CallsD Tryz.prog 53 #[pV p3, pV p2] .returning w fun e u' w' => u' = .returning ∧ (e = .returned (.tuple #[]) ∧ w'.heap[p2]? = some (.cells (if n = 0 then X else zTc) 35 (0, 0)) ∧ w'.heap[p3]? = some (.cells #[.int .i64 (n : Int)] 42 (0, 0)) ∧ Mod (fun i => i = p2) w w') := by
 have hbt := bTx0
 by_cases hn : n = 0
 ·rw [if_pos hn]
  have hd : ((n : Int) != 0) = false := by simp [hn]
  refine callsD_of_wp Tryz.func53 rfl ?_
  simp only [Tryz.ntmps53, List.size_toArray, List.length_cons, List.length_nil, Nat.reduceAdd, Nat.reduceSub, Array.replicate_succ, Array.replicate_zero, List.push_toArray, List.append_toArray, List.nil_append, List.cons_append]
  have HH := Lib.hid h2
  clear hn
  go_wp2_with fail
  exact bodyPost_end (results_none rfl _ _ _) rfl ⟨rfl, HH.out, h3, Mod.refl _ _⟩
 ·rw [if_neg hn]
  have hd : ((n : Int) != 0) = true := by simp [hn]
  refine callsD_of_wp Tryz.func53 rfl ?_
  simp only [Tryz.ntmps53, List.size_toArray, List.length_cons, List.length_nil, Nat.reduceAdd, Nat.reduceSub, Array.replicate_succ, Array.replicate_zero, List.push_toArray, List.append_toArray, List.nil_append, List.cons_append]
  clear hn
  go_upto_region 1 with fail
  have Lh2 := lt_size h2
  have Lh3 := lt_size h3
  refine wp_pass0 (C := fun _ _ _ => False) (κ := fun i => [0, 5].getD i 0) [0, 1] (by kernel_rfl) (by kernel_rfl) (fun _ _ d _ _ h => by cases d <;> first | exact h | exact absurd h (hP _ _ _)) ?_
  (refine TD.build (v := ?v1) (ps := ?p1) (by simp only [zK]; rfl) rfl (by rfl) rfl ?hx1 (fun w1 => ?y1) ?n1; (case hx1 => (simp only [List.map_toArray, List.map_cons, List.map_nil, zM]; (try rfl))); (case y1 => (rw [hbt]; (try with_reducible rfl))); try simp only [zL])
  refine TD.eff (by simp only [zK]; rfl) rfl (fun w2 hr => ?_)
  replace h2 := hr.mod.at h2 (fun h => h)
  replace h3 := hr.mod.at h3 (fun h => h)
  have HM2 := Lib.hid (hr.mod)
  clear hr
  (refine eff_store (X := ?X3) (Y := ?Y3) (w' := ?w3) (by simp only [zK]; rfl) (by rfl) rfl ?hx3 ?hz3 ?y3 ?n3; (case hx3 => simp only [zM]; try rfl); (case hz3 => simp only [zM]; try rfl); (case y3 => go_simp; try with_reducible rfl))
  (first | refine TE.nil_set h2 (fun wn h2 mS => ?_) | refine TE.nil_setCell h2 (fun wn h2 mS => ?_))
  have HF := Lib.hid (And.intro h2 (And.intro (mS.at_ne h3 h1.symm) ((HM2.out.mono (fun _ _ h => h.elim)).trans mS)))
  clear h2 h3 mS
  go_wp2_with fail
  exact bodyPost_end (results_none rfl _ _ _) rfl ⟨rfl, HF.out⟩
theorem two {w w1 : World} {A B : Obj} (h : w1 = (w.alloc A).alloc B) : w1.heap.size = w.heap.size + 2 ∧ w1.heap[w.heap.size]? = some A ∧ w1.heap[w.heap.size + 1]? = some B ∧ Mod (fun _ => False) w w1 := by
 have hz : ∀ (v : World) (o : Obj), (v.alloc o).heap.size = v.heap.size + 1 := fun v o => Array.size_push ..
 have e1 := hz w A
 have e2 := hz (w.alloc A) B
 rw [e1] at e2
 have a1 := heap_alloc_new w A
 have a2 := heap_alloc_new (w.alloc A) B
 rw [e1] at a2
 have m2 := (Mod.refl (fun _ => False) (w.alloc A)).alloc B
 rw [← h] at a2 e2 m2
 exact ⟨e2, m2.at0 a1, a2, ((Mod.refl _ w).alloc _).trans m2⟩
theorem results_cell2 {P : Program} {fn : Func} {t1 t2 : Tmp} {T1 T2 : TypeId} {tmps : Array Value} {p1 p2 : Addr} {v1 v2 : Value} {w : World} (h : fn.results = #[.cell t1 T1, .cell t2 T2])
  (h1 : tmps.getD t1 undef = .pointer (some p1)) (h2 : tmps.getD t2 undef = .pointer (some p2))
  (k1 : (Instr.loadAt T1 (.pointer (some p1))).run P w = .ok v1 w) (k2 : (Instr.loadAt T2 (.pointer (some p2))).run P w = .ok v2 w) : (results fn tmps).run P w = .ok (.tuple #[v1, v2]) w := by
 have l1 : (loadVar T1 p1).run P w = .ok v1 w := by simpa [Instr.loadAt, Instr.sureAddr] using k1
 have l2 : (loadVar T2 p2).run P w = .ok v2 w := by simpa [Instr.loadAt, Instr.sureAddr] using k2
 unfold results
 rw [h]
 have hmap : ∀ {α β : Type} (f : α → β) (x : Sem α) (w : World), (f <$> x).run P w = (x.run P w).andThen fun a w => .ok (f a) w := fun f x w => by
  show (x >>= fun a => pure (f a)).run P w = _
  rw [Sem.run_bind]
  rfl
 simp only [List.mapM_toArray, List.mapM_cons, List.mapM_nil, h1, h2, asAddr, Sem.run_bind, hmap, Sem.run_pure, Result.andThen_ok, l1, l2]
 rfl
section
variable {P : Program} {ops : Array Oper} {Q : Exit → Act → World → Prop} {T0 : Nat → Prop} {w0 : World} {κ : Nat → Nat} {υ : Nat → List Tmp}
theorem TG.storeU {i : Nat} {r : List Nat} {a : Act} {B : Bx} {K : Land} {o : Oper} {T : TypeId} {x y : Operand} {X Y : Value} (K' : Land) (hcl : Good K') (ho : ops[i]? = some o) (hk : κ i = 6) (hw : Region.wanted o (yielded ops a.tmps) = true)
  (hd : o.dst = none) (hop : o.op = .store T x y) (hx : a.eval x = X) (hy : a.eval y = Y)
  (hr : ∀ T' w, Mod T0 w0 w → K T' w → ∃ w', (Instr.storeAt T X Y).run P w = .ok () w' ∧ Mod T' w w' ∧ K' T' w')
  (h : Inh T0 w0 B K' → TG P ops Q T0 w0 κ υ r a B K') : TG P ops Q T0 w0 κ υ (i :: r) a B K := by
 refine TG.eff' (fun _ => K') ho hk hw (fun _ => hcl.cl) (fun T2 w k1 k2 k3 k4 => .inr (.inl ?_)) (fun v hI => by rw [hd]; exact h hI)
 obtain ⟨w', h1, h2, h3⟩ := hr T2 w k3 k1
 refine ⟨w', ?_, h2, hcl.gr _ _ _ (fun _ h => .inl h) h3⟩
 subst hx
 subst hy
 simp [execOp, hop, h1]
end
set_option maxRecDepth 20000 in
set_option maxHeartbeats 6400000 in
theorem wire_c {a : Option Addr} {l : List UInt8} {c : Nat} (w : World) (hl : SlAt uc 1 w a l) (hc : l.length ≤ c) (hn : a = none → c = 0) (hln : l.length ≤ 900000) (hin : ∀ x, a = some x → x.block < w.heap.size) :
  Calls Tryz.prog 15 #[.slice a l.length c] w (WirP w l) := by
 have HG := Lib.hid (fun w1 (m : Mod (fun _ => False) w w1) => whole_c (c := c) w1 (hl.mod0 m) hc hn hln (by intro x h; exact Nat.lt_of_lt_of_le (hin x h) m.size))
 have hG := HG.out
 obtain ⟨ll, hll⟩ : ∃ ll, l.length = ll := ⟨_, rfl⟩
 rw [hll] at hG
 have HG2 := Lib.hid hG
 rw [hll]
 have hmf := hmf
 clear hl hc hn hln hin hG HG hll
 have ha1 := alTc
 have ha2 := alE3
 go_enter_defers Tryz.func15, Tryz.ntmps15
 go_upto_region 2 with fail
 refine (fun w1 hw1 => ?_ : ∀ w1, w1 = _ → Code.wp _ _ _ _ w1) _ rfl
 obtain ⟨hs, kp2, kp3, m1⟩ := two hw1
 replace kp2 : w1.heap[w.heap.size]? = some (.cells zTc 35 (0, 0)) := kp2
 clear hw1 ha1 ha2 hmf
 obtain ⟨ps, hps⟩ : ∃ ps, w.heap.size = ps := ⟨_, rfl⟩
 obtain ⟨p3, hp3⟩ : ∃ p3, ps + 1 = p3 := ⟨_, rfl⟩
 rw [hps] at kp2 kp3 hs ⊢
 rw [hp3] at kp3 ⊢
 have HNE : Hid (ps ≠ p3) := Lib.hid (by omega)
 have HS := Lib.hid (And.intro hps (And.intro hp3 hs))
 have HM1 := Lib.hid m1
 have hG := HG2.out w1 m1
 clear hps hp3 hs m1
 refine region_seq 7 rfl ?_
 simp only [List.range, List.range.loop]
 (refine sq_val (v := ?_) (by simp only [zK]; rfl) (by rfl) ?_ ?_; rotate_left; (next => go_simp; try with_reducible rfl); try simp only [zL])
 (refine sq_callT (by simp only [zK]; rfl) (by rfl) ?y5 hG ?hout (fun vn wn hR => ?hret) (fun ch wn hR => ?hpan); (case y5 => (go_simp; (try (first | with_reducible rfl | (constructor <;> with_reducible rfl))))))
 case hout =>
  intro w' h
  unfold WhoP at h
  split at h
  ·obtain ⟨_, _, h, _⟩ := h
   cases h
  ·cases h.2
 case hpan =>
  exfalso
  unfold WhoP at hR
  split at hR
  ·obtain ⟨_, _, h, _⟩ := hR
   cases h
  ·cases hR.2
 case hret =>
  obtain ⟨hm, hr⟩ := hR
  clear hG
  have HM3 := Lib.hid (HM1.out.trans hm)
  replace kp2 := hm.at0 kp2
  replace kp3 := hm.at0 kp3
  have HSZ := Lib.hid hm.size
  clear hm
  cases hres : wholeP l with
  | error e0 =>
   rw [hres] at hr
   simp only at hr
   cases hr
   have h0 := wP_ne l e0 hres
   have HFN : Hid (∀ wz, Mod (fun _ => False) w wz → WirP w l (.returned (.tuple #[.agg zTc, .int .i64 (e0 : Int)])) wz) := Lib.hid (fun wz m => by
    have hw : wireP l = .error e0 := by unfold wireP; rw [hres]
    refine ⟨m, ?_⟩
    rw [hw])
   have hd : decide ((e0 : Int) = 0) = false := decide_eq_false (by omega)
   have hd2 : ((e0 : Int) == 0) = false := by simpa using h0
   have hd3 : (e0 == 0) = false := by simpa using h0
   have hd4 : decide (e0 = 0) = false := decide_eq_false h0
   have H0 := Lib.hid h0
   clear hres h0
   (try simp only [zL])
   obtain ⟨w4, rfl⟩ : ∃ w4 : World, w4 = wn := ⟨_, rfl⟩
   iterate 3 (refine sq_val (v := ?_) (by simp only [zK]; rfl) (by rfl) ?_ ?_; rotate_left; (next => go_simp; try with_reducible rfl); try simp only [zL])
   (refine sq_store (X := ?X9) (Y := ?Y9) (w' := ?w9) (by simp only [zK]; rfl) (by rfl) rfl rfl ?hx9 ?hz9 ?y9 ?n9; (case hx9 => simp only [zM]; try rfl); (case hz9 => simp only [zM]; try rfl); (case y9 => go_simp; try with_reducible rfl))
   (first | refine sq_set kp2 (fun wn kp2 mS => ?_) | refine sq_setCell kp2 (fun wn kp2 mS => ?_))
   have HM5 : Hid (Mod (fun i => i = ps ∨ i = p3) w4 wn) := Lib.hid (mS.mono (fun i _ e => .inl e))
   replace kp3 := mS.at_ne kp3 HNE.out.symm
   clear mS
   obtain ⟨w5, rfl⟩ : ∃ w5 : World, w5 = wn := ⟨_, rfl⟩
   (refine sq_store (X := ?X10) (Y := ?Y10) (w' := ?w10) (by simp only [zK]; rfl) (by rfl) rfl rfl ?hx10 ?hz10 ?y10 ?n10; (case hx10 => simp only [zM]; try rfl); (case hz10 => simp only [zM]; try rfl); (case y10 => go_simp; try with_reducible rfl))
   (first | refine sq_set kp3 (fun wn kp3 mS => ?_) | refine sq_setCell kp3 (fun wn kp3 mS => ?_))
   refine sq_nil ?_
   have HM6 : Hid (Mod (fun i => i = ps ∨ i = p3) w4 wn) := Lib.hid (HM5.out.then mS (fun i _ e => .inr e))
   replace kp2 := mS.at_ne kp2 HNE.out
   clear mS
   have HXS : Hid (zTc.size = 40 ∧ zTc.all (·.oneCell') = true) := Lib.hid ⟨zTc_size, zTc_all⟩
   have HFIN : Hid (∀ wz, Mod (fun i => i = ps ∨ i = p3) wn wz → WirP w l (.returned (.tuple #[.agg (if e0 = 0 then zTc else zTc), .int .i64 (e0 : Int)])) wz) := Lib.hid (fun wz m => by
    rw [if_neg H0.out]
    exact HFN.out wz ((HM3.out.then HM6.out (fun i hi e => by have := HS.out; omega)).then m (fun i hi e => by have := HS.out; omega)))
   have hxz : (Instr.loadAt 35 (pV ps)).run Tryz.prog wn = .ok (.agg zTc) wn := ldX HXS.out.1 kp2
   have HLX : Hid (∀ w' : World, w'.heap[ps]? = some (.cells zTc 35 (0, 0)) → (Instr.loadAt 35 (pV ps)).run Tryz.prog w' = .ok (.agg zTc) w') := Lib.hid (fun w' h => ldX HXS.out.1 h)
   clear hxz
   go_upto_region 5 with fail
   refine wp_mono (Q := fun e a' w' => e = .normal ∧ (a'.tmps.getD 2 undef = pV ps ∧ a'.tmps.getD 3 undef = pV p3 ∧ a'.defers = [{ target := .fn (.func 53) #[pV p3, pV ps], args := #[] }]) ∧ G2 ps p3 zTc (e0 : Int) (fun i => i = ps ∨ i = p3) w' ∧ Mod (fun i => i = ps ∨ i = p3) wn w') ?_ ?_
   ·have hP : ∀ (c : List PanicEntry) (a : Act) (w' : World), ¬ ((Exit.panic c = Exit.normal) ∧ (a.tmps.getD 2 undef = pV ps ∧ a.tmps.getD 3 undef = pV p3 ∧ a.defers = [{ target := .fn (.func 53) #[pV p3, pV ps], args := #[] }]) ∧ G2 ps p3 zTc (e0 : Int) (fun i => i = ps ∨ i = p3) w' ∧ Mod (fun i => i = ps ∨ i = p3) wn w') := fun c a w' h => by cases h.1
    have HK2 := Lib.hid kp2
    have HK3 : Hid (wn.heap[p3]? = some (.cells #[.int .i64 (e0 : Int)] 42 (0, 0))) := Lib.hid (by simpa using kp3)
    refine wp_gpass (T0 := fun _ => False) (K := fun _ _ => True) (κ := fun i => [0, 0, 6, 6].getD i 0) (υ := fun _ => []) [0, 1, 2, 3] (by kernel_rfl) (by kernel_rfl) (Good.true).cl (trivial) (fun _ h => h.elim) ?_
    have gK := Good.true
    (refine TG.load (v := ?v11) (p := ?p11) (by simp only [zK]; rfl) rfl (by rfl) rfl ?hx11 (fun wq hSq => ?y11) ?n11; (case hx11 => simp only [zM]; try rfl); (case y11 => (exact HLX.out _ (hSq.at0 HK2.out))); try simp only [zL])
    (refine TG.load (v := ?v12) (p := ?p12) (by simp only [zK]; rfl) rfl (by rfl) rfl ?hx12 (fun wq hSq => ?y12) ?n12; (case hx12 => simp only [zM]; try rfl); (case y12 => (exact ldE3 (hSq.at0 HK3.out))); try simp only [zL])
    (refine TG.storeU (X := ?X13) (Y := ?Y13) (fun _ _ => True) (Good.true) (by simp only [zK]; rfl) rfl (by rfl) rfl rfl ?hx13 ?hz13 (fun T wq hSq kq => ?y13) (fun _ => ?n13); (case hx13 => simp only [zM]; try rfl); (case hz13 => simp only [zM]; try rfl); (case y13 => (exact ⟨wq, by have := run_store_box (P := Tryz.prog) (T := 35) (hSq.at0 HK2.out) (by rw [HXS.out.1]; kernel_rfl) rfl HXS.out.2; rw [setBlock_same (hSq.at0 HK2.out)] at this; exact this, Mod.refl _ _, trivial⟩)); replace gK := (Good.true); try simp only [zL])
    (refine TG.storeU (X := ?X14) (Y := ?Y14) (fun _ _ => True) (Good.true) (by simp only [zK]; rfl) rfl (by rfl) rfl rfl ?hx14 ?hz14 (fun T wq hSq kq => ?y14) (fun _ => ?n14); (case hx14 => simp only [zM]; try rfl); (case hz14 => simp only [zM]; try rfl); (case y14 => (exact ⟨wq, by have : (Instr.storeAt 42 (pV p3) (.int .i64 (e0 : Int))).run Tryz.prog wq = .ok () (setBlock wq p3 (.cells #[.int .i64 (e0 : Int)] 42 (0, 0))) := run_store_one (hSq.at0 HK3.out) (by kernel_rfl) (by simp) rfl; rw [setBlock_same (hSq.at0 HK3.out)] at this; exact this, Mod.refl _ _, trivial⟩)); replace gK := (Good.true); try simp only [zL])
    refine TG.nil (fun w3 ⟨TR, hr⟩ => ?_)
    clear gK
    exact ⟨rfl, ⟨rfl, rfl, rfl⟩, ⟨⟨.inl rfl, hr.mod.at0 HK2.out⟩, .inr rfl, hr.mod.at0 HK3.out⟩, hr.mod.mono (fun _ _ h => h.elim)⟩
   ·rintro e a' w3 ⟨rfl, ha, hG, hm⟩
    obtain ⟨tm, df⟩ := a'
    obtain ⟨h2, h3, h5⟩ := ha
    simp only at h2 h3 h5
    subst h5
    go_wp2_with fail
    refine leaves_cons (f := 53) (args := #[pV p3, pV ps]) (by simp) (by simp [go_sem]) ?_
    refine (wire1_c (n := e0) hG.1.2 hG.2.2 HXS.out.1 HNE.out).mono ?_
    rintro e u' w4 ⟨rfl, rfl, k2, k3, m4⟩
    refine ⟨_, results_cell2 rfl h2 h3 (ldX (by split; exact HXS.out.1; exact zTc_size) k2) (ldE3 k3), ?_⟩
    exact HFIN.out w4 (hm.then m4 (fun i _ e => .inl e))
  | ok x =>
   rw [hres] at hr
   obtain ⟨r, hv0, hO, hrx, hB⟩ := hr
   cases hv0
   obtain ⟨nc, hnc⟩ : ∃ nc, chkP (txP r) = nc := ⟨_, rfl⟩
   have HFN : Hid (∀ wz, Mod (fun _ => False) w wz → TxO w1.heap.size wz r → WirP w l (.returned (.tuple #[.agg (if nc = 0 then txr r else zTc), .int .i64 (nc : Int)])) wz) := Lib.hid (fun wz m ho => by
    have hw : wireP l = if nc = 0 then .ok x else .error nc := by unfold wireP; rw [hres, ← hnc, hrx]
    refine ⟨m, ?_⟩
    rw [hw]
    by_cases h0 : nc = 0
    ·rw [if_pos h0, if_pos h0]
     subst h0
     exact ⟨r, rfl, ho.base HM1.out.size, hrx, hB⟩
    ·rw [if_neg h0, if_neg h0])
   have HO := Lib.hid (And.intro hO (And.intro hrx (And.intro hB hnc)))
   clear hres hO hrx hB hnc
   (try simp only [zL])
   obtain ⟨w4, rfl⟩ : ∃ w4 : World, w4 = wn := ⟨_, rfl⟩
   iterate 3 (refine sq_val (v := ?_) (by simp only [zK]; rfl) (by rfl) ?_ ?_; rotate_left; (next => go_simp; try with_reducible rfl); try simp only [zL])
   (refine sq_store (X := ?X18) (Y := ?Y18) (w' := ?w18) (by simp only [zK]; rfl) (by rfl) rfl rfl ?hx18 ?hz18 ?y18 ?n18; (case hx18 => simp only [zM]; try rfl); (case hz18 => simp only [zM]; try rfl); (case y18 => go_simp; try with_reducible rfl))
   (first | refine sq_set kp2 (fun wn kp2 mS => ?_) | refine sq_setCell kp2 (fun wn kp2 mS => ?_))
   have HM5 : Hid (Mod (fun i => i = ps ∨ i = p3) w4 wn) := Lib.hid (mS.mono (fun i _ e => .inl e))
   replace kp3 := mS.at_ne kp3 HNE.out.symm
   replace kp2 : wn.heap[ps]? = some (.cells (txr r) 35 (0, 0)) := kp2
   clear mS
   obtain ⟨w5, rfl⟩ : ∃ w5 : World, w5 = wn := ⟨_, rfl⟩
   (refine sq_store (X := ?X19) (Y := ?Y19) (w' := ?w19) (by simp only [zK]; rfl) (by rfl) rfl rfl ?hx19 ?hz19 ?y19 ?n19; (case hx19 => simp only [zM]; try rfl); (case hz19 => simp only [zM]; try rfl); (case y19 => go_simp; try with_reducible rfl))
   (first | refine sq_set kp3 (fun wn kp3 mS => ?_) | refine sq_setCell kp3 (fun wn kp3 mS => ?_))
   refine sq_nil ?_
   have HM6 : Hid (Mod (fun i => i = ps ∨ i = p3) w4 wn) := Lib.hid (HM5.out.then mS (fun i _ e => .inr e))
   replace kp2 := mS.at_ne kp2 HNE.out
   clear mS
   have HO6 : Hid (TxO w1.heap.size wn r) := Lib.hid (HO.out.1.mod HM6.out (Apt.below (fun i e => by have := HS.out; omega)))
   obtain ⟨w6, rfl⟩ : ∃ w6 : World, w6 = wn := ⟨_, rfl⟩
   have hC := check_c r w6 (HO6.out.rd (by rw [HO.out.2.1]; exact HO.out.2.2.1))
   rw [HO.out.2.2.2] at hC
   go_upto_region 4 with fail
   refine region_seq 3 rfl ?_
   simp only [List.range, List.range.loop]
   (refine sq_load (v := ?v20) (p := ?p20) (by simp only [zK]; rfl) (by rfl) rfl ?hx20 ?y20 ?n20; (case hx20 => simp only [zM]; try rfl); (case y20 => go_simp; try with_reducible rfl); try simp only [zL])
   (refine sq_callT (by simp only [zK]; rfl) (by rfl) ?y21 hC ?hout (fun vn wn hR => ?hret) (fun ch wn hR => ?hpan); (case y21 => (go_simp; (try (first | with_reducible rfl | (constructor <;> with_reducible rfl))))))
   case hout => exact fun w' h => by cases h.1
   case hpan => cases hR.1
   case hret =>
   obtain ⟨e1, hm⟩ := hR
   cases e1
   clear hC
   replace kp2 := hm.at0 kp2
   replace kp3 := hm.at0 kp3
   have HM7 := Lib.hid (HM6.out.then0 hm)
   clear hm
   (try simp only [zL])
   obtain ⟨w7, rfl⟩ : ∃ w7 : World, w7 = wn := ⟨_, rfl⟩
   (refine sq_store (X := ?X22) (Y := ?Y22) (w' := ?w22) (by simp only [zK]; rfl) (by rfl) rfl rfl ?hx22 ?hz22 ?y22 ?n22; (case hx22 => simp only [zM]; try rfl); (case hz22 => simp only [zM]; try rfl); (case y22 => go_simp; try with_reducible rfl))
   (first | refine sq_set kp3 (fun wn kp3 mS => ?_) | refine sq_setCell kp3 (fun wn kp3 mS => ?_))
   refine sq_nil ?_
   have HM8 : Hid (Mod (fun i => i = ps ∨ i = p3) w4 wn) := Lib.hid (HM7.out.then mS (fun i _ e => .inr e))
   replace kp2 := mS.at_ne kp2 HNE.out
   clear mS
   have HXS : Hid ((txr r).size = 40 ∧ (txr r).all (·.oneCell') = true) := Lib.hid ⟨txr_size r, txr_one' r⟩
   have HFIN : Hid (∀ wz, Mod (fun i => i = ps ∨ i = p3) wn wz → WirP w l (.returned (.tuple #[.agg (if nc = 0 then txr r else zTc), .int .i64 (nc : Int)])) wz) := Lib.hid (fun wz m => by
    have hm9 := HM8.out.trans m
    exact HFN.out wz (HM3.out.then hm9 (fun i hi e => by have := HS.out; omega)) (HO.out.1.mod hm9 (Apt.below (fun i e => by have := HS.out; omega))))
   have hxz : (Instr.loadAt 35 (pV ps)).run Tryz.prog wn = .ok (.agg (txr r)) wn := ldX HXS.out.1 kp2
   have HLX : Hid (∀ w' : World, w'.heap[ps]? = some (.cells (txr r) 35 (0, 0)) → (Instr.loadAt 35 (pV ps)).run Tryz.prog w' = .ok (.agg (txr r)) w') := Lib.hid (fun w' h => ldX HXS.out.1 h)
   clear hxz
   go_upto_region 5 with fail
   refine wp_mono (Q := fun e a' w' => e = .normal ∧ (a'.tmps.getD 2 undef = pV ps ∧ a'.tmps.getD 3 undef = pV p3 ∧ a'.defers = [{ target := .fn (.func 53) #[pV p3, pV ps], args := #[] }]) ∧ G2 ps p3 (txr r) (nc : Int) (fun i => i = ps ∨ i = p3) w' ∧ Mod (fun i => i = ps ∨ i = p3) wn w') ?_ ?_
   ·have hP : ∀ (c : List PanicEntry) (a : Act) (w' : World), ¬ ((Exit.panic c = Exit.normal) ∧ (a.tmps.getD 2 undef = pV ps ∧ a.tmps.getD 3 undef = pV p3 ∧ a.defers = [{ target := .fn (.func 53) #[pV p3, pV ps], args := #[] }]) ∧ G2 ps p3 (txr r) (nc : Int) (fun i => i = ps ∨ i = p3) w' ∧ Mod (fun i => i = ps ∨ i = p3) wn w') := fun c a w' h => by cases h.1
    have HK2 := Lib.hid kp2
    have HK3 : Hid (wn.heap[p3]? = some (.cells #[.int .i64 (nc : Int)] 42 (0, 0))) := Lib.hid (by simpa using kp3)
    refine wp_gpass (T0 := fun _ => False) (K := fun _ _ => True) (κ := fun i => [0, 0, 6, 6].getD i 0) (υ := fun _ => []) [0, 1, 2, 3] (by kernel_rfl) (by kernel_rfl) (Good.true).cl (trivial) (fun _ h => h.elim) ?_
    have gK := Good.true
    (refine TG.load (v := ?v23) (p := ?p23) (by simp only [zK]; rfl) rfl (by rfl) rfl ?hx23 (fun wq hSq => ?y23) ?n23; (case hx23 => simp only [zM]; try rfl); (case y23 => (exact HLX.out _ (hSq.at0 HK2.out))); try simp only [zL])
    (refine TG.load (v := ?v24) (p := ?p24) (by simp only [zK]; rfl) rfl (by rfl) rfl ?hx24 (fun wq hSq => ?y24) ?n24; (case hx24 => simp only [zM]; try rfl); (case y24 => (exact ldE3 (hSq.at0 HK3.out))); try simp only [zL])
    (refine TG.storeU (X := ?X25) (Y := ?Y25) (fun _ _ => True) (Good.true) (by simp only [zK]; rfl) rfl (by rfl) rfl rfl ?hx25 ?hz25 (fun T wq hSq kq => ?y25) (fun _ => ?n25); (case hx25 => simp only [zM]; try rfl); (case hz25 => simp only [zM]; try rfl); (case y25 => (exact ⟨wq, by have := run_store_box (P := Tryz.prog) (T := 35) (hSq.at0 HK2.out) (by rw [HXS.out.1]; kernel_rfl) rfl HXS.out.2; rw [setBlock_same (hSq.at0 HK2.out)] at this; exact this, Mod.refl _ _, trivial⟩)); replace gK := (Good.true); try simp only [zL])
    (refine TG.storeU (X := ?X26) (Y := ?Y26) (fun _ _ => True) (Good.true) (by simp only [zK]; rfl) rfl (by rfl) rfl rfl ?hx26 ?hz26 (fun T wq hSq kq => ?y26) (fun _ => ?n26); (case hx26 => simp only [zM]; try rfl); (case hz26 => simp only [zM]; try rfl); (case y26 => (exact ⟨wq, by have : (Instr.storeAt 42 (pV p3) (.int .i64 (nc : Int))).run Tryz.prog wq = .ok () (setBlock wq p3 (.cells #[.int .i64 (nc : Int)] 42 (0, 0))) := run_store_one (hSq.at0 HK3.out) (by kernel_rfl) (by simp) rfl; rw [setBlock_same (hSq.at0 HK3.out)] at this; exact this, Mod.refl _ _, trivial⟩)); replace gK := (Good.true); try simp only [zL])
    refine TG.nil (fun w3 ⟨TR, hr⟩ => ?_)
    clear gK
    exact ⟨rfl, ⟨rfl, rfl, rfl⟩, ⟨⟨.inl rfl, hr.mod.at0 HK2.out⟩, .inr rfl, hr.mod.at0 HK3.out⟩, hr.mod.mono (fun _ _ h => h.elim)⟩
   ·rintro e a' w3 ⟨rfl, ha, hG, hm⟩
    obtain ⟨tm, df⟩ := a'
    obtain ⟨h2, h3, h5⟩ := ha
    simp only at h2 h3 h5
    subst h5
    go_wp2_with fail
    refine leaves_cons (f := 53) (args := #[pV p3, pV ps]) (by simp) (by simp [go_sem]) ?_
    refine (wire1_c (n := nc) hG.1.2 hG.2.2 HXS.out.1 HNE.out).mono ?_
    rintro e u' w4 ⟨rfl, rfl, k2, k3, m4⟩
    refine ⟨_, results_cell2 rfl h2 h3 (ldX (by split; exact HXS.out.1; exact zTc_size) k2) (ldE3 k3), ?_⟩
    exact HFIN.out w4 (hm.then m4 (fun i _ e => .inl e))
end Go.Proofs.YtiaehkkkcaeaiaaGreatDoor
namespace Go.Proofs.YtiaehkkkcaeaiaaGreatDoor
section
variable {P : Program} {ops : Array Oper} {Q : Exit → Act → World → Prop} {S : World → Prop} {C : FuncId → Array Value → Value → Prop} {w0 : World} {κ : Nat → Nat}
theorem TD.mks {i : Nat} {r : List Nat} {a : Act} {B : Bx} {o : Oper} {d : Tmp} {T E : TypeId} {n m : Nat} {x y : Operand} {X Y : Value} {z : Array Value} (ho : ops[i]? = some o) (hk : κ i = 3)
  (hw : Region.wanted o (yielded ops a.tmps) = true) (hd : o.dst = some d) (hop : o.op = .makeSlice T x y) (hx : a.eval x = X) (hy : a.eval y = Y)
  (hr : ∀ w, (Instr.makeSlice T X Y).run P w = .ok (.slice (some ⟨w.heap.size, 0, none⟩) n m) (w.alloc (.cells z E)))
  (h : ∀ p, B p = none → TD P ops Q S C w0 κ r (a.put o.dst (.slice (some ⟨p, 0, none⟩) n m)) (B.set p ⟨z, E, d⟩)) : TD P ops Q S C w0 κ (i :: r) a B :=
 .alloc (fun p => .slice (some ⟨p, 0, none⟩) n m) ho hk hw hd (fun w => by subst hx; subst hy; simp [execOp, hop, hr w]) h
end
end Go.Proofs.YtiaehkkkcaeaiaaGreatDoor
namespace Go.Proofs.YtiaehkkkcaeaiaaGreatDoor
open Go.RowKit
open Go.ChangeMaps (setBlock)
attribute [local go_sem ↓] wlKey ldKey stKey ldSg stSg wlTc ldTc stTc eqKey1
attribute [local go_sem] cell_blk frozen_blk kc_ext one_int one_bool one_ptr one_slice one_map kc_one kc_one0 kc_size zKey_size sgc_size sgc_ext sgc_one0 sgc_one' txr_size txr_all txr_one txr_one' txr0 txr38 txr39 txr0' txr38' txr39' zTx_size Value.cells
set_option maxRecDepth 20000 in
set_option maxHeartbeats 1600000 in
theorem copied_c (a : Option Addr) (l : List Key) (c : Nat) (w : World) (hl : SlAt kc 32 w a l) (hn : a = none → c = 0) (hb : l.length ≤ 1000000) : Calls Tryz.prog 83 #[.slice a l.length c] w fun e w' => ∃ v, e = .returned v ∧ NewS kc 32 82 w.heap.size w' v l ∧ Mod (fun _ => False) w w' := by
 obtain ⟨n, hnl⟩ : ∃ n, l.length = n := ⟨_, rfl⟩
 rw [hnl] at hb
 obtain ⟨cur, hcs, hmk⟩ := makeT keysT n (by omega) (by omega)
 have hcp : ∀ w1 p, Mod (fun _ => False) w w1 → w1.heap[p]? = some (.cells cur 82 (0, 0)) → ∃ k, ∀ ty, (Builtin.copy_ #[27, 27] ty #[.slice (some ⟨p, 0, none⟩) n n, .slice a n c]).run Tryz.prog w1 = .ok (goInt k) (setBlock w1 p (.cells (cellsOf kc l).toArray 82 (0, 0))) := fun w1 p m hp => by
  cases a with
  | none =>
   have hl0 : l = [] := by
    rcases hl with h | ⟨_, _, _, _, _, h, _⟩
    ·exact h
    ·cases h
   subst hl0
   simp at hnl
   subst hnl
   rw [hn rfl]
   refine ⟨0, fun ty => ?_⟩
   have h1 := copyT0 (ty := ty) (m := 0) (cap := 0) (p := p) keysT w1
   have h2 : cur = #[] := by
    apply Array.eq_empty_of_size_eq_zero
    rw [hcs]
   rw [h2] at hp
   rw [show (cellsOf kc []).toArray = #[] from rfl, setBlock_same hp]
   exact h1
  | some ad =>
   refine ⟨n, fun ty => ?_⟩
   have h1 := copyT (ty := ty) (p := p) (cap := n) (c := c) keysT (hl.mod0 m) hp (by rw [hcs, hnl])
   rw [hnl] at h1
   exact h1
 have HCP := Lib.hid hcp
 have HNL := Lib.hid hnl
 rw [hnl]
 clear hl hn hcp hnl hcs
 go_enter Tryz.func83, Tryz.ntmps83
 go_upto_region 1 with fail
 refine wp_pass0 (C := fun _ _ _ => False) (κ := fun i => [0, 0, 3, 0].getD i 0) [0, 1, 2, 3] (by kernel_rfl) (by kernel_rfl) (fun _ _ d _ _ h => by cases d <;> first | exact h | exact absurd h (hP _ _ _)) ?_
 iterate 2 (refine TD.val0 (v := ?_) (by simp only [zK]; rfl) rfl (by rfl) (fun w1 => ?_) ?_; rotate_left; (next => go_simp; try with_reducible rfl); try simp only [zL])
 (refine TD.mks (by simp only [zK]; rfl) rfl (by rfl) rfl rfl ?hx3 ?hz3 hmk (fun p6 hp6 => ?n3); (case hx3 => simp only [zM]; try rfl); (case hz3 => simp only [zM]; try rfl); try simp only [zL])
 (refine TD.val0 (v := ?_) (by simp only [zK]; rfl) rfl (by rfl) (fun w1 => ?_) ?_; rotate_left; (next => go_simp; try with_reducible rfl); try simp only [zL])
 refine TD.nil (fun w1 hr => ?_)
 have kp6 := hr.box p6 _ (by first | exact Bx.set_same _ _ _ | (simp only [Bx.set_same]; rfl)); dsimp only [Value.cells] at kp6; obtain ⟨gp6, kp6⟩ := kp6
 have HM1 := Lib.hid hr.mod
 have HG := Lib.hid gp6
 clear hr hmk gp6
 go_upto_region 2 with fail
 have Lkp6 := lt_size kp6
 refine wp_pass0 (C := fun _ _ _ => False) (κ := fun i => [0, 0, 5].getD i 0) [0, 1, 2] (by kernel_rfl) (by kernel_rfl) (fun _ _ d _ _ h => by cases d <;> first | exact h | exact absurd h (hP _ _ _)) ?_
 iterate 2 (refine TD.val0 (v := ?_) (by simp only [zK]; rfl) rfl (by rfl) (fun w1 => ?_) ?_; rotate_left; (next => go_simp; try with_reducible rfl); try simp only [zL])
 refine TD.eff (by simp only [zK]; rfl) rfl (fun w2 hr => ?_)
 replace kp6 := hr.mod.at kp6 (fun h => h)
 obtain ⟨k, hcpy⟩ := HCP.out w2 p6 (HM1.out.then0 hr.mod) kp6
 have HM2 := Lib.hid (HM1.out.then0 hr.mod)
 clear hr
 (refine eff_copy (by simp only [zK]; rfl) (by rfl) rfl ?hx8 ?hz8 (hcpy _) ?n8; (case hx8 => simp only [zM]; try rfl); (case hz8 => simp only [zM]; try rfl); try simp only [zL])
 refine TE.nil_set kp6 (fun wn kp6 mS => ?_)
 have HF : Hid (NewS kc 32 82 w.heap.size wn (.slice (some ⟨p6, 0, none⟩) l.length l.length) l ∧ Mod (fun _ => False) w wn) := Lib.hid ⟨NewS.made keysT HG.out kp6, HM2.out.thenB mS (.inl HG.out)⟩
 have hf := HF.out
 rw [HNL.out] at hf
 have HF2 := Lib.hid hf
 clear kp6 mS hf HF
 go_wp2_with fail
 go_ret
 exact ⟨_, rfl, HF2.out.1, HF2.out.2⟩
end Go.Proofs.YtiaehkkkcaeaiaaGreatDoor
namespace Go.Proofs.YtiaehkkkcaeaiaaGreatDoor
open Go.RowKit
open Go.ChangeMaps (setBlock)
attribute [local go_sem ↓] wlKey ldKey stKey ldSg stSg wlTc ldTc stTc eqKey1
attribute [local go_sem] cell_blk frozen_blk kc_ext one_int one_bool one_ptr one_slice one_map kc_one kc_one0 kc_size zKey_size sgc_size sgc_ext sgc_one0 sgc_one' txr_size txr_all txr_one txr_one' txr0 txr38 txr39 txr0' txr38' txr39' zTx_size Value.cells
def slK (s : Sl Key) : Value := .slice s.a s.l.length s.c
theorem neMapR (w : World) (r : Option Nat) : (binOp .neq 46 (.map r) (.map none)).run Tryz.prog w = .ok (.bool !r.isNone) w := run_neq_map_nil w _ _ _ _ Tryz.underlying46
theorem bReg (m : Option Nat) (w : World) : (Instr.build 48 #[(0, .map m)]).run Tryz.prog w = .ok (.agg #[.map m]) w := by kernel_rfl
theorem slK_zero (w : World) : (zeroValue 27).run Tryz.prog w = .ok (slK ⟨none, [], 0⟩) w := by kernel_rfl
def RegM (h r : Nat) (M : List (Key × Sl Key)) (w : World) : Prop := w.heap[r]? = some (.cells #[.map (some h)] 48 (0, 0)) ∧ ∃ es c, w.heap[h]? = some (.map es c) ∧ MapIs kv slK es c M
def tbOf (M : List (Key × Sl Key)) : TbL := M.map (fun x => (x.1, x.2.l))
def RegA (b h r : Nat) (T : TbL) (w : World) : Prop := ∃ M, RegM h r M w ∧ tbOf M = T ∧ (∀ x ∈ M, NewS kc 32 82 b w (slK x.2) x.2.l ∧ x.2.l.length ≤ 256) ∧ b ≤ h ∧ b ≤ r
theorem RegM.mod {h r : Nat} {M : List (Key × Sl Key)} {w w' : World} {S : Nat → Prop} (H : RegM h r M w) (hm : Mod S w w') (h1 : ¬ S h) (h2 : ¬ S r) : RegM h r M w' := by
 obtain ⟨k1, es, c, k2, k3⟩ := H
 exact ⟨hm.at k1 h2, es, c, hm.at k2 h1, k3⟩
theorem RegA.mod {b h r : Nat} {T : TbL} {w w' : World} {S : Nat → Prop} (H : RegA b h r T w) (hm : Mod S w w') (hS : ∀ i, b ≤ i → i < w.heap.size → ¬ S i) : RegA b h r T w' := by
 obtain ⟨M, H1, H2, H3, H4, H5⟩ := H
 refine ⟨M, H1.mod hm (hS h H4 ?_) (hS r H5 (lt_size H1.1)), H2, fun x hx => ⟨(H3 x hx).1.mod hm (fun g hg => ?_), (H3 x hx).2⟩, H4, H5⟩
 ·obtain ⟨_, es, c, k2, _⟩ := H1
  exact lt_size k2
 ·have := (H3 x hx).1.lt g hg
  exact hS g this.1 this.2
theorem RegA.mod0 {b h r : Nat} {T : TbL} {w w' : World} (H : RegA b h r T w) (hm : Mod (fun _ => False) w w') : RegA b h r T w' := H.mod hm (fun _ _ _ h => h)
theorem lkp_tb (M : List (Key × Sl Key)) (k : Key) : tbFind (tbOf M) k = (lkp k M).map (·.l) := by
 unfold tbFind tbOf
 induction M with
 | nil => rfl
 | cons x M ih =>
  unfold lkp
  by_cases h : x.1 = k
  ·simp [h]
  ·simp only [List.map_cons, List.find?_cons, if_neg h]
   rw [show (decide (x.1 = k)) = false from decide_eq_false h]
   exact ih
set_option maxRecDepth 20000 in
theorem there_c {r m : Nat} (w : World) (kr : w.heap[r]? = some (.cells #[.map (some m)] 48 (0, 0))) : Calls Tryz.prog 82 #[pV r] w fun e w' => e = .returned (.bool true) ∧ w' = w := by
 have hne := neMapR
 go_enter Tryz.func82, Tryz.ntmps82
 go_wp2_with fail
 go_ret
 exact ⟨rfl, rfl⟩
theorem newT_c (w : World) : Calls Tryz.prog 33 #[] w fun e w' => ∃ h r, e = .returned (pV r) ∧ RegA w.heap.size h r [] w' ∧ Mod (fun _ => False) w w' := by
 have hmm := @run_makeMap Tryz.prog
 have hbd := bReg
 go_enter Tryz.func33, Tryz.ntmps33
 go_wp2_with fail
 go_ret
 obtain ⟨h1, h2⟩ := fresh2 w (.map #[] 0) (.cells #[.map (some w.heap.size)] 48)
 exact ⟨w.heap.size, _, rfl, ⟨[], ⟨h2, _, _, h1, MapIs.empty kv slK⟩, rfl, fun x hx => (by cases hx), by omega, by omega⟩, ((Mod.refl _ _).alloc _).alloc _⟩
set_option maxRecDepth 20000 in
set_option maxHeartbeats 1600000 in
theorem findE_c {b h r : Nat} {T : TbL} (k : Key) (w : World) (H : RegA b h r T w) : Calls Tryz.prog 34 #[pV r, .agg (kc k)] w fun e w' => (∃ v, e = .returned (.tuple #[v, .int .i64 (if (tbFind T k).isSome then 0 else 11)])) ∧ Mod (fun _ => False) w w' := by
 obtain ⟨M, ⟨kr, es, cl, kh, HM⟩, rfl, H3, H4, H5⟩ := id H
 rw [lkp_tb]
 have hlk : ∀ wq, wq.heap[h]? = some (.map es cl) → (Instr.lookup 46 (.map (some h)) (.agg (kc k)) true).run Tryz.prog wq = .ok (.tuple #[((lkp k M).map slK).getD (slK ⟨none, [], 0⟩), .bool (lkp k M).isSome]) wq := fun wq hq => HM.lookup keyTR Tryz.underlying46 slK_zero wq hq k true
 have H3' := Lib.hid H3
 cases hk : lkp k M with
 | none =>
  rw [hk] at hlk
  simp only [Option.map_none, Option.getD_none, Option.isSome_none] at hlk
  have hlk2 : ∀ wq, Mod (fun _ => False) w wq → (Instr.lookup 46 (.map (some h)) (.agg (kc k)) true).run Tryz.prog wq = .ok (.tuple #[.slice none 0 0, .bool false]) wq := fun wq hq => hlk wq (hq.at0 kh)
  have HLK := Lib.hid hlk2
  clear hlk hlk2 H3 HM hk H
  go_enter Tryz.func34, Tryz.ntmps34
  go_upto_region 0 with fail
  have Lkr := lt_size kr
  refine wp_pass0 (C := fun _ _ _ => False) (κ := fun i => [3, 0, 0].getD i 0) [0, 1, 2] (by kernel_rfl) (by kernel_rfl) (fun _ _ d _ _ h => by cases d <;> first | exact h | exact absurd h (hP _ _ _)) ?_
  (refine TD.box (v := ?v7) (by simp only [zK]; rfl) rfl (by rfl) rfl rfl ?hx7 (fun p3 hp3 => ?n7); (case hx7 => simp only [zM]; try rfl); try simp only [zL])
  iterate 2 (refine TD.val0 (v := ?_) (by simp only [zK]; rfl) rfl (by rfl) (fun w1 => ?_) ?_; rotate_left; (next => go_simp; try with_reducible rfl); try simp only [zL])
  refine TD.nil (fun w1 hr => ?_)
  replace kr := hr.mod.at kr (fun h => h)
  have kp3 := hr.box p3 _ (by first | exact Bx.set_same _ _ _ | (simp only [Bx.set_same]; rfl)); dsimp only [Value.cells] at kp3; obtain ⟨gp3, kp3⟩ := kp3
  have m1 := hr.mod
  clear hr
  go_wp2_with fail
  go_at_call 82
  refine (there_c _ kr).mono ?_
  rintro e w2 ⟨rfl, rfl⟩
  have hlk3 : ∀ wq, Mod (fun _ => False) w2 wq → (Instr.lookup 46 (.map (some h)) (.agg (kc k)) true).run Tryz.prog wq = .ok (.tuple #[.slice none 0 0, .bool false]) wq := fun wq hq => HLK.out wq (m1.trans hq)
  go_upto_region 3 with fail
  have Lkr := lt_size kr
  have Lkp3 := lt_size kp3
  refine wp_pass (C := fun _ _ _ => False) (κ := fun i => [0, 0, 0, 1, 1, 1, 0, 0, 0, 0, 0].getD i 0) [0, 1, 2, 3, 4, 5, 6, 7, 8, 9, 10] (by kernel_rfl) (by kernel_rfl) (fun _ _ d _ _ h => by cases d <;> first | exact h | exact absurd h (hP _ _ _)) ?_
  iterate 5 first | (refine TD.val0 (v := ?_) (by simp only [zK]; rfl) rfl (by rfl) (fun w1 => ?_) ?_; rotate_left; (next => go_simp; try with_reducible rfl); try simp only [zL]) | (refine TD.load (v := ?_) (p := ?_) (Mod.refl _ _) (by simp only [zK]; rfl) rfl (by rfl) rfl ?_ (fun wq hSq => ?_) ?_; rotate_left 2; (next => simp only [zM]; try rfl); (next => have krq := hSq.at kr (fun h => h); have kp3q := hSq.at kp3 (fun h => h); go_simp; try with_reducible rfl); try simp only [zL])
  (refine TD.lookup (v := ?v15) (p := ?p15) (q := ?q15) (Mod.refl _ _) (by simp only [zK]; rfl) rfl (by rfl) rfl ?hx15 ?hz15 (fun wq hSq => ?y15) ?n15; (case hx15 => simp only [zM]; try rfl); (case hz15 => simp only [zM]; try rfl); (case y15 => (rw [hlk3 wq hSq]; (try with_reducible rfl))); try simp only [zL])
  iterate 5 (refine TD.val0 (v := ?_) (by simp only [zK]; rfl) rfl (by rfl) (fun w1 => ?_) ?_; rotate_left; (next => go_simp; try with_reducible rfl); try simp only [zL])
  refine TD.nil (fun w3 hr => ?_)
  replace kr := hr.mod.at kr (fun h => h)
  replace kp3 := hr.mod.at kp3 (fun h => h)
  have m3 := m1.then0 hr.mod
  clear hr hlk3
  go_wp2_with fail
  exact bodyPost_ret (results_tmp2 rfl _ _ _) rfl ⟨⟨_, rfl⟩, m3⟩
 | some s =>
  rw [hk] at hlk
  simp only [Option.map_some, zE, Option.isSome_some] at hlk
  obtain ⟨ha, hb⟩ := H3 (k, s) (lkp_mem hk)
  have hn0 : s.a = none → s.c = 0 := by
   rcases ha with ⟨e, _⟩ | ⟨g, cur, e, _⟩
   ·injection e with _ _ e
    exact fun _ => e
   ·injection e with e _ _
    intro e2
    rw [e] at e2
    cases e2
  have HCP := Lib.hid (fun w1 (m : Mod (fun _ => False) w w1) => copied_c s.a s.l s.c w1 ((WAtG.of ha).sl.mod0 m) hn0 (Nat.le_trans hb (by decide)))
  obtain ⟨sa, hsa⟩ : ∃ sa, s.a = sa := ⟨_, rfl⟩
  obtain ⟨sn, hsn⟩ : ∃ sn, s.l.length = sn := ⟨_, rfl⟩
  obtain ⟨sc, hsc⟩ : ∃ sc, s.c = sc := ⟨_, rfl⟩
  have hlk2 : ∀ wq, Mod (fun _ => False) w wq → (Instr.lookup 46 (.map (some h)) (.agg (kc k)) true).run Tryz.prog wq = .ok (.tuple #[.slice sa sn sc, .bool true]) wq := fun wq hq => by
   have := hlk wq (hq.at0 kh)
   unfold slK at this
   rw [hsa, hsn, hsc] at this
   exact this
  have hC := HCP.out
  rw [hsa, hsn, hsc] at hC
  have HC := Lib.hid hC
  have HLK := Lib.hid hlk2
  clear hlk hlk2 H3 HM hk H ha hb hn0 hsa hsn hsc hC HCP
  go_enter Tryz.func34, Tryz.ntmps34
  go_upto_region 0 with fail
  have Lkr := lt_size kr
  refine wp_pass0 (C := fun _ _ _ => False) (κ := fun i => [3, 0, 0].getD i 0) [0, 1, 2] (by kernel_rfl) (by kernel_rfl) (fun _ _ d _ _ h => by cases d <;> first | exact h | exact absurd h (hP _ _ _)) ?_
  (refine TD.box (v := ?v21) (by simp only [zK]; rfl) rfl (by rfl) rfl rfl ?hx21 (fun p3 hp3 => ?n21); (case hx21 => simp only [zM]; try rfl); try simp only [zL])
  iterate 2 (refine TD.val0 (v := ?_) (by simp only [zK]; rfl) rfl (by rfl) (fun w1 => ?_) ?_; rotate_left; (next => go_simp; try with_reducible rfl); try simp only [zL])
  refine TD.nil (fun w1 hr => ?_)
  replace kr := hr.mod.at kr (fun h => h)
  have kp3 := hr.box p3 _ (by first | exact Bx.set_same _ _ _ | (simp only [Bx.set_same]; rfl)); dsimp only [Value.cells] at kp3; obtain ⟨gp3, kp3⟩ := kp3
  have m1 := hr.mod
  clear hr
  go_wp2_with fail
  go_at_call 82
  refine (there_c _ kr).mono ?_
  rintro e w2 ⟨rfl, rfl⟩
  have hlk3 : ∀ wq, Mod (fun _ => False) w2 wq → (Instr.lookup 46 (.map (some h)) (.agg (kc k)) true).run Tryz.prog wq = .ok (.tuple #[.slice sa sn sc, .bool true]) wq := fun wq hq => HLK.out wq (m1.trans hq)
  go_upto_region 3 with fail
  have Lkr := lt_size kr
  have Lkp3 := lt_size kp3
  refine wp_pass (C := fun _ _ _ => False) (κ := fun i => [0, 0, 0, 1, 1, 1, 0, 0, 0, 0, 0].getD i 0) [0, 1, 2, 3, 4, 5, 6, 7, 8, 9, 10] (by kernel_rfl) (by kernel_rfl) (fun _ _ d _ _ h => by cases d <;> first | exact h | exact absurd h (hP _ _ _)) ?_
  iterate 5 first | (refine TD.val0 (v := ?_) (by simp only [zK]; rfl) rfl (by rfl) (fun w1 => ?_) ?_; rotate_left; (next => go_simp; try with_reducible rfl); try simp only [zL]) | (refine TD.load (v := ?_) (p := ?_) (Mod.refl _ _) (by simp only [zK]; rfl) rfl (by rfl) rfl ?_ (fun wq hSq => ?_) ?_; rotate_left 2; (next => simp only [zM]; try rfl); (next => have krq := hSq.at kr (fun h => h); have kp3q := hSq.at kp3 (fun h => h); go_simp; try with_reducible rfl); try simp only [zL])
  (refine TD.lookup (v := ?v29) (p := ?p29) (q := ?q29) (Mod.refl _ _) (by simp only [zK]; rfl) rfl (by rfl) rfl ?hx29 ?hz29 (fun wq hSq => ?y29) ?n29; (case hx29 => simp only [zM]; try rfl); (case hz29 => simp only [zM]; try rfl); (case y29 => (rw [hlk3 wq hSq]; (try with_reducible rfl))); try simp only [zL])
  iterate 5 (refine TD.val0 (v := ?_) (by simp only [zK]; rfl) rfl (by rfl) (fun w1 => ?_) ?_; rotate_left; (next => go_simp; try with_reducible rfl); try simp only [zL])
  refine TD.nil (fun w3 hr => ?_)
  replace kr := hr.mod.at kr (fun h => h)
  replace kp3 := hr.mod.at kp3 (fun h => h)
  have m3 := m1.then0 hr.mod
  clear hr hlk3
  go_wp2_with fail
  go_at_call 83
  refine (HC.out _ m3).mono ?_
  rintro e w4 ⟨v, rfl, -, m4⟩
  have m5 := m3.trans m4
  go_wp2_with fail
  exact bodyPost_ret (results_tmp2 rfl _ _ _) rfl ⟨⟨_, rfl⟩, m5⟩
end Go.Proofs.YtiaehkkkcaeaiaaGreatDoor
namespace Go.Proofs.YtiaehkkkcaeaiaaGreatDoor
open Go.RowKit
open Go.ChangeMaps (setBlock)
attribute [local go_sem ↓] wlKey ldKey stKey ldSg stSg wlTc ldTc stTc eqKey1
attribute [local go_sem] cell_blk frozen_blk kc_ext one_int one_bool one_ptr one_slice one_map kc_one kc_one0 kc_size zKey_size sgc_size sgc_ext sgc_one0 sgc_one' txr_size txr_all txr_one txr_one' txr0 txr38 txr39 txr0' txr38' txr39' zTx_size Value.cells
def NewL {α : Type} (f : α → Array Value) (n : Nat) (E : TypeId) (b : Nat) (l : List α) (v : Value) : Land := fun T w => NewS f n E b w v l ∧ ∀ g, v.ownBlock = some g → T g
theorem goodN {α : Type} (f : α → Array Value) (n : Nat) (E : TypeId) (b : Nat) (l : List α) (v : Value) : Good (NewL f n E b l v) where
 cl := fun T w w' h hm => ⟨h.1.mod hm (fun g hg hn => hn (h.2 g hg)), h.2⟩
 gr := fun T T' w hT h => ⟨h.1, fun g hg => hT g (h.2 g hg)⟩
theorem newL {α : Type} {f : α → Array Value} {n : Nat} {E : TypeId} {b : Nat} {l : List α} {v : Value} {T : Nat → Prop} {w w' : World} (h : NewS f n E w.heap.size w' v l) (hb : b ≤ w.heap.size) : NewL f n E b l v (Grow T w w') w' :=
 ⟨h.base hb, fun g hg => .inr (h.lt g hg)⟩
theorem regH {w : World} {h r : Nat} {M : List (Key × Sl Key)} (H : RegM h r M w) : h ≠ r := by
 obtain ⟨k1, es, c, k2, _⟩ := H
 intro e
 subst e
 rw [k1] at k2
 cases k2
theorem nsK_ne {b : Nat} {w : World} {v : Value} {l : List Key} (h : NewS kc 32 82 b w v l) {j : Nat} {es : Array MapEntry} {c : Nat} (hj : w.heap[j]? = some (.map es c)) : v.ownBlock ≠ some j := fun e => by
 obtain ⟨C, hk⟩ := h.ty e
 rw [hj] at hk
 cases hk
def putE (T : TbL) (k : Key) (l : List Key) : Nat := if l.length = 0 ∨ 256 < l.length then 1 else if (tbFind T k).isSome then 12 else 0
set_option maxRecDepth 20000 in
set_option maxHeartbeats 3200000 in
theorem putT_c {b h r : Nat} {T : TbL} (k : Key) (a : Option Addr) (l : List Key) (c : Nat) (w : World) (H : RegA b h r T w) (hl : SlAt kc 32 w a l) (hn : a = none → c = 0) (hbl : l.length ≤ 1000000) :
  Calls Tryz.prog 43 #[pV r, .agg (kc k), .slice a l.length c] w fun e w' => e = .returned (.int .i64 ((putE T k l : Nat) : Int)) ∧ RegA b h r (tbPut T k l) w' ∧ Mod (fun i => i = h) w w' := by
 have HRA := Lib.hid H
 have hP1 : ∀ n, l.length = n → (n = 0 ∨ 256 < n) → putE T k l = 1 ∧ tbPut T k l = T := fun n e hn => by
  subst e
  exact ⟨if_pos hn, if_pos hn⟩
 have hP2 : ¬ (l.length = 0 ∨ 256 < l.length) → (tbFind T k).isSome = true → putE T k l = 12 ∧ tbPut T k l = T := fun e hf => by
  unfold putE tbPut
  rw [if_neg e, if_neg e, if_pos hf, if_pos hf]
  exact ⟨rfl, rfl⟩
 have hP3 : ¬ (l.length = 0 ∨ 256 < l.length) → tbFind T k = none → putE T k l = 0 ∧ tbPut T k l = T ++ [(k, l)] := fun e hf => by
  unfold putE tbPut
  rw [if_neg e, if_neg e, hf]
  exact ⟨rfl, rfl⟩
 have HP := Lib.hid (And.intro hP1 (And.intro hP2 hP3))
 obtain ⟨n, hnl⟩ : ∃ n, l.length = n := ⟨_, rfl⟩
 have HC := Lib.hid (fun w1 (m : Mod (fun _ => False) w w1) => copied_c a l c w1 (hl.mod0 m) hn hbl)
 have hC := HC.out
 rw [hnl] at hC
 have HC2 := Lib.hid hC
 have HNL := Lib.hid hnl
 have hnb : n ≤ 1000000 := by rw [← hnl]; exact hbl
 obtain ⟨M, ⟨kr, es, cl, kh, HM⟩, hT, H3, H4, H5⟩ := id H
 rw [hnl]
 obtain ⟨pe, hpe⟩ : ∃ pe, putE T k l = pe := ⟨_, rfl⟩
 obtain ⟨T2, hT2⟩ : ∃ T2, tbPut T k l = T2 := ⟨_, rfl⟩
 have HPE := Lib.hid (And.intro hpe hT2)
 rw [hpe, hT2]
 clear hP1 hP2 hP3 hC HC hl hn hbl hnl H hpe hT2
 go_enter Tryz.func43, Tryz.ntmps43
 go_upto_region 0 with fail
 have Lkr := lt_size kr
 have Lkh := lt_size kh
 refine wp_pass0 (C := fun _ _ _ => False) (κ := fun i => [3, 0].getD i 0) [0, 1] (by kernel_rfl) (by kernel_rfl) (fun _ _ d _ _ h => by cases d <;> first | exact h | exact absurd h (hP _ _ _)) ?_
 (refine TD.box (v := ?v1) (by simp only [zK]; rfl) rfl (by rfl) rfl rfl ?hx1 (fun p4 hp4 => ?n1); (case hx1 => simp only [zM]; try rfl); try simp only [zL])
 (refine TD.val0 (v := ?_) (by simp only [zK]; rfl) rfl (by rfl) (fun w1 => ?_) ?_; rotate_left; (next => go_simp; try with_reducible rfl); try simp only [zL])
 refine TD.nil (fun w1 hr => ?_)
 replace kr := hr.mod.at kr (fun h => h)
 replace kh := hr.mod.at kh (fun h => h)
 have kp4 := hr.box p4 _ (by first | exact Bx.set_same _ _ _ | (simp only [Bx.set_same]; rfl)); dsimp only [Value.cells] at kp4; obtain ⟨gp4, kp4⟩ := kp4
 have HM1 := Lib.hid hr.mod
 clear hr
 go_wp2_with fail
 go_at_call 82
 refine (there_c _ kr).mono ?_
 rintro e w2 ⟨rfl, rfl⟩
 have HFin : Hid (∀ wz, Mod (fun _ => False) w wz → T2 = T → RegA b h r T2 wz ∧ Mod (fun i => i = h) w wz) := Lib.hid (fun wz m e => ⟨e ▸ HRA.out.mod0 m, m.mono (fun _ _ h => h.elim)⟩)
 by_cases h0 : n = 0
 ·have HE := Lib.hid (HP.out.1 n HNL.out (.inl h0))
  have hd2 : decide ((n : Int) = 0) = true := decide_eq_true (by omega)
  go_wp2_with fail
  go_ret
  exact ⟨by rw [← HPE.out.1, HE.out.1]; rfl, HFin.out _ HM1.out (by rw [← HPE.out.2, HE.out.2])⟩
 ·have hd2 : decide ((n : Int) = 0) = false := decide_eq_false (by omega)
  by_cases h1 : 256 < n
  ·have HE := Lib.hid (HP.out.1 n HNL.out (.inr h1))
   have hd3 := decide_eq_true h1
   go_wp2_with fail
   go_ret
   exact ⟨by rw [← HPE.out.1, HE.out.1]; rfl, HFin.out _ HM1.out (by rw [← HPE.out.2, HE.out.2])⟩
  ·have hd3 := decide_eq_false h1
   have HNO : Hid (¬ (l.length = 0 ∨ 256 < l.length)) := Lib.hid (by rw [HNL.out]; omega)
   have hlk : ∀ wq, wq.heap[h]? = some (.map es cl) → (Instr.lookup 46 (.map (some h)) (.agg (kc k)) true).run Tryz.prog wq = .ok (.tuple #[((lkp k M).map slK).getD (slK ⟨none, [], 0⟩), .bool (lkp k M).isSome]) wq := fun wq hq => HM.lookup keyTR Tryz.underlying46 slK_zero wq hq k true
   have HM' := Lib.hid HM
   have H3' := Lib.hid H3
   clear HM H3
   cases hk : lkp k M with
   | some s =>
    have HE := Lib.hid (HP.out.2.1 HNO.out (by rw [← hT, lkp_tb, hk]; rfl))
    rw [hk] at hlk
    simp only [Option.map_some, zE, Option.isSome_some] at hlk
    obtain ⟨vs, hvs⟩ : ∃ vs, slK s = vs := ⟨_, rfl⟩
    rw [hvs] at hlk
    have hlk3 : ∀ wq, Mod (fun _ => False) w2 wq → (Instr.lookup 46 (.map (some h)) (.agg (kc k)) true).run Tryz.prog wq = .ok (.tuple #[vs, .bool true]) wq := fun wq hq => hlk wq (hq.at0 kh)
    clear hlk hk hvs
    go_upto_region 6 with fail
    have Lkr := lt_size kr
    have Lkp4 := lt_size kp4
    refine wp_pass (C := fun _ _ _ => False) (κ := fun i => [0, 0, 0, 1, 1, 1, 0, 0, 0, 0, 0].getD i 0) [0, 1, 2, 3, 4, 5, 6, 7, 8, 9, 10] (by kernel_rfl) (by kernel_rfl) (fun _ _ d _ _ h => by cases d <;> first | exact h | exact absurd h (hP _ _ _)) ?_
    iterate 5 first | (refine TD.val0 (v := ?_) (by simp only [zK]; rfl) rfl (by rfl) (fun w1 => ?_) ?_; rotate_left; (next => go_simp; try with_reducible rfl); try simp only [zL]) | (refine TD.load (v := ?_) (p := ?_) (Mod.refl _ _) (by simp only [zK]; rfl) rfl (by rfl) rfl ?_ (fun wq hSq => ?_) ?_; rotate_left 2; (next => simp only [zM]; try rfl); (next => have krq := hSq.at kr (fun h => h); have kp4q := hSq.at kp4 (fun h => h); go_simp; try with_reducible rfl); try simp only [zL])
    (refine TD.lookup (v := ?v8) (p := ?p8) (q := ?q8) (Mod.refl _ _) (by simp only [zK]; rfl) rfl (by rfl) rfl ?hx8 ?hz8 (fun wq hSq => ?y8) ?n8; (case hx8 => simp only [zM]; try rfl); (case hz8 => simp only [zM]; try rfl); (case y8 => (rw [hlk3 wq hSq]; (try with_reducible rfl))); try simp only [zL])
    iterate 5 (refine TD.val0 (v := ?_) (by simp only [zK]; rfl) rfl (by rfl) (fun w1 => ?_) ?_; rotate_left; (next => go_simp; try with_reducible rfl); try simp only [zL])
    refine TD.nil (fun w3 hr => ?_)
    replace kr := hr.mod.at kr (fun h => h)
    replace kp4 := hr.mod.at kp4 (fun h => h)
    have m3 := HM1.out.then0 hr.mod
    clear hr hlk3
    go_wp2_with fail
    go_ret
    exact ⟨by rw [← HPE.out.1, HE.out.1]; rfl, HFin.out _ m3 (by rw [← HPE.out.2, HE.out.2])⟩
   | none =>
    have HE := Lib.hid (HP.out.2.2 HNO.out (by rw [← hT, lkp_tb, hk]; rfl))
    rw [hk] at hlk
    simp only [Option.map_none, Option.getD_none, Option.isSome_none] at hlk
    have HK := Lib.hid hk
    have hlk3 : ∀ wq, Mod (fun _ => False) w2 wq → (Instr.lookup 46 (.map (some h)) (.agg (kc k)) true).run Tryz.prog wq = .ok (.tuple #[.slice none 0 0, .bool false]) wq := fun wq hq => hlk wq (hq.at0 kh)
    clear hlk hk
    go_upto_region 6 with fail
    have Lkr := lt_size kr
    have Lkp4 := lt_size kp4
    have Lkh := lt_size kh
    refine wp_pass (C := fun _ _ _ => False) (κ := fun i => [0, 0, 0, 1, 1, 1, 0, 0, 0, 0, 0].getD i 0) [0, 1, 2, 3, 4, 5, 6, 7, 8, 9, 10] (by kernel_rfl) (by kernel_rfl) (fun _ _ d _ _ h => by cases d <;> first | exact h | exact absurd h (hP _ _ _)) ?_
    iterate 5 first | (refine TD.val0 (v := ?_) (by simp only [zK]; rfl) rfl (by rfl) (fun w1 => ?_) ?_; rotate_left; (next => go_simp; try with_reducible rfl); try simp only [zL]) | (refine TD.load (v := ?_) (p := ?_) (Mod.refl _ _) (by simp only [zK]; rfl) rfl (by rfl) rfl ?_ (fun wq hSq => ?_) ?_; rotate_left 2; (next => simp only [zM]; try rfl); (next => have krq := hSq.at kr (fun h => h); have kp4q := hSq.at kp4 (fun h => h); have khq := hSq.at kh (fun h => h); go_simp; try with_reducible rfl); try simp only [zL])
    (refine TD.lookup (v := ?v19) (p := ?p19) (q := ?q19) (Mod.refl _ _) (by simp only [zK]; rfl) rfl (by rfl) rfl ?hx19 ?hz19 (fun wq hSq => ?y19) ?n19; (case hx19 => simp only [zM]; try rfl); (case hz19 => simp only [zM]; try rfl); (case y19 => (rw [hlk3 wq hSq]; (try with_reducible rfl))); try simp only [zL])
    iterate 5 (refine TD.val0 (v := ?_) (by simp only [zK]; rfl) rfl (by rfl) (fun w1 => ?_) ?_; rotate_left; (next => go_simp; try with_reducible rfl); try simp only [zL])
    refine TD.nil (fun w3 hr => ?_)
    replace kr := hr.mod.at kr (fun h => h)
    replace kp4 := hr.mod.at kp4 (fun h => h)
    replace kh := hr.mod.at kh (fun h => h)
    have HM3 := Lib.hid (HM1.out.then0 hr.mod)
    clear hr hlk3
    go_upto_region 9 with fail
    have Lkr := lt_size kr
    have Lkp4 := lt_size kp4
    have Lkh := lt_size kh
    refine wp_epass (T0 := fun _ => False) (K := fun _ _ => True) (κ := fun i => [0, 0, 0, 0, 0, 0, 6, 6].getD i 0) (υ := fun _ => []) [0, 1, 2, 3, 4, 5, 6] [7] (by kernel_rfl) (by kernel_rfl) (Good.true).cl (trivial) (fun _ h => h.elim) ?_
    have gK := Good.true
    iterate 3 (refine TG.v0 (v := ?_) (by simp only [zK]; rfl) rfl (by rfl) (fun w1 => ?_) ?_; rotate_left; (next => go_simp; try with_reducible rfl); try simp only [zL])
    (refine TG.load (v := ?v28) (p := ?p28) (by simp only [zK]; rfl) rfl (by rfl) rfl ?hx28 (fun wq hSq => ?y28) ?n28; (case hx28 => simp only [zM]; try rfl); (case y28 => (have krq := hSq.at kr (fun h => h); have kp4q := hSq.at kp4 (fun h => h); have khq := hSq.at kh (fun h => h); go_simp; (try with_reducible rfl))); try simp only [zL])
    (refine TG.load (v := ?v29) (p := ?p29) (by simp only [zK]; rfl) rfl (by rfl) rfl ?hx29 (fun wq hSq => ?y29) ?n29; (case hx29 => simp only [zM]; try rfl); (case y29 => (have krq := hSq.at kr (fun h => h); have kp4q := hSq.at kp4 (fun h => h); have khq := hSq.at kh (fun h => h); go_simp; (try with_reducible rfl))); try simp only [zL])
    (refine TG.v0 (v := ?_) (by simp only [zK]; rfl) rfl (by rfl) (fun w1 => ?_) ?_; rotate_left; (next => go_simp; try with_reducible rfl); try simp only [zL])
    (refine TG.callM (f := ?f31) (args := ?r31) (NewL kc 32 82 w3.heap.size l) (goodN kc 32 82 w3.heap.size l) gK (by simp only [zK]; rfl) rfl (by rfl) (fun w1 => ?y31) (fun T wq kq ltq hSq ub => ?hsp31) ?n31; (case y31 => (go_simp; (first | with_reducible rfl | (constructor <;> with_reducible rfl)))); (case hsp31 => (have krq := hSq.at kr (fun h => h); have kp4q := hSq.at kp4 (fun h => h); have khq := hSq.at kh (fun h => h); exact (HC2.out wq (HM3.out.then0 hSq)).mono (fun e w' h => by obtain ⟨v, h1, h2, h3⟩ := h; exact ⟨v, h1, h3, newL h2 hSq.size⟩))); rintro v31 ⟨wI, TI, hI⟩; replace gK := gK.and ((goodN kc 32 82 w3.heap.size l) v31); skip; (try clear hI TI wI); try simp only [zL])
    refine TG.nil (fun w6 ⟨TR, hr⟩ => ?_)
    replace kr := hr.mod.at kr (fun h => h)
    replace kp4 := hr.mod.at kp4 (fun h => h)
    replace kh := hr.mod.at kh (fun h => h)
    clear gK
    obtain ⟨_, hN, hTg⟩ := hr.k
    obtain ⟨a6, rfl⟩ := NewS.form2 hN
    rw [HNL.out] at hTg ⊢
    have HM6 := Lib.hid (HM3.out.then0 hr.mod)
    have HN6 := Lib.hid hN
    obtain ⟨es7, cl7, hup, HM7⟩ := HM'.out.update keyTR Tryz.underlying46 w6 kh k (⟨a6, l, n⟩ : Sl Key)
    have hup2 : (Instr.mapUpdate 46 (.map (some h)) (.agg (kc k)) (.slice a6 n n)).run Tryz.prog w6 = .ok () (setBlock w6 h (.map es7 cl7)) := by
     have e : slK (⟨a6, l, n⟩ : Sl Key) = .slice a6 n n := by
      unfold slK
      rw [HNL.out]
     rw [e] at hup
     exact hup
    have HM7' := Lib.hid HM7
    clear hup hN hTg hr HM7
    refine TE.step (by simp only [zK]; rfl) rfl ?_
    (refine eff_update (X := ?X32) (Y := ?Y32) (Z := ?Z32) (w' := ?w32) (by simp only [zK]; rfl) (by rfl) rfl ?hx32 ?hz32 ?hv32 ?y32 ?n32; (case hx32 => simp only [zM]; try rfl); (case hz32 => simp only [zM]; try rfl); (case hv32 => (simp only [zM]; (try rfl))); (case y32 => exact hup2))
    refine TE.nil_set kh (fun wn kh mS => ?_)
    have HM8 : Hid (Mod (fun i => i = h) w wn) := Lib.hid ((HM6.out.mono (fun _ _ h => h.elim)).trans mS)
    have HF : Hid (RegA b h r T2 wn) := Lib.hid (by
     obtain ⟨q1, q2⟩ := HPE.out
     rw [← q2, HE.out.2, ← hT]
     obtain ⟨M0, q0, _⟩ := HRA.out
     have hne := regH q0
     have hhb : h < w3.heap.size := by
      obtain ⟨_, e0, c0, k0, _⟩ := q0
      exact Nat.lt_of_lt_of_le (lt_size k0) HM3.out.size
     refine ⟨put k (⟨a6, l, n⟩ : Sl Key) M, ⟨mS.at_ne kr hne.symm, _, _, kh, HM7'.out⟩, ?_, ?_, H4, H5⟩
     ·rw [put_none HK.out]
      simp [tbOf]
     ·rw [put_none HK.out]
      intro x hx
      rcases List.mem_append.1 hx with hx | hx
      ·obtain ⟨x1, x2⟩ := H3'.out x hx
       obtain ⟨_, e0, c0, k0, _⟩ := q0
       refine ⟨x1.mod HM8.out (fun g hg e => ?_), x2⟩
       have e' : g = h := e
       subst e'
       exact nsK_ne x1 k0 hg
      ·rw [List.mem_singleton] at hx
       subst hx
       refine ⟨?_, by have := HNO.out; have := HNL.out; show l.length ≤ 256; omega⟩
       have hN := (HN6.out.mod mS (fun g hg e => by have e' : g = h := e; have := (HN6.out.lt g hg).1; omega)).base (b' := b) (by omega)
       show NewS kc 32 82 b wn (.slice a6 l.length n) l
       rw [← HNL.out]
       exact hN)
    clear kh kr mS
    go_wp2_with fail
    go_ret
    exact ⟨by rw [← HPE.out.1, HE.out.1]; rfl, HF.out, HM8.out⟩
end Go.Proofs.YtiaehkkkcaeaiaaGreatDoor
namespace Go.Proofs.YtiaehkkkcaeaiaaGreatDoor
open Go.RowKit
open Go.ChangeMaps (setBlock)
attribute [local go_sem ↓] wlKey ldKey stKey ldSg stSg wlTc ldTc stTc eqKey1
attribute [local go_sem] cell_blk frozen_blk kc_ext one_int one_bool one_ptr one_slice one_map kc_one kc_one0 kc_size zKey_size sgc_size sgc_ext sgc_one0 sgc_one' txr_size txr_all txr_one txr_one' txr0 txr38 txr39 txr0' txr38' txr39' zTx_size Value.cells
structure TbR where
 k : Key
 s : Sl Key
def tbr (x : TbR) : Array Value := kx x.k [.slice x.s.a x.s.l.length x.s.c]
def zTb : Array Value := tbr ⟨key0, ⟨none, [], 0⟩⟩
theorem tbr_size (x : TbR) : (tbr x).size = 33 := kx_size _ _
theorem tbr_one' (x : TbR) : (tbr x).all (·.oneCell') = true := kx_one _ _ rfl
theorem tbr_key (x : TbR) : (tbr x).extract 0 32 = kc x.k := kx_key _ _
theorem tbr32 (x : TbR) : (tbr x)[32]? = some (.slice x.s.a x.s.l.length x.s.c) := kx_get x.k _ 0
theorem zTb_size : zTb.size = 33 := tbr_size _
attribute [local go_sem] tbr_size zTb_size
theorem tbT : ElT Tryz.prog 94 151 tbr 33 56 where
 u := Tryz.underlying94
 info := by
  obtain ⟨i0, hi, hz0, hz1, hz2⟩ := info_parts (show (Tryz.prog.info? 151).map (fun i => (i.zero, i.size, i.bytes)) = some (some (.agg zTb), 33, 56) by kernel_rfl)
  exact ⟨i0, _, hi, hz0, hz1, hz2, by simp [Value.cells, zTb_size]⟩
 pos := by omega
 size x := tbr_size x
 one x := by
  have := tbr_one' x
  rw [Array.all_eq_true_iff_forall_mem] at this
  intro u hu
  exact this u (by simpa using hu)
theorem row_head {C : Array Value} {o n m : Nat} {X Y : Array Value} (h : C.extract o (o + n) = X) (hX : X.extract 0 m = Y) (hm : m ≤ n) : C.extract o (o + m) = Y := by
 rw [← hX, ← h, Array.extract_extract]
 congr 1 <;> omega
def RfA (b m : Nat) (T : TbL) (v : Value) (w : World) : Prop := ∃ L : List TbR, w.heap[m]? = some (.cells #[v] 96 (0, 0)) ∧ SlOwn tbr 33 151 w b v L ∧ L.map (fun x => (x.k, x.s.l)) = T ∧
 (∀ x ∈ L, SlAt kc 32 w x.s.a x.s.l ∧ x.s.l.length ≤ 256 ∧ ∀ g o, x.s.a = some ⟨g, o, none⟩ → b ≤ g ∧ g < w.heap.size ∧ ∃ C, w.heap[g]? = some (.cells C 82 (0, 0))) ∧ m < b
theorem RfA.mod {b m : Nat} {T : TbL} {v : Value} {w w' : World} {S : Nat → Prop} (H : RfA b m T v w) (hm : Mod S w w') (h1 : ¬ S m) (h2 : ∀ g, v.ownBlock = some g → ¬ S g) (h3 : ∀ g C, b ≤ g → w.heap[g]? = some (.cells C 82 (0, 0)) → ¬ S g) : RfA b m T v w' := by
 obtain ⟨L, k1, k2, k3, k4, k5⟩ := H
 refine ⟨L, hm.at k1 h1, k2.mod hm h2, k3, fun x hx => ?_, k5⟩
 obtain ⟨s1, s2, s3⟩ := k4 x hx
 refine ⟨?_, s2, fun g o e => ?_⟩
 ·rcases s1 with h | ⟨g, o, C, U, fr, ha, hg, hr⟩
  ·exact .inl h
  ·obtain ⟨q1, q2, C2, q3⟩ := s3 g o ha
   exact .inr ⟨g, o, C, U, fr, ha, hm.at hg (h3 g C2 q1 q3), hr⟩
 ·obtain ⟨q1, q2, C2, q3⟩ := s3 g o e
  exact ⟨q1, Nat.lt_of_lt_of_le q2 hm.size, C2, hm.at q3 (h3 g C2 q1 q3)⟩
theorem RfA.mod0 {b m : Nat} {T : TbL} {v : Value} {w w' : World} (H : RfA b m T v w) (hm : Mod (fun _ => False) w w') : RfA b m T v w' := H.mod hm (fun h => h) (fun _ _ h => h) (fun _ _ _ _ h => h)
theorem find_tb (L : List TbR) (k : Key) : tbFind (L.map (fun x => (x.k, x.s.l))) k = (L.find? (fun x => decide (x.k = k))).map (fun x => x.s.l) := by
 unfold tbFind
 rw [List.find?_map, Option.map_map]
 rfl
theorem find_at {L : List TbR} {k : Key} {i : Nat} {y : TbR} (hy : L[i]? = some y) (hk : y.k = k) (h : ∀ j x, j < i → L[j]? = some x → x.k ≠ k) : L.find? (fun x => decide (x.k = k)) = some y := by
 rw [List.find?_eq_some_iff_getElem]
 obtain ⟨hi, he⟩ := List.getElem?_eq_some_iff.1 hy
 exact ⟨by simpa using hk, i, hi, he, fun j hj => by
  have := h j _ hj (List.getElem?_eq_getElem (by omega))
  simpa using this⟩
theorem find_no {L : List TbR} {k : Key} (h : ∀ j x, j < L.length → L[j]? = some x → x.k ≠ k) : L.find? (fun x => decide (x.k = k)) = none := by
 rw [List.find?_eq_none]
 intro x hx
 obtain ⟨j, hj, e⟩ := List.getElem_of_mem hx
 have := h j x hj (by rw [List.getElem?_eq_getElem hj, e])
 simpa using this
def RfFind (T : TbL) (k : Key) (w : World) (e : Ending) (w' : World) : Prop := Mod (fun _ => False) w w' ∧ match tbFind T k with
 | some l => ∃ v, e = .returned (.tuple #[v, .int .i64 0]) ∧ SlOwn kc 32 82 w' w.heap.size v l
 | none => e = .returned (.tuple #[.slice none 0 0, .int .i64 11])
set_option maxRecDepth 20000 in
set_option maxHeartbeats 3200000 in
theorem rfind_c {b m : Nat} {T : TbL} {v : Value} (k : Key) (w : World) (H : RfA b m T v w) (hT : T.length ≤ 100000) : Calls Tryz.prog 90 #[pV m, .agg (kc k)] w (RfFind T k w) := by
 obtain ⟨L, k1, k2, k3, k4, k5⟩ := H
 obtain ⟨va, vc, rfl, hat, _⟩ := k2.at tbT
 have HL := Lib.hid (And.intro hat (And.intro k3 (And.intro k4 k1)))
 obtain ⟨n, hn⟩ : ∃ n, L.length = n := ⟨_, rfl⟩
 have hnb : n ≤ 100000 := by rw [← hn]; have := congrArg List.length k3; rw [List.length_map] at this; omega
 have HN := Lib.hid hn
 have kr := k1
 rw [hn] at kr
 clear k1 k2 k3 k4 k5 hat hn hT
 go_enter Tryz.func90, Tryz.ntmps90
 go_upto_region 0 with fail
 have Lkr := lt_size kr
 refine wp_pass0 (C := fun _ _ _ => False) (κ := fun i => [3, 0, 0].getD i 0) [0, 1, 2] (by kernel_rfl) (by kernel_rfl) (fun _ _ d _ _ h => by cases d <;> first | exact h | exact absurd h (hP _ _ _)) ?_
 (refine TD.box (v := ?v1) (by simp only [zK]; rfl) rfl (by rfl) rfl rfl ?hx1 (fun p3 hp3 => ?n1); (case hx1 => simp only [zM]; try rfl); try simp only [zL])
 iterate 2 (refine TD.val0 (v := ?_) (by simp only [zK]; rfl) rfl (by rfl) (fun w1 => ?_) ?_; rotate_left; (next => go_simp; try with_reducible rfl); try simp only [zL])
 refine TD.nil (fun w1 hr => ?_)
 replace kr := hr.mod.at kr (fun h => h)
 have kp3 := hr.box p3 _ (by first | exact Bx.set_same _ _ _ | (simp only [Bx.set_same]; rfl)); dsimp only [Value.cells] at kp3; obtain ⟨gp3, kp3⟩ := kp3
 have HM1 := Lib.hid hr.mod
 clear hr
 go_wp2_with fail
 go_loopw [6] (fun s6 ws => ∃ i : Nat, i ≤ n ∧ s6 = .int .i64 (i : Int) ∧ Hid (∀ j x, j < i → L[j]? = some x → x.k ≠ k) ∧ Hid (Mod (fun _ => False) w ws) ∧ ws.heap[m]? = some (.cells #[.slice va n vc] 96 (0, 0)) ∧ ws.heap[p3]? = some (.cells (kc k) 82 (0, 0))) (fun s6 _ => n - (intOf s6).toNat)
 case atStart => exact ⟨0, Nat.zero_le _, rfl, Lib.hid (fun j x h => by omega), HM1, kr, kp3⟩
 case round =>
  clear kr kp3
  obtain ⟨i, hi, rfl, HK, HM, kr, kp3⟩ := hrel
  by_cases hlt : i < n
  ·have hd := decide_eq_true hlt
   obtain ⟨y, hy⟩ : ∃ y, L[i]? = some y := ⟨_, List.getElem?_eq_getElem (by have := HN.out; omega)⟩
   obtain ⟨g, o, C, U, fr, rfl, kg, he, hle⟩ := (HL.out.1.mod0 HM.out).block hy
   have hke := row_head he (tbr_key y) (by omega)
   have hle2 : o + i * 33 + 32 ≤ C.size := by omega
   have hks : C[o + i * 33 + 32]? = some (.slice y.s.a y.s.l.length y.s.c) := cellC he (j := 32) (tbr32 y)
   have HY := Lib.hid (And.intro hy (HL.out.2.2.1 y (List.mem_of_getElem? hy)))
   clear hy he
   go_upto_region 4 with fail
   by_cases hyk : y.k = k
   ·have HE : Hid (tbFind T k = some y.s.l) := Lib.hid (by rw [← HL.out.2.1, find_tb, find_at HY.out.1 hyk HK.out]; rfl)
    have hdk := decide_eq_true hyk
    clear hyk
    have Lkr := lt_size kr
    have Lkp3 := lt_size kp3
    have Lkg := lt_size kg
    refine wp_pass (C := fun _ _ _ => False) (κ := fun i => [0, 0, 0, 1, 0, 0, 0, 1, 1, 0].getD i 0) [0, 1, 2, 3, 4, 5, 6, 7, 8, 9] (by kernel_rfl) (by kernel_rfl) (fun _ _ d _ _ h => by cases d <;> first | exact h | exact absurd h (hP _ _ _)) ?_
    iterate 10 first | (refine TD.val0 (v := ?_) (by simp only [zK]; rfl) rfl (by rfl) (fun w1 => ?_) ?_; rotate_left; (next => go_simp; try with_reducible rfl); try simp only [zL]) | (refine TD.load (v := ?_) (p := ?_) (Mod.refl _ _) (by simp only [zK]; rfl) rfl (by rfl) rfl ?_ (fun wq hSq => ?_) ?_; rotate_left 2; (next => simp only [zM]; try rfl); (next => have krq := hSq.at kr (fun h => h); have kp3q := hSq.at kp3 (fun h => h); have kgq := hSq.at kg (fun h => h); go_simp; try with_reducible rfl); try simp only [zL])
    refine TD.nil (fun w4 hr => ?_)
    replace kr := hr.mod.at kr (fun h => h)
    replace kp3 := hr.mod.at kp3 (fun h => h)
    replace kg := hr.mod.at kg (fun h => h)
    have HM4 := Lib.hid (HM.out.then0 hr.mod)
    clear hr
    go_upto_region 5 with fail
    obtain ⟨ys, hys⟩ : ∃ n, y.s.l.length = n := ⟨_, rfl⟩
    rw [hys] at hks
    have HYS := Lib.hid hys
    clear hys
    have Lkr := lt_size kr
    have Lkp3 := lt_size kp3
    have Lkg := lt_size kg
    refine wp_pass0 (C := fun _ _ _ => False) (κ := fun i => [0, 0, 0, 1, 0, 0, 0, 1, 5, 0, 0].getD i 0) [0, 1, 2, 3, 4, 5, 6, 7, 8, 9, 10] (by kernel_rfl) (by kernel_rfl) (fun _ _ d _ _ h => by cases d <;> first | exact h | exact absurd h (hP _ _ _)) ?_
    iterate 8 first | (refine TD.val0 (v := ?_) (by simp only [zK]; rfl) rfl (by rfl) (fun w1 => ?_) ?_; rotate_left; (next => go_simp; try with_reducible rfl); try simp only [zL]) | (refine TD.load (v := ?_) (p := ?_) (Mod.refl _ _) (by simp only [zK]; rfl) rfl (by rfl) rfl ?_ (fun wq hSq => ?_) ?_; rotate_left 2; (next => simp only [zM]; try rfl); (next => have krq := hSq.at kr (fun h => h); have kp3q := hSq.at kp3 (fun h => h); have kgq := hSq.at kg (fun h => h); go_simp; try with_reducible rfl); try simp only [zL])
    refine TD.eff (by simp only [zK]; rfl) rfl (fun w5 hr => ?_)
    replace kr := hr.mod.at kr (fun h => h)
    replace kp3 := hr.mod.at kp3 (fun h => h)
    replace kg := hr.mod.at kg (fun h => h)
    have HM5 := Lib.hid (HM4.out.then0 hr.mod)
    obtain ⟨v3, w6, hap, hO, m6, _⟩ := SlOwn.append keysT (c := y.s.c) (SlOwn.nil (f := kc) (n := 32) (E := 82) w5 w5.heap.size) (HY.out.2.1.mod0 HM5.out) (by have := HY.out.2.2.1; simp; omega) (by decide) (Nat.le_refl _) 27
    rw [HYS.out] at hap
    have HF : Hid (Mod (fun _ => False) w w6 ∧ SlOwn kc 32 82 w6 w.heap.size v3 y.s.l) := Lib.hid ⟨HM5.out.then m6 (fun i hi e => by cases e), by simpa using hO.low HM5.out.size⟩
    clear hr hO m6
    (refine eff_append (by simp only [zK]; rfl) (by rfl) rfl ?hx23 ?hz23 hap ?n23; (case hx23 => simp only [zM]; try rfl); (case hz23 => simp only [zM]; try rfl); try simp only [zL])
    (refine TE.val0 (v := ?v24) (by simp only [zK]; rfl) (by rfl) (fun w1 => ?y24) ?n24; (case y24 => go_simp; try with_reducible rfl); try simp only [zL])
    (refine TE.val0 (v := ?v25) (by simp only [zK]; rfl) (by rfl) (fun w1 => ?y25) ?n25; (case y25 => go_simp; try with_reducible rfl); try simp only [zL])
    refine TE.nil ?_
    go_wp2_with fail
    refine bodyPost_ret (results_tmp2 rfl _ _ _) rfl ?_
    refine ⟨HF.out.1, ?_⟩
    rw [HE.out]
    exact ⟨v3, rfl, HF.out.2⟩
   ·have HK2 : Hid (∀ j x, j < i + 1 → L[j]? = some x → x.k ≠ k) := Lib.hid (fun j x hj hx => by
     rcases Nat.lt_succ_iff_lt_or_eq.1 hj with h | h
     ·exact HK.out j x h hx
     ·subst h
      rw [HY.out.1] at hx
      cases hx
      exact hyk)
    have hdk := decide_eq_false hyk
    clear hyk
    have Lkr := lt_size kr
    have Lkp3 := lt_size kp3
    have Lkg := lt_size kg
    refine wp_pass (C := fun _ _ _ => False) (κ := fun i => [0, 0, 0, 1, 0, 0, 0, 1, 1, 0].getD i 0) [0, 1, 2, 3, 4, 5, 6, 7, 8, 9] (by kernel_rfl) (by kernel_rfl) (fun _ _ d _ _ h => by cases d <;> first | exact h | exact absurd h (hP _ _ _)) ?_
    iterate 10 first | (refine TD.val0 (v := ?_) (by simp only [zK]; rfl) rfl (by rfl) (fun w1 => ?_) ?_; rotate_left; (next => go_simp; try with_reducible rfl); try simp only [zL]) | (refine TD.load (v := ?_) (p := ?_) (Mod.refl _ _) (by simp only [zK]; rfl) rfl (by rfl) rfl ?_ (fun wq hSq => ?_) ?_; rotate_left 2; (next => simp only [zM]; try rfl); (next => have krq := hSq.at kr (fun h => h); have kp3q := hSq.at kp3 (fun h => h); have kgq := hSq.at kg (fun h => h); go_simp; try with_reducible rfl); try simp only [zL])
    refine TD.nil (fun w4 hr => ?_)
    replace kr := hr.mod.at kr (fun h => h)
    replace kp3 := hr.mod.at kp3 (fun h => h)
    replace kg := hr.mod.at kg (fun h => h)
    have HM4 := Lib.hid (HM.out.then0 hr.mod)
    clear hr hke hks
    go_wp2_with fail
    go_roundw
    case rel => exact ⟨i + 1, by omega, by go_num, HK2, HM4, kr, kp3⟩
    case measure => simp [intOf]; omega
  ·have hd := decide_eq_false hlt
   have HE : Hid (tbFind T k = none) := Lib.hid (by rw [← HL.out.2.1, find_tb, find_no (fun j x hj => HK.out j x (by have := HN.out; omega))]; rfl)
   clear hlt
   go_wp2_with fail
   refine bodyPost_ret (results_tmp2 rfl _ _ _) rfl ?_
   refine ⟨HM.out, ?_⟩
   rw [HE.out]
   rfl
def RfC (m : Nat) (v v' : Value) (w w' : World) : Prop := Mod (fun i => i = m ∨ v.ownBlock = some i) w w' ∧ (v'.ownBlock = v.ownBlock ∨ ∃ g, v'.ownBlock = some g ∧ w.heap.size ≤ g)
theorem bTbl (k : Key) (a : Option Addr) (l : List Key) (n c : Nat) (hn : l.length = n) (w : World) : (Instr.build 151 #[(0, .agg (kc k)), (1, .slice a n c)]).run Tryz.prog w = .ok (.agg (tbr ⟨k, ⟨a, l, c⟩⟩)) w := by
 subst hn
 refine run_build_struct (z := .agg zTb) (places := #[(0, 32), (32, 1)]) Tryz.underlying151 (fun w => by kernel_rfl) (fun w => by kernel_rfl) ?_ w
 show Instr.fill _ zTb [(0, _), (1, _)] = _
 rw [fill_cons (off := 0) (n := 32) rfl (by simp [Value.cells]) (by rw [zTb_size]; omega), fill_cons (off := 32) (n := 1) rfl rfl (by rw [wr_size, zTb_size]; omega)]
 refine congrArg some ?_
 apply Array.toList_inj.1
 have hk : (kc k).toList.length = 32 := by simp
 rw [wr_list _ _ _ (by rw [wr_size, zTb_size]; simp [Value.cells]), wr_list _ _ _ (by rw [zTb_size]; simp [Value.cells])]
 simp only [Value.cells, List.take_zero, List.nil_append, hk]
 unfold tbr kx zTb
 have h1 : (kc k).toList.take 32 = (kc k).toList := List.take_of_length_le (by omega)
 have h2 : (kc k).toList.drop 33 = [] := List.drop_of_length_le (by omega)
 simp [List.take_append, List.drop_append, hk, h1, h2, tbr, kx]
theorem bsTbl (x : TbR) (w : World) : (Instr.buildSlice 94 1 #[(0, .agg (tbr x))]).run Tryz.prog w = .ok (.slice (some ⟨w.heap.size, 0, none⟩) 1 1) (w.alloc (.cells (tbr x) 151)) := by
 obtain ⟨i0, hi, hz0, hz1, hz2⟩ := info_parts (show (Tryz.prog.info? 151).map (fun i => (i.zero, i.size, i.bytes)) = some (some (.agg zTb), 33, 56) by kernel_rfl)
 refine run_buildSlice w _ _ 1 _ _ i0 _ Tryz.underlying94 hi hz0 (by rw [hz1]; omega) (by rw [hz1]; omega) ?_
 rw [hz1]
 show Instr.fill _ _ [(0, _)] = _
 rw [fill_cons (off := 0) (n := 33) rfl (by simp [Value.cells, tbr_size]) (by simp)]
 show some (wr _ 0 (tbr x).toList) = _
 rw [wr_whole (tbr x) _ (by simp [tbr_size, Value.cells, zTb_size])]
def OwnK (l : List Key) (n b : Nat) (v : Value) : Land := fun T w => ∃ a c, v = .slice a n c ∧ SlOwn kc 32 82 w b (.slice a n c) l ∧ ∀ g, (Value.slice a n c).ownBlock = some g → T g
theorem goodOK (l : List Key) (n b : Nat) (v : Value) : Good (OwnK l n b v) where
 cl := fun T w w' h hm => by
  obtain ⟨a, c, e, h2, h3⟩ := h
  exact ⟨a, c, e, h2.mod hm (fun g hg hn => hn (h3 g hg)), h3⟩
 gr := fun T T' w hT h => by
  obtain ⟨a, c, e, h2, h3⟩ := h
  exact ⟨a, c, e, h2, fun g hg => hT g (h3 g hg)⟩
theorem app_nilK {w : World} {B0 c n : Nat} {q : List Key} {a : Option Addr} {T : Nat → Prop} (hs : SlAt kc 32 w a q) (hq : q.length ≤ 1000000) (hn : q.length = n) (hB : B0 ≤ w.heap.size) : ∃ v w', (Builtin.append_ #[27, 27] 27 #[.slice none 0 0, .slice a n c]).run Tryz.prog w = .ok v w' ∧ Mod (fun _ => False) w w' ∧ OwnK q n B0 v (Grow T w w') w' := by
 subst hn
 obtain ⟨v, w', hap, hO, m, hn⟩ := SlOwn.append keysT (c := c) (SlOwn.nil (f := kc) (n := 32) (E := 82) w B0) hs (by simpa using hq) (by decide) hB 27
 simp only [List.nil_append] at hO
 obtain ⟨a2, c2, e, _⟩ := hO.at keysT
 subst e
 refine ⟨_, w', hap, m.mono (fun _ _ e => by cases e), a2, c2, rfl, hO, fun g hg => ?_⟩
 rcases hn with h | h
 ·rw [hg] at h
  cases h
 ·rw [hg] at h
  cases h
  exact .inr ⟨Nat.le_refl _, (hO.lt _ hg).2⟩
def RowK (b : Nat) (L : List TbR) (v : Value) : Land := fun T w => SlOwn tbr 33 151 w b v L ∧ ∀ g, v.ownBlock = some g → T g
theorem goodRow (b : Nat) (L : List TbR) (v : Value) : Good (RowK b L v) where
 cl := fun T w w' h hm => ⟨h.1.mod hm (fun g hg hn => hn (h.2 g hg)), h.2⟩
 gr := fun T T' w hT h => ⟨h.1, fun g hg => hT g (h.2 g hg)⟩
def BothK (l : List Key) (n bk b : Nat) (L : List TbR) (v u : Value) : Land := fun T w => OwnK l n bk v T w ∧ RowK b L u T w
theorem goodBoth (l : List Key) (n bk b : Nat) (L : List TbR) (v u : Value) : Good (BothK l n bk b L v u) := (goodOK l n bk v).and (goodRow b L u)
def GrwK (l : List Key) (n bk b : Nat) (L : List TbR) (v : Value) (og : Option Nat) (sz : Nat) (u : Value) : Land := fun T w => (OwnK l n bk v T w ∧ RowK b L u T w) ∧ ((∃ a m c, u = .slice a m c) ∧ (u.ownBlock = og ∨ ∃ g, u.ownBlock = some g ∧ sz ≤ g))
theorem goodGrw (l : List Key) (n bk b : Nat) (L : List TbR) (v : Value) (og : Option Nat) (sz : Nat) (u : Value) : Good (GrwK l n bk b L v og sz u) where
 cl := fun T w w' h hm => ⟨(goodBoth l n bk b L v u).cl T w w' h.1 hm, h.2⟩
 gr := fun T T' w hT h => ⟨(goodBoth l n bk b L v u).gr T T' w hT h.1, h.2⟩
theorem keys_keep {b : Nat} {a : Option Addr} {l : List Key} {w w' : World} {S : Nat → Prop} (h : SlAt kc 32 w a l) (hab : l = [] ∨ ∀ g o, a = some ⟨g, o, none⟩ → g < b) (hm : Mod S w w') (hS : ∀ i, i < b → ¬ S i) : SlAt kc 32 w' a l := by
 rcases h with h | ⟨g, o, C, U, fr, ha, hg, hr⟩
 ·exact .inl h
 ·rcases hab with h | h
  ·exact .inl h
  ·exact .inr ⟨g, o, C, U, fr, ha, hm.at hg (hS g (h g o ha)), hr⟩
theorem row_key_ne {b bk : Nat} {L : List TbR} {l : List Key} {u v : Value} {w : World} (h : SlOwn tbr 33 151 w b v L) (h2 : SlOwn kc 32 82 w bk u l) : ∀ g, u.ownBlock = some g → v.ownBlock ≠ some g := fun g hg e => by
 rcases h.2 with ⟨q, _⟩ | ⟨g1, _, cur, q, _, k1, _⟩
 ·rw [q] at e
  cases e
 ·rw [q] at e
  cases e
  rcases h2.2 with ⟨q2, _⟩ | ⟨g2, _, cur2, q2, _, k2, _⟩
  ·rw [q2] at hg
   cases hg
  ·rw [q2] at hg
   cases hg
   rw [k1] at k2
   cases k2
theorem grow_row {l : List Key} {n bk b sz p : Nat} {L : List TbR} {v u : Value} {T : Nat → Prop} {w : World} {x : TbR} (h : BothK l n bk b L v u T w) (hp : w.heap[p]? = some (.cells (tbr x) 151 (0, 0))) (hL : L.length ≤ 1000) (hb : b ≤ w.heap.size) (hs : sz ≤ w.heap.size) :
  ∃ v5 w5, (Builtin.append_ #[94, 94] 94 #[u, .slice (some ⟨p, 0, none⟩) 1 1]).run Tryz.prog w = .ok v5 w5 ∧ Mod T w w5 ∧ GrwK l n bk b (L ++ [x]) v (u.ownBlock) sz v5 (Grow T w w5) w5 := by
 obtain ⟨⟨a1, c1, e1, o1, o2⟩, r1, r2⟩ := h
 obtain ⟨v5, w5, h1, h3, h2, h4⟩ := SlOwn.append tbT (q := [x]) (c := 1) r1 (SlAt.one hp x rfl (tbr_size _)) (by simp; omega) (by decide) hb 94
 obtain ⟨a5, c5, e5, _⟩ := h3.at tbT
 refine ⟨v5, w5, h1, h2.mono (fun i _ e => r2 i e), ⟨⟨a1, c1, e1, o1.mod h2 (fun g hg e => row_key_ne r1 o1 g hg e), fun g hg => .inl (o2 g hg)⟩, h3, fun g hg => ?_⟩, ⟨a5, _, c5, e5⟩, ?_⟩
 ·rcases h4 with h4 | h4
  ·rw [h4] at hg
   exact .inl (r2 g hg)
  ·rw [h4] at hg
   cases hg
   exact .inr ⟨Nat.le_refl _, (h3.lt _ h4).2⟩
 ·rcases h4 with h4 | h4
  ·exact .inl h4
  ·exact .inr ⟨_, h4, hs⟩
set_option maxRecDepth 20000 in
set_option maxHeartbeats 3200000 in
theorem rput_c {b m : Nat} {T : TbL} {v : Value} (k : Key) (a : Option Addr) (l : List Key) (c : Nat) (w : World) (H : RfA b m T v w) (hT : T.length ≤ 1000) (hl : SlAt kc 32 w a l) (hab : l = [] ∨ ∀ g o, a = some ⟨g, o, none⟩ → g < b) (hln : l.length ≤ 1000000) (hb : b ≤ w.heap.size) :
  Calls Tryz.prog 44 #[pV m, .agg (kc k), .slice a l.length c] w fun e w' => (∃ x : Int, e = .returned (.int .i64 x)) ∧ ∃ v', RfA b m (tbPut T k l) v' w' ∧ RfC m v v' w w' := by
 have HG := Lib.hid (And.intro H (And.intro hl hb))
 have HAB := Lib.hid hab
 obtain ⟨n, hn⟩ : ∃ n, l.length = n := ⟨_, rfl⟩
 have HN := Lib.hid hn
 have HT := Lib.hid hT
 rw [hn] at hln ⊢
 clear H hl hb hn hT hab
 go_enter Tryz.func44, Tryz.ntmps44
 go_upto_region 0 with fail
 refine wp_pass0 (C := fun _ _ _ => False) (κ := fun i => [3, 0].getD i 0) [0, 1] (by kernel_rfl) (by kernel_rfl) (fun _ _ d _ _ h => by cases d <;> first | exact h | exact absurd h (hP _ _ _)) ?_
 (refine TD.box (v := ?v36) (by simp only [zK]; rfl) rfl (by rfl) rfl rfl ?hx36 (fun p4 hp4 => ?n36); (case hx36 => simp only [zM]; try rfl); try simp only [zL])
 (refine TD.val0 (v := ?_) (by simp only [zK]; rfl) rfl (by rfl) (fun w1 => ?_) ?_; rotate_left; (next => go_simp; try with_reducible rfl); try simp only [zL])
 refine TD.nil (fun w1 hr => ?_)
 have kp4 := hr.box p4 _ (by first | exact Bx.set_same _ _ _ | (simp only [Bx.set_same]; rfl)); dsimp only [Value.cells] at kp4; obtain ⟨gp4, kp4⟩ := kp4
 have HM1 := Lib.hid hr.mod
 clear hr
 by_cases h0 : n < 1
 ·have hd := decide_eq_true h0
  have hd1 : decide ((n : Int) < 1) = true := decide_eq_true (by omega)
  have HE : Hid (tbPut T k l = T) := Lib.hid (if_pos (.inl (by rw [HN.out]; omega)))
  go_wp2_with fail
  go_ret
  exact ⟨⟨_, rfl⟩, v, by rw [HE.out]; exact HG.out.1.mod0 HM1.out, HM1.out.mono (fun _ _ h => h.elim), .inl rfl⟩
 ·have hd := decide_eq_false h0
  have hd1 : decide ((n : Int) < 1) = false := decide_eq_false (by omega)
  by_cases h2 : 256 < n
  ·have hd2 := decide_eq_true h2
   have hd3 : decide ((n : Int) > 256) = true := decide_eq_true (by omega)
   have HE : Hid (tbPut T k l = T) := Lib.hid (if_pos (.inr (by rw [HN.out]; omega)))
   go_wp2_with fail
   go_ret
   exact ⟨⟨_, rfl⟩, v, by rw [HE.out]; exact HG.out.1.mod0 HM1.out, HM1.out.mono (fun _ _ h => h.elim), .inl rfl⟩
  ·have hd2 := decide_eq_false h2
   have hd3 : decide ((n : Int) > 256) = false := decide_eq_false (by omega)
   have hd4 : decide ((256 : Int) < (n : Int)) = false := decide_eq_false (by omega)
   have HNB : Hid (¬ (l.length = 0 ∨ 256 < l.length) ∧ l.length ≤ 256) := Lib.hid ⟨by rw [HN.out]; omega, by rw [HN.out]; omega⟩
   clear h0 h2
   have hF := rfind_c k w1 (HG.out.1.mod0 HM1.out) (by have := HT.out; omega)
   go_upto_region 3 with fail
   refine region_seq 8 rfl ?_
   simp only [List.range, List.range.loop]
   (refine sq_val (v := ?_) (by simp only [zK]; rfl) (by rfl) ?_ ?_; rotate_left; (next => go_simp; try with_reducible rfl); try simp only [zL])
   (refine sq_load (v := ?v39) (p := ?p39) (by simp only [zK]; rfl) (by rfl) rfl ?hx39 ?y39 ?n39; (case hx39 => simp only [zM]; try rfl); (case y39 => go_simp; try with_reducible rfl); try simp only [zL])
   (refine sq_callT (by simp only [zK]; rfl) (by rfl) ?y40 hF ?hout (fun vn wn hR => ?hret) (fun ch wn hR => ?hpan); (case y40 => (go_simp; (try (first | with_reducible rfl | (constructor <;> with_reducible rfl))))))
   case hout =>
    rintro w' ⟨_, h⟩
    split at h
    ·obtain ⟨_, h, _⟩ := h
     cases h
    ·cases h
   case hpan =>
    exfalso
    obtain ⟨_, h⟩ := hR
    split at h
    ·obtain ⟨_, h, _⟩ := h
     cases h
    ·cases h
   case hret =>
   obtain ⟨hm, hr⟩ := hR
   have HM2 := Lib.hid (HM1.out.trans hm)
   replace kp4 := hm.at0 kp4
   clear hF hm
   cases hf : tbFind T k with
   | some l2 =>
    rw [hf] at hr
    obtain ⟨v2, e0, -⟩ := hr
    cases e0
    have HE : Hid (tbPut T k l = T) := Lib.hid (by unfold tbPut; rw [if_neg HNB.out.1, hf]; rfl)
    clear hf
    (try simp only [zL])
    iterate 5 (refine sq_val (v := ?_) (by simp only [zK]; rfl) (by rfl) ?_ ?_; rotate_left; (next => go_simp; try with_reducible rfl); try simp only [zL])
    refine sq_nil ?_
    go_wp2_with fail
    go_ret
    exact ⟨⟨_, rfl⟩, v, by rw [HE.out]; exact HG.out.1.mod0 HM2.out, HM2.out.mono (fun _ _ h => h.elim), .inl rfl⟩
   | none =>
    rw [hf] at hr
    cases hr
    have HE : Hid (tbPut T k l = T ++ [(k, l)]) := Lib.hid (by unfold tbPut; rw [if_neg HNB.out.1, hf]; rfl)
    clear hf
    (try simp only [zL])
    iterate 5 (refine sq_val (v := ?_) (by simp only [zK]; rfl) (by rfl) ?_ ?_; rotate_left; (next => go_simp; try with_reducible rfl); try simp only [zL])
    refine sq_nil ?_
    obtain ⟨w2, rfl⟩ : ∃ w2 : World, w2 = wn := ⟨_, rfl⟩
    have HR2 := Lib.hid (HG.out.1.mod0 HM2.out)
    obtain ⟨L, kr, hrow, hT, hall, hmb⟩ := HR2.out
    obtain ⟨va, vc, rfl, -⟩ := hrow.at tbT
    obtain ⟨ln, hln2⟩ : ∃ ln, L.length = ln := ⟨_, rfl⟩
    have HL := Lib.hid (And.intro hrow (And.intro hT (And.intro hall (And.intro hmb hln2))))
    rw [hln2] at kr
    have hby := fun a1 c1 => bTbl k a1 l n c1 HN.out
    clear hrow hT hall hmb hln2
    go_upto_region 6 with fail
    have hrow2 := HL.out.1
    rw [HL.out.2.2.2.2] at hrow2
    have hnm : ¬ ((Value.slice va ln vc).ownBlock = some m) := fun e => by
     have := (hrow2.lt m e).1
     have := HL.out.2.2.2.1
     omega
    have hnp : ¬ ((Value.slice va ln vc).ownBlock = some p4) := fun e => by
     rcases hrow2.2 with ⟨h2, _⟩ | ⟨g2, cap, cur, h2, _, h3, _⟩
     ·rw [h2] at e
      cases e
     ·rw [h2] at e
      cases e
      rw [h3] at kp4
      cases kp4
    have HROW := Lib.hid hrow2
    have hl2 := HG.out.2.1.mod0 HM2.out
    have HL2 := Lib.hid hl2
    have hTl : L.length ≤ 1000 := by have := HL.out.2.1; have := congrArg List.length this; rw [List.length_map] at this; have := HT.out; omega
    clear hrow2 hl2
    have Lkr := lt_size kr
    have Lkp4 := lt_size kp4
    refine wp_epass (T0 := fun i => (Value.slice va ln vc).ownBlock = some i) (K := RowK b L (.slice va ln vc)) (κ := fun i => [0, 0, 0, 0, 0, 0, 0, 6, 0, 3, 6, 0, 0, 6].getD i 0) (υ := fun i => [[], [], [], [], [], [], [], [], [], [], [34], [], [], []].getD i []) [0, 1, 2, 3, 4, 5, 6, 7, 8, 9, 10] [11, 12, 13] (by kernel_rfl) (by kernel_rfl) (goodRow b L (.slice va ln vc)).cl (⟨HROW.out, fun g hg => hg⟩) (fun i hi => (HROW.out.lt i hi).2) ?_
    have gK := goodRow b L (.slice va ln vc)
    iterate 4 (refine TG.v0 (v := ?_) (by simp only [zK]; rfl) rfl (by rfl) (fun w1 => ?_) ?_; rotate_left; (next => go_simp; try with_reducible rfl); try simp only [zL])
    (refine TG.load (v := ?v55) (p := ?p55) (by simp only [zK]; rfl) rfl (by rfl) rfl ?hx55 (fun wq hSq => ?y55) ?n55; (case hx55 => simp only [zM]; try rfl); (case y55 => (have krq := hSq.at kr (by intro hT; first | exact hT | exact absurd hT (by assumption) | omega | (simp only at hT; omega)); have kp4q := hSq.at kp4 (by intro hT; first | exact hT | exact absurd hT (by assumption) | omega | (simp only at hT; omega)); go_simp; (try with_reducible rfl))); try simp only [zL])
    (refine TG.load (v := ?v56) (p := ?p56) (by simp only [zK]; rfl) rfl (by rfl) rfl ?hx56 (fun wq hSq => ?y56) ?n56; (case hx56 => simp only [zM]; try rfl); (case y56 => (have krq := hSq.at kr (by intro hT; first | exact hT | exact absurd hT (by assumption) | omega | (simp only at hT; omega)); have kp4q := hSq.at kp4 (by intro hT; first | exact hT | exact absurd hT (by assumption) | omega | (simp only at hT; omega)); go_simp; (try with_reducible rfl))); try simp only [zL])
    (refine TG.v0 (v := ?_) (by simp only [zK]; rfl) rfl (by rfl) (fun w1 => ?_) ?_; rotate_left; (next => go_simp; try with_reducible rfl); try simp only [zL])
    (refine TG.appK (X := ?X58) (Y := ?Y58) (fun v1 => BothK l n w2.heap.size b L v1 (.slice va ln vc)) (fun v1 => goodBoth l n w2.heap.size b L v1 (.slice va ln vc)) (by simp only [zK]; rfl) rfl (by rfl) rfl ?hx58 ?hz58 (fun T wq kq ltq hSq ub => ?y58) ?n58; (case hx58 => simp only [zM]; try rfl); (case hz58 => simp only [zM]; try rfl); (case y58 => (have krq := hSq.at kr (by intro hT; first | exact hT | exact absurd hT (by assumption) | omega | (simp only at hT; omega)); have kp4q := hSq.at kp4 (by intro hT; first | exact hT | exact absurd hT (by assumption) | omega | (simp only at hT; omega)); obtain ⟨v, w', h1, h2, h3⟩ := app_nilK (c := c) (T := T) (n := n) (B0 := w2.heap.size) (keys_keep HL2.out HAB.out hSq (fun i hi e => by have := (HROW.out.lt i e).1; omega)) (by rw [HN.out]; exact hln) HN.out hSq.size; exact ⟨v, w', h1, h2.mono (fun _ _ e => e.elim), h3, kq.1.mod0 h2, fun g hg => .inl (kq.2 g hg)⟩)); rintro v58 ⟨wI, TI, hI⟩; replace gK := (fun v1 => goodBoth l n w2.heap.size b L v1 (.slice va ln vc)) v58; obtain ⟨a1, c1, rfl, -, -⟩ := hI.k.1; (try clear hI TI wI); try simp only [zL])
    (refine TG.build (v := ?v59) (ps := ?p59) (by simp only [zK]; rfl) rfl (by rfl) rfl ?hx59 (fun w1 => ?y59) ?n59; (case hx59 => (simp only [List.map_toArray, List.map_cons, List.map_nil, zM]; (try rfl))); (case y59 => (rw [(hby a1 c1)]; (try with_reducible rfl))); try simp only [zL])
    (refine TG.bslice (by simp only [zK]; rfl) rfl (by rfl) rfl rfl ?hx60 (bsTbl ⟨k, ⟨a1, l, c1⟩⟩) (fun p34 hp34 _ => ?n60); (case hx60 => (simp only [List.map_toArray, List.map_cons, List.map_nil, zM]; (try rfl))); try simp only [zL])
    (refine TG.appK (X := ?X61) (Y := ?Y61) (fun u => GrwK l n w2.heap.size b (L ++ [⟨k, ⟨a1, l, c1⟩⟩]) (.slice a1 n c1) ((Value.slice va ln vc).ownBlock) w2.heap.size u) (fun u => goodGrw l n w2.heap.size b (L ++ [⟨k, ⟨a1, l, c1⟩⟩]) (.slice a1 n c1) ((Value.slice va ln vc).ownBlock) w2.heap.size u) (by simp only [zK]; rfl) rfl (by rfl) rfl ?hx61 ?hz61 (fun T wq kq ltq hSq ub => ?y61) ?n61; (case hx61 => simp only [zM]; try rfl); (case hz61 => simp only [zM]; try rfl); (case y61 => (have krq := hSq.at kr (by intro hT; first | exact hT | exact absurd hT (by assumption) | omega | (simp only at hT; omega)); have kp4q := hSq.at kp4 (by intro hT; first | exact hT | exact absurd hT (by assumption) | omega | (simp only at hT; omega)); have kp34 := ub.box (p := p34) (by first | exact Bx.set_same _ _ _ | (simp only [Bx.set_same]; rfl)) (by first | decide | exact List.mem_singleton.2 rfl | simp); dsimp only [Value.cells] at kp34; have nUp34 := (ub p34 _ (by first | exact Bx.set_same _ _ _ | (simp only [Bx.set_same]; rfl)) (by first | decide | exact List.mem_singleton.2 rfl | simp)).1; exact grow_row kq kp34 hTl (Nat.le_trans HG.out.2.2 (Nat.le_trans HM2.out.size hSq.size)) hSq.size)); rintro v61 ⟨wI, TI, hI⟩; replace gK := (fun u => goodGrw l n w2.heap.size b (L ++ [⟨k, ⟨a1, l, c1⟩⟩]) (.slice a1 n c1) ((Value.slice va ln vc).ownBlock) w2.heap.size u) v61; obtain ⟨a5, q5, c5, rfl⟩ := hI.k.2.1; (try clear hI TI wI); try simp only [zL])
    refine TG.nil (fun w3 ⟨TR, hr⟩ => ?_)
    replace kr := hr.mod.at kr (by intro hT; first | exact hT | exact absurd hT (by assumption) | omega | (simp only at hT; omega))
    replace kp4 := hr.mod.at kp4 (by intro hT; first | exact hT | exact absurd hT (by assumption) | omega | (simp only at hT; omega))
    have kp34 := hr.box p34 _ (by first | exact Bx.set_same _ _ _ | (simp only [Bx.set_same]; rfl)); dsimp only [Value.cells] at kp34; obtain ⟨gp34, nTp34, kp34⟩ := kp34
    clear gK
    obtain ⟨⟨⟨ax, cx, ex, hO1, -⟩, hO5, -⟩, -, hn5⟩ := hr.k
    injection ex with ex1 _ ex3
    subst ex1 ex3
    have HF := Lib.hid (And.intro hO1 (And.intro hO5 (And.intro hn5 hr.mod)))
    have hall3 : ∀ x ∈ L, SlAt kc 32 w3 x.s.a x.s.l ∧ x.s.l.length ≤ 256 ∧ ∀ g o, x.s.a = some ⟨g, o, none⟩ → b ≤ g ∧ g < w3.heap.size ∧ ∃ C, w3.heap[g]? = some (.cells C 82 (0, 0)) := fun x hx => by
     obtain ⟨s1, s2, s3⟩ := HL.out.2.2.1 x hx
     have hne : ∀ g C, w2.heap[g]? = some (.cells C 82 (0, 0)) → ¬ ((Value.slice va ln vc).ownBlock = some g) := fun g C hg e => by
      rcases HROW.out.2 with ⟨h2, _⟩ | ⟨g2, cap, cur, h2, _, h3, _⟩
      ·rw [h2] at e
       cases e
      ·rw [h2] at e
       cases e
       rw [h3] at hg
       cases hg
     refine ⟨?_, s2, fun g o e => ?_⟩
     ·rcases s1 with h | ⟨g, o, C, U, fr, ha, hg, hr2⟩
      ·exact .inl h
      ·obtain ⟨q1, q2, C2, q3⟩ := s3 g o ha
       exact .inr ⟨g, o, C, U, fr, ha, hr.mod.at hg (hne g C2 q3), hr2⟩
     ·obtain ⟨q1, q2, C2, q3⟩ := s3 g o e
      exact ⟨q1, Nat.lt_of_lt_of_le q2 hr.mod.size, C2, hr.mod.at q3 (hne g C2 q3)⟩
    have HALL := Lib.hid hall3
    clear hr hO1 hO5 hn5 hall3 hTl
    (refine TE.val0 (v := ?v62) (by simp only [zK]; rfl) (by rfl) (fun w1 => ?y62) ?n62; (case y62 => go_simp; try with_reducible rfl); try simp only [zL])
    (refine TE.val0 (v := ?v63) (by simp only [zK]; rfl) (by rfl) (fun w1 => ?y63) ?n63; (case y63 => go_simp; try with_reducible rfl); try simp only [zL])
    refine TE.step (by simp only [zK]; rfl) rfl ?_
    (refine eff_store (X := ?X64) (Y := ?Y64) (w' := ?w64) (by simp only [zK]; rfl) (by rfl) rfl ?hx64 ?hz64 ?y64 ?n64; (case hx64 => simp only [zM]; try rfl); (case hz64 => simp only [zM]; try rfl); (case y64 => go_simp; try with_reducible rfl))
    (first | refine TE.nil_set kr (fun wn kr mS => ?_) | refine TE.nil_setCell kr (fun wn kr mS => ?_))
    have HKR := Lib.hid kr
    have HMS := Lib.hid mS
    clear kr mS
    go_wp2_with fail
    go_ret
    obtain ⟨hO1, hO5, hn5, hm3⟩ := HF.out
    have hlen : L.length + 1 = q5 ∨ True := .inr trivial
    refine ⟨⟨_, rfl⟩, .slice a5 q5 c5, ?_, ?_, ?_⟩
    ·rw [HE.out]
     have hkeep : ∀ (x : TbR), SlAt kc 32 w3 x.s.a x.s.l → (∀ g o, x.s.a = some ⟨g, o, none⟩ → b ≤ g ∧ g < w3.heap.size ∧ ∃ C, w3.heap[g]? = some (.cells C 82 (0, 0))) → SlAt kc 32 wn x.s.a x.s.l ∧ ∀ g o, x.s.a = some ⟨g, o, none⟩ → b ≤ g ∧ g < wn.heap.size ∧ ∃ C, wn.heap[g]? = some (.cells C 82 (0, 0)) := fun x s1 s3 => by
      have hne : ∀ g o, x.s.a = some ⟨g, o, none⟩ → ¬ (g = m) := fun g o e e2 => by
       have := (s3 g o e).1
       have := HL.out.2.2.2.1
       omega
      refine ⟨?_, fun g o e => ?_⟩
      ·rcases s1 with h | ⟨g, o, C, U, fr, ha, hg, hr⟩
       ·exact .inl h
       ·exact .inr ⟨g, o, C, U, fr, ha, HMS.out.at hg (hne g o ha), hr⟩
      ·obtain ⟨q1, q2, C2, q3⟩ := s3 g o e
       exact ⟨q1, Nat.lt_of_lt_of_le q2 HMS.out.size, C2, HMS.out.at q3 (hne g o e)⟩
     refine ⟨L ++ [⟨k, ⟨a1, l, c1⟩⟩], by rw [HKR.out]; simp, hO5.mod HMS.out (fun g hg e => ?_), by rw [List.map_append, HL.out.2.1]; rfl, fun x hx => ?_, HL.out.2.2.2.1⟩
     ·have e2 : g = m := e
      have := (hO5.lt g hg).1
      have := HL.out.2.2.2.1
      omega
     ·rcases List.mem_append.1 hx with hx | hx
      ·obtain ⟨s1, s2, s3⟩ := HALL.out x hx
       obtain ⟨r1, r3⟩ := hkeep x s1 s3
       exact ⟨r1, s2, r3⟩
      ·rw [List.mem_singleton.1 hx]
       obtain ⟨a9, c9, e9, s9, _⟩ := hO1.at keysT
       injection e9 with e9 _ _
       obtain ⟨r1, r3⟩ := hkeep ⟨k, ⟨a1, l, c1⟩⟩ (by rw [e9]; exact s9) (fun g o e => by
        have e' : a1 = some ⟨g, o, none⟩ := e
        rcases hO1.2 with ⟨h2, _⟩ | ⟨g2, cap, cur, h2, h4, h3, _⟩
        ·injection h2 with h2
         rw [h2] at e'
         cases e'
        ·injection h2 with h2
         rw [h2] at e'
         cases e'
         exact ⟨Nat.le_trans HG.out.2.2 (Nat.le_trans HM2.out.size h4), lt_size h3, cur, h3⟩)
       exact ⟨r1, HNB.out.2, r3⟩
    ·rw [HL.out.2.2.2.2]
     exact ((HM2.out.mono (fun _ _ h => h.elim)).trans (hm3.mono (fun i _ e => .inr e))).trans (HMS.out.mono (fun i _ e => .inl e))
    ·rcases hn5 with h | ⟨g, h, h2⟩
     ·left
      rw [h, HL.out.2.2.2.2]
     ·exact .inr ⟨g, h, Nat.le_trans HM2.out.size h2⟩
end Go.Proofs.YtiaehkkkcaeaiaaGreatDoor
namespace Go.Proofs.YtiaehkkkcaeaiaaGreatDoor
open Go.RowKit
open Go.ChangeShapes Go.WideShapes Go.ChangeAt
def SlOkN {α : Type} (f : α → Array Value) (n B : Nat) (Ok : World → α → Prop) (w : World) (s : Sl α) : Prop := SlOk f n B Ok w s ∧ s.l.length ≤ s.c ∧ (s.a = none → s.c = 0)
theorem slice_readsN {α H : Type} {enc : TypeId × Value → H} {P : Program} {t e : TypeId} {f : α → Array Value} {n B : Nat} {Ok : World → α → Prop} (ht : P.underlying t = some (.slice e)) (hn : P.cellsOf e = n) (hB : P.bytesOf e = B) (hn0 : 0 < n) (h : Reads enc P e f Ok) (d0 : α) :
  Reads enc P t (slv (α := α)) (SlOkN f n B Ok) := by
 intro w base sp held fuel cs x hx hfit
 obtain ⟨s, hs, hok⟩ := slice_reads ht hn hB hn0 h d0 w base sp held fuel cs x hx hfit
 refine ⟨s, hs, hok, ?_⟩
 rcases DataW.trod_slice ht hx with ⟨hcs, _⟩ | ⟨a, len, cap, elems, rest, m, _, hcs, _, _, hlc, _⟩
 ·rw [hcs] at hs
  have hs : [Value.slice none 0 0] = [.slice s.a s.l.length s.c] := congrArg Array.toList hs
  simp only [List.cons.injEq, Value.slice.injEq, and_true] at hs
  obtain ⟨h1, h2, h3⟩ := hs
  exact ⟨by omega, fun _ => h3.symm⟩
 ·rw [hcs] at hs
  have hs : [Value.slice (some a) len cap] = [.slice s.a s.l.length s.c] := congrArg Array.toList hs
  simp only [List.cons.injEq, Value.slice.injEq, and_true] at hs
  obtain ⟨h1, h2, h3⟩ := hs
  exact ⟨by omega, fun e => by rw [e] at h1; cases h1⟩
section
variable {H : Type} {enc : TypeId × Value → H}
theorem keysN_reads : Reads enc Tryz.prog 27 (slv (α := Key)) (SlOkN kc 32 32 (fun _ _ => True)) :=
 slice_readsN Tryz.underlying27 (by kernel_rfl) (by kernel_rfl) (by omega) key_reads key0
def TaOk (w : World) (x : TbR) : Prop := SlOkN kc 32 32 (fun _ _ => True) w x.s
theorem ta_reads : Reads enc Tryz.prog 93 tbr TaOk := fun w base sp held fuel cs x h hfit => by
 obtain ⟨a0, h0, k0⟩ := field_read 0 0 32 Tryz.underlying93 rfl (by kernel_rfl) key_reads h hfit
 obtain ⟨a1, h1, k1⟩ := field_read 1 32 1 Tryz.underlying93 rfl (by kernel_rfl) keysN_reads h hfit
 have hl := len_of (n := 33) Tryz.underlying93 (by kernel_rfl) h
 refine ⟨⟨a0, a1⟩, ?_, k1⟩
 apply Array.toList_inj.1
 show cs = _
 have e := cut_at cs 0 32
 rw [cut_at cs (0 + 32) 1, h0, h1, end_at (n := 0 + 32 + 1) hl] at e
 refine e.trans ?_
 simp [tbr, kx, slv, Sl.v]
theorem tas_reads : Reads enc Tryz.prog 51 (slv (α := TbR)) (SlOk tbr 33 56 TaOk) :=
 slice_reads Tryz.underlying51 (by kernel_rfl) (by kernel_rfl) (by omega) ta_reads ⟨key0, ⟨none, [], 0⟩⟩
end
end Go.Proofs.YtiaehkkkcaeaiaaGreatDoor
namespace Go.Proofs.YtiaehkkkcaeaiaaGreatDoor
open Go.RowKit
open Go.ChangeMaps (setBlock)
attribute [local go_sem ↓] wlKey ldKey stKey ldSg stSg wlTc ldTc stTc eqKey1
attribute [local go_sem] cell_blk frozen_blk kc_ext one_int one_bool one_ptr one_slice one_map kc_one kc_one0 kc_size zKey_size sgc_size sgc_ext sgc_one0 sgc_one' txr_size txr_all txr_one txr_one' txr0 txr38 txr39 txr0' txr38' txr39' zTx_size Value.cells
attribute [local go_sem] tbr_size zTb_size
def greatB (n : Nat) (l : List TbR) : Bool := decide (5000 < n) || (decide (20 < l.length) || l.any (fun x => decide (400 < x.s.l.length)))
set_option maxRecDepth 20000 in
set_option maxHeartbeats 3200000 in
theorem great_c (ba : Option Addr) (bn bc : Nat) (a : Option Addr) (l : List TbR) (c : Nat) (w : World) (hl : SlAt tbr 33 w a l) :
  Calls Tryz.prog 11 #[.slice ba bn bc, .slice a l.length c] w fun e w' => e = .returned (.bool (greatB bn l)) ∧ Mod (fun _ => False) w w' := by
 have HL := Lib.hid hl
 obtain ⟨n, hn⟩ : ∃ n, l.length = n := ⟨_, rfl⟩
 have HN := Lib.hid hn
 rw [hn]
 clear hl hn
 go_enter Tryz.func11, Tryz.ntmps11
 by_cases h1 : 5000 < bn
 ·have hd := decide_eq_true h1
  have hd1 : decide ((bn : Int) > 5000) = true := decide_eq_true (by omega)
  have HE : Hid (greatB bn l = true) := Lib.hid (by unfold greatB; rw [hd]; rfl)
  go_wp2_with fail
  go_ret
  exact ⟨by rw [HE.out]; rfl, Mod.refl _ _⟩
 ·have hd := decide_eq_false h1
  have hd1 : decide ((bn : Int) > 5000) = false := decide_eq_false (by omega)
  have hd1' : decide ((5000 : Int) < (bn : Int)) = false := decide_eq_false (by omega)
  by_cases h2 : 20 < n
  ·have hd2 := decide_eq_true h2
   have hd3 : decide ((n : Int) > 20) = true := decide_eq_true (by omega)
   have HE : Hid (greatB bn l = true) := Lib.hid (by unfold greatB; rw [hd, HN.out, hd2]; rfl)
   go_wp2_with fail
   go_ret
   exact ⟨by rw [HE.out]; rfl, Mod.refl _ _⟩
  ·have hd2 := decide_eq_false h2
   have hd3 : decide ((n : Int) > 20) = false := decide_eq_false (by omega)
   have hd4 : decide ((20 : Int) < (n : Int)) = false := decide_eq_false (by omega)
   have HE : Hid (greatB bn l = l.any (fun x => decide (400 < x.s.l.length))) := Lib.hid (by unfold greatB; rw [hd, HN.out, hd2]; rfl)
   have hnb : n ≤ 20 := by omega
   clear h1 h2
   go_wp2_with fail
   clear hd hd1 hd1' hd2 hd3 hd4
   go_loopw [5] (fun s5 ws => ∃ i : Nat, i ≤ n ∧ s5 = .int .i64 (i : Int) ∧ Hid ((l.take i).any (fun x => decide (400 < x.s.l.length)) = false) ∧ Hid (Mod (fun _ => False) w ws)) (fun s5 _ => n - (intOf s5).toNat)
   case atStart => exact ⟨0, Nat.zero_le _, rfl, Lib.hid rfl, Lib.hid (Mod.refl _ _)⟩
   case round =>
    obtain ⟨i, hi, rfl, HA, HM⟩ := hrel
    by_cases hlt : i < n
    ·have hd := decide_eq_true hlt
     obtain ⟨y, hy⟩ : ∃ y, l[i]? = some y := ⟨_, List.getElem?_eq_getElem (by have := HN.out; omega)⟩
     obtain ⟨g, o, C, U, fr, rfl, kg, he, hle⟩ := (HL.out.mod0 HM.out).block hy
     obtain ⟨ys, hys⟩ : ∃ n, y.s.l.length = n := ⟨_, rfl⟩
     have hks : C[o + i * 33 + 32]? = some (.slice y.s.a ys y.s.c) := by rw [← hys]; exact cellC he (j := 32) (tbr32 y)
     have HY := Lib.hid (And.intro hy hys)
     clear hy he hys
     by_cases h4 : 400 < ys
     ·have h5 := decide_eq_true h4
      have h6 : decide ((ys : Int) > 400) = true := decide_eq_true (by omega)
      have HF : Hid (greatB bn l = true) := Lib.hid (by rw [HE.out]; exact List.any_eq_true.2 ⟨y, List.mem_of_getElem? HY.out.1, by rw [HY.out.2]; exact h5⟩)
      clear h4
      go_upto_region 6 with fail
      have Lkg := lt_size kg
      refine wp_pass0 (C := fun _ _ _ => False) (κ := fun i => [0, 0, 0, 0, 1, 0, 0].getD i 0) [0, 1, 2, 3, 4, 5, 6] (by kernel_rfl) (by kernel_rfl) (fun _ _ d _ _ h => by cases d <;> first | exact h | exact absurd h (hP _ _ _)) ?_
      iterate 7 first | (refine TD.val0 (v := ?_) (by simp only [zK]; rfl) rfl (by rfl) (fun w1 => ?_) ?_; rotate_left; (next => go_simp; try with_reducible rfl); try simp only [zL]) | (refine TD.load (v := ?_) (p := ?_) (Mod.refl _ _) (by simp only [zK]; rfl) rfl (by rfl) rfl ?_ (fun wq hSq => ?_) ?_; rotate_left 2; (next => simp only [zM]; try rfl); (next => have kgq := hSq.at kg (fun h => h); go_simp; try with_reducible rfl); try simp only [zL])
      refine TD.nil (fun w4 hr => ?_)
      replace kg := hr.mod.at kg (fun h => h)
      have HM4 := Lib.hid (HM.out.then0 hr.mod)
      clear hr
      go_wp2_with fail
      go_ret
      exact ⟨by rw [HF.out]; rfl, HM4.out⟩
     ·have h5 := decide_eq_false h4
      have h6 : decide ((ys : Int) > 400) = false := decide_eq_false (by omega)
      have h7 : decide ((400 : Int) < (ys : Int)) = false := decide_eq_false (by omega)
      have HA2 : Hid ((l.take (i + 1)).any (fun x => decide (400 < x.s.l.length)) = false) := Lib.hid (by
       rw [List.take_add_one, HY.out.1, List.any_append, HA.out]
       simp [HY.out.2]
       omega)
      clear h4
      go_upto_region 6 with fail
      have Lkg := lt_size kg
      refine wp_pass0 (C := fun _ _ _ => False) (κ := fun i => [0, 0, 0, 0, 1, 0, 0].getD i 0) [0, 1, 2, 3, 4, 5, 6] (by kernel_rfl) (by kernel_rfl) (fun _ _ d _ _ h => by cases d <;> first | exact h | exact absurd h (hP _ _ _)) ?_
      iterate 7 first | (refine TD.val0 (v := ?_) (by simp only [zK]; rfl) rfl (by rfl) (fun w1 => ?_) ?_; rotate_left; (next => go_simp; try with_reducible rfl); try simp only [zL]) | (refine TD.load (v := ?_) (p := ?_) (Mod.refl _ _) (by simp only [zK]; rfl) rfl (by rfl) rfl ?_ (fun wq hSq => ?_) ?_; rotate_left 2; (next => simp only [zM]; try rfl); (next => have kgq := hSq.at kg (fun h => h); go_simp; try with_reducible rfl); try simp only [zL])
      refine TD.nil (fun w4 hr => ?_)
      replace kg := hr.mod.at kg (fun h => h)
      have HM4 := Lib.hid (HM.out.then0 hr.mod)
      clear hr hks
      go_wp2_with fail
      go_roundw
      case rel => exact ⟨i + 1, by omega, by go_num, HA2, HM4⟩
      case measure => simp [intOf]; omega
    ·have hd := decide_eq_false hlt
     have HF : Hid (greatB bn l = false) := Lib.hid (by
      rw [HE.out]
      have := HA.out
      rw [List.take_of_length_le (by have := HN.out; omega)] at this
      exact this)
     clear hlt
     go_wp2_with fail
     go_ret
     exact ⟨by rw [HF.out]; rfl, HM.out⟩
def laidT (l : List TbR) : TbL := l.foldl (fun T x => tbPut T x.k x.s.l) []
theorem laidT_snoc {l : List TbR} {i : Nat} {x : TbR} (h : l[i]? = some x) : laidT (l.take (i + 1)) = tbPut (laidT (l.take i)) x.k x.s.l := by
 unfold laidT
 rw [List.take_add_one, h]
 simp
theorem tbPut_len (T : TbL) (k : Key) (l : List Key) : (tbPut T k l).length ≤ T.length + 1 := by
 unfold tbPut
 split
 ·omega
 ·split
  ·omega
  ·simp
theorem laidT_len (l : List TbR) (i : Nat) : (laidT (l.take i)).length ≤ i := by
 induction i with
 | zero => simp [laidT]
 | succ i ih =>
  by_cases h : i < l.length
  ·rw [laidT_snoc (List.getElem?_eq_getElem h)]
   have := tbPut_len (laidT (l.take i)) (l[i]).k (l[i]).s.l
   omega
  ·have e1 : l.take (i + 1) = l := List.take_of_length_le (by omega)
   have e2 : l.take i = l := List.take_of_length_le (by omega)
   rw [e1]
   rw [e2] at ih
   omega
theorem RegA.modY {b h r : Nat} {T : TbL} {w w' : World} {S : Nat → Prop} (H : RegA b h r T w) (hm : Mod S w w') (hS : ∀ i, S i → ∃ C E, w.heap[i]? = some (.cells C E (0, 0)) ∧ E ≠ 48 ∧ E ≠ 82) : RegA b h r T w' := by
 obtain ⟨M, H1, H2, H3, H4, H5⟩ := H
 have hh : ¬ S h := fun s => by
  obtain ⟨C, E, hC, _⟩ := hS h s
  obtain ⟨_, es, c, k2, _⟩ := H1
  rw [hC] at k2
  cases k2
 have hr : ¬ S r := fun s => by
  obtain ⟨C, E, hC, hE, _⟩ := hS r s
  have k2 := H1.1
  rw [hC] at k2
  cases k2
  exact hE rfl
 refine ⟨M, H1.mod hm hh hr, H2, fun x hx => ⟨(H3 x hx).1.mod hm (fun g hg s => ?_), (H3 x hx).2⟩, H4, H5⟩
 obtain ⟨C, E, hC, _, hE⟩ := hS g s
 obtain ⟨C2, hk⟩ := (H3 x hx).1.ty hg
 rw [hC] at hk
 cases hk
 exact hE rfl
theorem RfA.ty {b m : Nat} {T : TbL} {v : Value} {w : World} (H : RfA b m T v w) : ∀ i, (i = m ∨ v.ownBlock = some i) → ∃ C E, w.heap[i]? = some (.cells C E (0, 0)) ∧ E ≠ 48 ∧ E ≠ 82 := fun i hi => by
 obtain ⟨L, k1, k2, _⟩ := H
 rcases hi with rfl | hi
 ·exact ⟨_, _, k1, by decide, by decide⟩
 ·rcases k2.2 with ⟨q, _⟩ | ⟨g, _, cur, q, _, k, _⟩
  ·rw [q] at hi
   cases hi
  ·rw [q] at hi
   cases hi
   exact ⟨_, _, k, by decide, by decide⟩
theorem RfA.modM {b m h : Nat} {T : TbL} {v : Value} {w w' : World} {es : Array MapEntry} {c : Nat} (H : RfA b m T v w) (hm : Mod (fun i => i = h) w w') (hh : w.heap[h]? = some (.map es c)) : RfA b m T v w' :=
 H.mod hm (fun e => by
  obtain ⟨C, E, hC, _⟩ := H.ty m (.inl rfl)
  rw [e, hh] at hC
  cases hC) (fun g hg e => by
  obtain ⟨C, E, hC, _⟩ := H.ty g (.inr hg)
  rw [e, hh] at hC
  cases hC) (fun g C _ hg e => by
  rw [e, hh] at hg
  cases hg)
theorem bRf0 (w : World) : (Instr.build 96 #[]).run Tryz.prog w = .ok (.agg #[.slice none 0 0]) w := by kernel_rfl
def TaF (w : World) (x : TbR) : Prop := SlAt kc 32 w x.s.a x.s.l ∧ x.s.l.length ≤ 400 ∧ (x.s.a = none → x.s.c = 0) ∧ (x.s.l = [] ∨ ∀ g o, x.s.a = some ⟨g, o, none⟩ → g < w.heap.size)
set_option maxRecDepth 20000 in
set_option maxHeartbeats 3200000 in
theorem laid_c (a : Option Addr) (l : List TbR) (c : Nat) (w : World) (hl : SlAt tbr 33 w a l) (hall : ∀ x ∈ l, TaF w x) (hlen : l.length ≤ 40) :
  Calls Tryz.prog 12 #[.slice a l.length c] w fun e w' => ∃ h r m b v, e = .returned (.tuple #[pV r, pV m]) ∧ RegA w.heap.size h r (laidT l) w' ∧ RfA b m (laidT l) v w' ∧ w.heap.size ≤ m ∧ Mod (fun _ => False) w w' := by
 have HL := Lib.hid (And.intro hl hall)
 obtain ⟨n, hn⟩ : ∃ n, l.length = n := ⟨_, rfl⟩
 have HN := Lib.hid hn
 rw [hn] at hlen ⊢
 have hb0 := bRf0
 clear hl hall hn
 go_enter Tryz.func12, Tryz.ntmps12
 go_wp2_with fail
 go_at_call 33
 refine (newT_c _).mono ?_
 rintro e w1 ⟨h, r, rfl, hRA, m1⟩
 have HRA := Lib.hid hRA
 have HM1 := Lib.hid m1
 clear hRA m1
 go_upto_region 2 with fail
 refine wp_pass0 (C := fun _ _ _ => False) (κ := fun i => [0, 3, 0].getD i 0) [0, 1, 2] (by kernel_rfl) (by kernel_rfl) (fun _ _ d _ _ h => by cases d <;> first | exact h | exact absurd h (hP _ _ _)) ?_
 (refine TD.build (v := ?v15) (ps := ?p15) (by simp only [zK]; rfl) rfl (by rfl) rfl ?hx15 (fun w1 => ?y15) ?n15; (case hx15 => (simp only [List.map_toArray, List.map_cons, List.map_nil, zM]; (try rfl))); (case y15 => (rw [hb0]; (try with_reducible rfl))); try simp only [zL])
 (refine TD.box (v := ?v16) (by simp only [zK]; rfl) rfl (by rfl) rfl rfl ?hx16 (fun p9 hp9 => ?n16); (case hx16 => simp only [zM]; try rfl); try simp only [zL])
 (refine TD.val0 (v := ?_) (by simp only [zK]; rfl) rfl (by rfl) (fun w1 => ?_) ?_; rotate_left; (next => go_simp; try with_reducible rfl); try simp only [zL])
 refine TD.nil (fun w2 hr => ?_)
 have kp9 := hr.box p9 _ (by first | exact Bx.set_same _ _ _ | (simp only [Bx.set_same]; rfl)); dsimp only [Value.cells] at kp9; obtain ⟨gp9, kp9⟩ := kp9
 have HS : Hid (RegA w.heap.size h r (laidT (l.take 0)) w2 ∧ RfA (p9 + 1) p9 (laidT (l.take 0)) (.slice none 0 0) w2 ∧ p9 + 1 ≤ w2.heap.size ∧ w.heap.size ≤ p9 ∧ Mod (fun _ => False) w w2) := Lib.hid ⟨HRA.out.mod0 hr.mod, ⟨[], kp9, SlOwn.nil _ _, rfl, fun x hx => (by cases hx), by omega⟩, lt_size kp9, Nat.le_trans HM1.out.size gp9, HM1.out.then0 hr.mod⟩
 clear hr kp9 gp9
 go_wp2_with fail
 go_loopw [6] (fun s6 ws => ∃ (i : Nat) (v : Value), i ≤ n ∧ s6 = .int .i64 (i : Int) ∧ Hid (RegA w.heap.size h r (laidT (l.take i)) ws ∧ RfA (p9 + 1) p9 (laidT (l.take i)) v ws ∧ p9 + 1 ≤ ws.heap.size ∧ w.heap.size ≤ p9 ∧ Mod (fun _ => False) w ws)) (fun s6 _ => n - (intOf s6).toNat)
 case atStart => exact ⟨0, _, Nat.zero_le _, rfl, HS⟩
 case round =>
  clear HS
  obtain ⟨i, v, hi, rfl, HS⟩ := hrel
  by_cases hlt : i < n
  ·have hd := decide_eq_true hlt
   obtain ⟨y, hy⟩ : ∃ y, l[i]? = some y := ⟨_, List.getElem?_eq_getElem (by have := HN.out; omega)⟩
   obtain ⟨g, o, C, U, fr, rfl, kg, he, hle⟩ := (HL.out.1.mod0 HS.out.2.2.2.2).block hy
   obtain ⟨ys, hys⟩ : ∃ n, y.s.l.length = n := ⟨_, rfl⟩
   have hks : C[o + i * 33 + 32]? = some (.slice y.s.a ys y.s.c) := by rw [← hys]; exact cellC he (j := 32) (tbr32 y)
   have hke := row_head he (tbr_key y) (by omega)
   have hle2 : o + i * 33 + 32 ≤ C.size := by omega
   have HY := Lib.hid (And.intro hy (And.intro hys (HL.out.2 y (List.mem_of_getElem? hy))))
   clear hy he hys
   go_upto_region 6 with fail
   have Lkg := lt_size kg
   refine wp_pass (C := fun _ _ _ => False) (κ := fun i => [0, 0, 0, 0, 0, 1, 0, 0, 0, 0, 1, 5].getD i 0) [0, 1, 2, 3, 4, 5, 6, 7, 8, 9, 10, 11] (by kernel_rfl) (by kernel_rfl) (fun _ _ d _ _ h => by cases d <;> first | exact h | exact absurd h (hP _ _ _)) ?_
   iterate 11 first | (refine TD.val0 (v := ?_) (by simp only [zK]; rfl) rfl (by rfl) (fun w1 => ?_) ?_; rotate_left; (next => go_simp; try with_reducible rfl); try simp only [zL]) | (refine TD.load (v := ?_) (p := ?_) (Mod.refl _ _) (by simp only [zK]; rfl) rfl (by rfl) rfl ?_ (fun wq hSq => ?_) ?_; rotate_left 2; (next => simp only [zM]; try rfl); (next => have kgq := hSq.at kg (fun h => h); go_simp; try with_reducible rfl); try simp only [zL])
   refine TD.eff (by simp only [zK]; rfl) rfl (fun w4 hr => ?_)
   replace kg := hr.mod.at kg (fun h => h)
   have HS4 := Lib.hid (show RegA w.heap.size h r (laidT (l.take i)) w4 ∧ RfA (p9 + 1) p9 (laidT (l.take i)) v w4 ∧ Mod (fun _ => False) w w4 from ⟨HS.out.1.mod0 hr.mod, HS.out.2.1.mod0 hr.mod, HS.out.2.2.2.2.then0 hr.mod⟩)
   have HMS := Lib.hid hr.mod.size
   have hC := putT_c y.k y.s.a y.s.l y.s.c w4 HS4.out.1 (HY.out.2.2.1.mod0 HS4.out.2.2) HY.out.2.2.2.2.1 (by have := HY.out.2.2.2.1; omega)
   rw [HY.out.2.1] at hC
   clear hr
   (refine eff_callT (by simp only [zK]; rfl) (by rfl) ?y30 hC ?hout (fun vn wn hR => ?hret) (fun ch wn hR => ?hpan); (case y30 => (go_simp; (try (first | with_reducible rfl | (constructor <;> with_reducible rfl))))))
   case hout =>
    rintro w' ⟨h, _⟩
    cases h
   case hpan =>
    obtain ⟨h, _⟩ := hR
    cases h
   case hret =>
   obtain ⟨e0, hRA5, hm5⟩ := hR
   cases e0
   obtain ⟨M4, hM4, _⟩ := HS4.out.1
   obtain ⟨_, es, cl, kh, _⟩ := hM4
   have HS5 := Lib.hid (show RegA w.heap.size h r (laidT (l.take (i + 1))) wn ∧ RfA (p9 + 1) p9 (laidT (l.take i)) v wn ∧ p9 + 1 ≤ wn.heap.size ∧ Mod (fun _ => False) w wn from
    ⟨by rw [laidT_snoc HY.out.1]; exact hRA5, HS4.out.2.1.modM hm5 kh, Nat.le_trans HS.out.2.2.1 (Nat.le_trans HMS.out hm5.size), HS4.out.2.2.then hm5 (fun j hj e => by
     obtain ⟨_, _, _, _, h5, _⟩ := hRA5
     have : j = h := e
     omega)⟩)
   clear hC hRA5 hm5 kh
   (try simp only [zL])
   refine TE.nil ?_
   obtain ⟨w5, rfl⟩ : ∃ w5 : World, w5 = wn := ⟨_, rfl⟩
   obtain ⟨g2, o2, C2, U2, fr2, hga2, kg2, he2, hle3⟩ := (HL.out.1.mod0 HS5.out.2.2.2).block HY.out.1
   cases hga2
   have hks2 : C2[o + i * 33 + 32]? = some (.slice y.s.a ys y.s.c) := by rw [← HY.out.2.1]; exact cellC he2 (j := 32) (tbr32 y)
   have hke2 := row_head he2 (tbr_key y) (by omega)
   have hle4 : o + i * 33 + 32 ≤ C2.size := by omega
   clear kg he2 hks hke hle hle2
   go_upto_region 7 with fail
   have Lkg2 := lt_size kg2
   refine wp_pass (C := fun _ _ _ => False) (κ := fun i => [0, 0, 0, 0, 0, 1, 0, 0, 0, 0, 1, 5].getD i 0) [0, 1, 2, 3, 4, 5, 6, 7, 8, 9, 10, 11] (by kernel_rfl) (by kernel_rfl) (fun _ _ d _ _ h => by cases d <;> first | exact h | exact absurd h (hP _ _ _)) ?_
   iterate 11 first | (refine TD.val0 (v := ?_) (by simp only [zK]; rfl) rfl (by rfl) (fun w1 => ?_) ?_; rotate_left; (next => go_simp; try with_reducible rfl); try simp only [zL]) | (refine TD.load (v := ?_) (p := ?_) (Mod.refl _ _) (by simp only [zK]; rfl) rfl (by rfl) rfl ?_ (fun wq hSq => ?_) ?_; rotate_left 2; (next => simp only [zM]; try rfl); (next => have kg2q := hSq.at kg2 (fun h => h); go_simp; try with_reducible rfl); try simp only [zL])
   refine TD.eff (by simp only [zK]; rfl) rfl (fun w6 hr => ?_)
   replace kg2 := hr.mod.at kg2 (fun h => h)
   have HS6 := Lib.hid (show RegA w.heap.size h r (laidT (l.take (i + 1))) w6 ∧ RfA (p9 + 1) p9 (laidT (l.take i)) v w6 ∧ p9 + 1 ≤ w6.heap.size ∧ Mod (fun _ => False) w w6 from ⟨HS5.out.1.mod0 hr.mod, HS5.out.2.1.mod0 hr.mod, Nat.le_trans HS5.out.2.2.1 hr.mod.size, HS5.out.2.2.2.then0 hr.mod⟩)
   have hC := rput_c y.k y.s.a y.s.l y.s.c w6 HS6.out.2.1 (by have := laidT_len l i; omega) (HY.out.2.2.1.mod0 HS6.out.2.2.2) (by
    rcases HY.out.2.2.2.2.2 with h | h
    ·exact .inl h
    ·exact .inr (fun g o e => by have := h g o e; have := HS.out.2.2.2.1; omega)) (by have := HY.out.2.2.2.1; omega) HS6.out.2.2.1
   rw [HY.out.2.1] at hC
   clear hr kg2 hks2 hke2 hle3 hle4
   (refine eff_callT (by simp only [zK]; rfl) (by rfl) ?y43 hC ?hout (fun vn wn hR => ?hret) (fun ch wn hR => ?hpan); (case y43 => (go_simp; (try (first | with_reducible rfl | (constructor <;> with_reducible rfl))))))
   case hout =>
    rintro w' ⟨⟨_, h⟩, _⟩
    cases h
   case hpan =>
    obtain ⟨⟨_, h⟩, _⟩ := hR
    cases h
   case hret =>
   obtain ⟨⟨x, e0⟩, v7, hRf, hC7⟩ := hR
   cases e0
   have hms7 := hC7.1.size
   have HS7 : Hid (RegA w.heap.size h r (laidT (l.take (i + 1))) wn ∧ RfA (p9 + 1) p9 (laidT (l.take (i + 1))) v7 wn ∧ p9 + 1 ≤ wn.heap.size ∧ w.heap.size ≤ p9 ∧ Mod (fun _ => False) w wn) := Lib.hid ⟨HS6.out.1.modY hC7.1 HS6.out.2.1.ty, by rw [laidT_snoc HY.out.1]; exact hRf, Nat.le_trans HS6.out.2.2.1 hms7, HS.out.2.2.2.1, HS6.out.2.2.2.then hC7.1 (fun j hj e => by
    have := HS.out.2.2.2.1
    rcases e with e | e
    ·omega
    ·obtain ⟨L7, _, k2, _, _, k5⟩ := HS6.out.2.1
     have := (k2.lt j e).1
     omega)⟩
   clear hC hRf hC7 hms7
   (try simp only [zL])
   refine TE.nil ?_
   go_wp2_with fail
   go_roundw
   case rel => exact ⟨i + 1, v7, by omega, by go_num, HS7⟩
   case measure => simp [intOf]; omega
  ·have hd := decide_eq_false hlt
   have e : l.take i = l := List.take_of_length_le (by have := HN.out; omega)
   rw [e] at HS
   clear hlt
   go_wp2_with fail
   go_ret2
   exact ⟨h, r, p9, p9 + 1, v, rfl, HS.out.1, HS.out.2.1, HS.out.2.2.2.1, HS.out.2.2.2.2⟩
end Go.Proofs.YtiaehkkkcaeaiaaGreatDoor
namespace Go.Proofs.YtiaehkkkcaeaiaaGreatDoor
open Go.RowKit
open Go.ChangeMaps (setBlock)
attribute [local go_sem] cell_blk frozen_blk one_int one_bool one_ptr one_slice one_map Value.cells
def shP (n : Nat) : List UInt8 := if n < 128 then [UInt8.ofNat n] else if n < 16384 then [UInt8.ofNat (n % 128 + 128), UInt8.ofNat (n / 128)] else [UInt8.ofNat (n % 128 + 128), UInt8.ofNat (n / 128 % 128 + 128), UInt8.ofNat (n / 16384)]
def lisP (l : List UInt8) : List UInt8 := shP l.length ++ l
def putI (i : InP) : List UInt8 := i.p :: (lisP i.a ++ lisP i.d)
def putLk (l : LoP) : List UInt8 := l.t.l ++ (lisP l.w ++ lisP l.r)
def putM (m : MsP) : List UInt8 := (if m.v0 then [128] else []) ++ (m.h0 :: m.h1 :: m.h2 :: (shP m.ks.length ++ (m.ks.flatMap (·.l) ++ (m.rc.l ++ (shP m.ins.length ++ (m.ins.flatMap putI ++ (if m.v0 then shP m.lks.length ++ m.lks.flatMap putLk else [])))))))
def putT (x : TxP) : List UInt8 := shP x.sg.length ++ (x.sg.flatMap (·.l) ++ putM x.m)
theorem ofN {c : UInt8} {n : Nat} (h : n = c.toNat) : UInt8.ofNat n = c := by subst h; simp
theorem gsh_back : ∀ {L : List UInt8}, (gsh 0 0 L).2.2 = 0 → L = shP (gsh 0 0 L).1 ++ L.drop (gsh 0 0 L).2.1
 | [], h => by simp [gsh] at h
 | [c], h => by
  have hc := c.toNat_lt
  by_cases h1 : c.toNat < 128
  ·have e : gsh 0 0 [c] = (c.toNat, 1, 0) := by simp [gsh, h1, Nat.mod_eq_of_lt h1]
   rw [e]
   simp only [shP, if_pos h1, List.drop_succ_cons, List.drop_zero, List.append_nil]
   rw [ofN rfl]
  ·simp [gsh, h1] at h
 | [c, d], h => by
  have hc := c.toNat_lt
  have hd := d.toNat_lt
  by_cases h1 : c.toNat < 128
  ·have e : gsh 0 0 [c, d] = (c.toNat, 1, 0) := by simp [gsh, h1, Nat.mod_eq_of_lt h1]
   rw [e]
   simp only [shP, if_pos h1, List.drop_succ_cons, List.drop_zero, List.cons_append, List.nil_append]
   rw [ofN rfl]
  ·by_cases h0 : d.toNat = 0
   ·simp [gsh, h1, h0] at h
   ·by_cases h2 : d.toNat < 128
    ·have e : gsh 0 0 [c, d] = (c.toNat % 128 + d.toNat * 128, 2, 0) := by simp [gsh, h1, h0, h2, Nat.mod_eq_of_lt h2]
     rw [e]
     simp only [shP]
     rw [if_neg (by omega), if_pos (by omega), ofN (c := c) (by omega), ofN (c := d) (by omega)]
     rfl
    ·simp [gsh, h1, h0, h2] at h
 | c :: d :: f :: R, h => by
  have hc := c.toNat_lt
  have hd := d.toNat_lt
  have hf := f.toNat_lt
  by_cases h1 : c.toNat < 128
  ·have e : gsh 0 0 (c :: d :: f :: R) = (c.toNat, 1, 0) := by simp [gsh, h1, Nat.mod_eq_of_lt h1]
   rw [e]
   simp only [shP, if_pos h1, List.drop_succ_cons, List.drop_zero, List.cons_append, List.nil_append]
   rw [ofN rfl]
  ·by_cases h0 : d.toNat = 0
   ·simp [gsh, h1, h0] at h
   ·by_cases h2 : d.toNat < 128
    ·have e : gsh 0 0 (c :: d :: f :: R) = (c.toNat % 128 + d.toNat * 128, 2, 0) := by simp [gsh, h1, h0, h2, Nat.mod_eq_of_lt h2]
     rw [e]
     simp only [shP]
     rw [if_neg (by omega), if_pos (by omega), ofN (c := c) (by omega), ofN (c := d) (by omega)]
     rfl
    ·by_cases h3 : f.toNat = 0 ∨ 3 < f.toNat
     ·simp [gsh, h1, h0, h2, h3] at h
     ·have h4 : f.toNat < 128 := by omega
      have e : gsh 0 0 (c :: d :: f :: R) = (c.toNat % 128 + d.toNat % 128 * 128 + f.toNat * 16384, 3, 0) := by simp [gsh, h1, h0, h2, h3, h4, Nat.mod_eq_of_lt h4]
      rw [e]
      simp only [shP]
      rw [if_neg (by omega), if_neg (by omega), ofN (c := c) (by omega), ofN (c := d) (by omega), ofN (c := f) (by omega)]
      rfl
theorem bk_byte {l : List UInt8} {k k1 : Nat} {c : UInt8} (h : pByte l k = .ok (c, k1)) : l.drop k = c :: l.drop k1 := by
 unfold pByte at h
 split at h
 ·rename_i d hd
  cases h
  obtain ⟨hi, e⟩ := List.getElem?_eq_some_iff.1 hd
  rw [List.drop_eq_getElem_cons hi, e]
 ·cases h
theorem bk_bytes {l x : List UInt8} {k k1 n : Nat} (h : pBytes l k n = .ok (x, k1)) : l.drop k = x ++ l.drop k1 ∧ x.length = n := by
 unfold pBytes at h
 split at h
 ·cases h
  refine ⟨?_, by rw [List.length_take, List.length_drop]; omega⟩
  rw [← List.drop_drop, List.take_append_drop]
 ·cases h
theorem bk_short {l : List UInt8} {k k1 n : Nat} (h : pShort l k = .ok (n, k1)) : l.drop k = shP n ++ l.drop k1 := by
 unfold pShort at h
 split at h
 ·rename_i h0
  cases h
  have := gsh_back h0
  rw [List.drop_drop] at this
  exact this
 ·cases h
theorem bk_list {l x : List UInt8} {k k1 : Nat} (h : pList l k = .ok (x, k1)) : l.drop k = lisP x ++ l.drop k1 := by
 unfold pList at h
 split at h
 ·rename_i n k2 h2
  obtain ⟨h3, h4⟩ := bk_bytes h
  rw [bk_short h2, h3, lisP, h4, List.append_assoc]
 ·cases h
theorem bk_key {l : List UInt8} {k k1 : Nat} {x : Key} (h : pKey l k = .ok (x, k1)) : l.drop k = x.l ++ l.drop k1 := by
 unfold pKey at h
 split at h
 ·cases h
  show l.drop k = (l.drop k).take 32 ++ l.drop (k + 32)
  rw [← List.drop_drop, List.take_append_drop]
 ·cases h
theorem bk_instr {l : List UInt8} {k k1 : Nat} {x : InP} (h : pInstr l k = .ok (x, k1)) : l.drop k = putI x ++ l.drop k1 := by
 unfold pInstr at h
 split at h
 ·cases h
 ·rename_i q k2 h2
  split at h
  ·cases h
  ·rename_i a k3 h3
   split at h
   ·cases h
   ·rename_i d k4 h4
    cases h
    rw [bk_byte h2, bk_list h3, bk_list h4]
    simp [putI]
theorem bk_look {l : List UInt8} {k k1 : Nat} {x : LoP} (h : pLook l k = .ok (x, k1)) : l.drop k = putLk x ++ l.drop k1 := by
 unfold pLook at h
 split at h
 ·cases h
 ·rename_i q k2 h2
  split at h
  ·cases h
  ·rename_i a k3 h3
   split at h
   ·cases h
   ·rename_i d k4 h4
    cases h
    rw [bk_key h2, bk_list h3, bk_list h4]
    simp [putLk]
theorem bk_rep {α : Type} {l : List UInt8} {one : Nat → PR α} {enc : α → List UInt8} (h1 : ∀ k x k1, one k = .ok (x, k1) → l.drop k = enc x ++ l.drop k1) : ∀ {n k k1 : Nat} {xs : List α}, pRep one n k = .ok (xs, k1) → l.drop k = xs.flatMap enc ++ l.drop k1 ∧ xs.length = n
 | 0, k, k1, xs, h => by
  rw [pRep] at h
  cases h
  exact ⟨rfl, rfl⟩
 | n + 1, k, k1, xs, h => by
  rw [pRep] at h
  split at h
  ·cases h
  ·rename_i x k2 h2
   split at h
   ·cases h
   ·rename_i ys k3 h3
    cases h
    obtain ⟨h4, h5⟩ := bk_rep h1 h3
    exact ⟨by rw [h1 _ _ _ h2, h4, List.flatMap_cons, List.append_assoc], by rw [List.length_cons, h5]⟩
theorem bk_all {α : Type} {l : List UInt8} {one : Nat → PR α} {enc : α → List UInt8} (h1 : ∀ k x k1, one k = .ok (x, k1) → l.drop k = enc x ++ l.drop k1) {k k1 : Nat} {xs : List α} (h : pAll one l k = .ok (xs, k1)) : l.drop k = shP xs.length ++ (xs.flatMap enc ++ l.drop k1) := by
 unfold pAll at h
 split at h
 ·cases h
 ·rename_i n k2 h2
  obtain ⟨h3, h4⟩ := bk_rep h1 h
  rw [bk_short h2, h3, h4]
theorem pBind_inv {α β : Type} {r : PR α} {f : α → Nat → PR β} {y : β × Nat} (h : pBind r f = .ok y) : ∃ x k, r = .ok (x, k) ∧ f x k = .ok y := by
 cases r with
 | error e => cases h
 | ok z => exact ⟨z.1, z.2, rfl, h⟩
theorem bk_msg {l : List UInt8} {k k1 : Nat} {m : MsP} (h : pMsg l k = .ok (m, k1)) : l.drop k = putM m ++ l.drop k1 := by
 unfold pMsg at h
 obtain ⟨c, j1, e1, h⟩ := pBind_inv h
 have b1 := bk_byte e1
 split at h
 ·cases h
 ·rename_i hc
  obtain ⟨h0, j2, e2, h⟩ := pBind_inv h
  obtain ⟨h1, j3, e3, h⟩ := pBind_inv h
  obtain ⟨h2, j4, e4, h⟩ := pBind_inv h
  obtain ⟨ks, j5, e5, h⟩ := pBind_inv h
  obtain ⟨rc, j6, e6, h⟩ := pBind_inv h
  obtain ⟨ins, j7, e7, h⟩ := pBind_inv h
  obtain ⟨lks, j8, e8, h⟩ := pBind_inv h
  cases h
  have b3 := bk_byte e3
  have b4 := bk_byte e4
  have b5 := bk_all (enc := fun x : Key => x.l) (fun _ _ _ h => bk_key h) e5
  have b6 := bk_key e6
  have b7 := bk_all (enc := putI) (fun _ _ _ h => bk_instr h) e7
  by_cases hv : c.toNat = 128
  ·rw [if_pos hv] at e2 e8
   have b2 := bk_byte e2
   have b8 := bk_all (enc := putLk) (fun _ _ _ h => bk_look h) e8
   have hcc : c = 128 := by
    rw [← ofN (c := c) rfl, hv]
    rfl
   rw [b1, b2, b3, b4, b5, b6, b7, b8, hcc]
   simp [putM]
  ·rw [if_neg hv] at e2 e8
   cases e2
   cases e8
   rw [b1, b3, b4, b5, b6, b7]
   simp [putM, hv]
theorem bk_sigs : ∀ {n : Nat} {L R : List UInt8} {S : List Sg}, takeS n L = some (S, R) → L = S.flatMap (·.l) ++ R
 | 0, L, R, S, h => by
  rw [takeS] at h
  cases h
  rfl
 | n + 1, L, R, S, h => by
  rw [takeS] at h
  split at h
  ·cases ht : takeS n (L.drop 64) with
   | none => rw [ht] at h; cases h
   | some y =>
    rw [ht] at h
    cases h
    have := bk_sigs (R := y.2) (S := y.1) ht
    rw [List.flatMap_cons, List.append_assoc, ← this, List.take_append_drop]
  ·cases h
theorem bk_tx {l : List UInt8} {x : TxP} {k : Nat} (h : pTx l = .ok (x, k)) : l = putT x ++ l.drop k := by
 unfold pTx at h
 split at h
 ·rename_i h0
  split at h
  ·cases h
  ·rename_i S R hS
   obtain ⟨m, j, e1, h⟩ := pBind_inv h
   cases h
   have b1 := gsh_back h0
   have b2 := bk_sigs hS
   have b3 := bk_msg e1
   have b4 := takeS_len hS
   rw [List.length_drop] at b4
   rw [List.drop_zero] at b3
   have hn := b4.1
   have hR : R.drop j = l.drop (l.length - R.length + j) := by
    have hRl : R = l.drop (l.length - R.length) := by
     have h5 : l = (shP (gsh 0 0 l).1 ++ S.flatMap (·.l)) ++ R := by rw [List.append_assoc, ← b2]; exact b1
     have h6 := congrArg List.length h5
     rw [List.length_append] at h6
     have h7 : l.length - R.length = (shP (gsh 0 0 l).1 ++ S.flatMap (·.l)).length := by omega
     rw [h7]
     exact (congrArg (List.drop _) h5 |>.trans (List.drop_left)).symm
    conv => lhs; rw [hRl]
    rw [List.drop_drop]
   have h8 : l = shP S.length ++ (S.flatMap (·.l) ++ (putM m ++ R.drop j)) := by
    rw [← b3, ← b2, hn]
    exact b1
   rw [← hR]
   simp only [putT, List.append_assoc]
   exact h8
 ·cases h
end Go.Proofs.YtiaehkkkcaeaiaaGreatDoor
namespace Go.Proofs.YtiaehkkkcaeaiaaGreatDoor
open Go.RowKit
open Go.ChangeMaps (setBlock)
attribute [local go_sem ↓] wlKey ldKey stKey ldSg stSg wlTc ldTc stTc eqKey1
attribute [local go_sem] cell_blk frozen_blk kc_ext one_int one_bool one_ptr one_slice one_map kc_one kc_one0 kc_size zKey_size sgc_size sgc_ext sgc_one0 sgc_one' txr_size txr_all txr_one txr_one' txr0 txr38 txr39 txr0' txr38' txr39' zTx_size Value.cells
attribute [local go_sem ↓] wlMsg ldMsg stMsg ldRole stRole
attribute [local go_sem] mgx_size mgx_ext mgx_one mgx_one0 mg0 mg1 mg2 mg3 mg4 mg37 mg38 mg37' mg38' mgx_hd mgx_hs mg0' mg4' zRole_size
theorem mg1R' {v0 : Bool} {h0 h1 h2 : UInt8} {ka : Option Addr} {kn kc' : Nat} {rc : Key} {ia : Option Addr} {n1 c1 : Nat} {la : Option Addr} {n2 c2 : Nat} (h : 1 < (mgx v0 h0 h1 h2 ka kn kc' rc ia n1 c1 la n2 c2).size) : (mgx v0 h0 h1 h2 ka kn kc' rc ia n1 c1 la n2 c2)[1] = u8v h0 := at_get (mg1 ..) h
theorem mg2R' {v0 : Bool} {h0 h1 h2 : UInt8} {ka : Option Addr} {kn kc' : Nat} {rc : Key} {ia : Option Addr} {n1 c1 : Nat} {la : Option Addr} {n2 c2 : Nat} (h : 2 < (mgx v0 h0 h1 h2 ka kn kc' rc ia n1 c1 la n2 c2).size) : (mgx v0 h0 h1 h2 ka kn kc' rc ia n1 c1 la n2 c2)[2] = u8v h1 := at_get (mg2 ..) h
theorem mg3R' {v0 : Bool} {h0 h1 h2 : UInt8} {ka : Option Addr} {kn kc' : Nat} {rc : Key} {ia : Option Addr} {n1 c1 : Nat} {la : Option Addr} {n2 c2 : Nat} (h : 3 < (mgx v0 h0 h1 h2 ka kn kc' rc ia n1 c1 la n2 c2).size) : (mgx v0 h0 h1 h2 ka kn kc' rc ia n1 c1 la n2 c2)[3] = u8v h2 := at_get (mg3 ..) h
attribute [local go_sem] mg1R' mg2R' mg3R'
theorem bRole3 (k : Key) (a b : Bool) (w : World) : (Instr.build 91 #[(0, .agg (kc k)), (1, .bool a), (2, .bool b)]).run Tryz.prog w = .ok (.agg (rcr ⟨k, a, b⟩)) w := by
 refine run_build_struct (z := .agg zRole) (places := #[(0, 32), (32, 1), (33, 1)]) Tryz.underlying91 (fun w => by kernel_rfl) (fun w => by kernel_rfl) ?_ w
 show Instr.fill _ zRole [(0, _), (1, _), (2, _)] = _
 rw [fill_cons (off := 0) (n := 32) rfl (by simp [Value.cells]) (by rw [zRole_size]; omega), fill_cons (off := 32) (n := 1) rfl (by simp [Value.cells]) (by rw [wr_size, zRole_size]; omega), fill_cons (off := 33) (n := 1) rfl (by simp [Value.cells]) (by rw [wr_size, wr_size, zRole_size]; omega)]
 show some _ = some _
 congr 1
 apply Array.toList_inj.1
 have hk : (kc k).toList.length = 32 := by simp
 rw [wr_list _ _ _ (by rw [wr_size, wr_size, zRole_size]; simp [Value.cells]), wr_list _ _ _ (by rw [wr_size, zRole_size]; simp [Value.cells]), wr_list _ _ _ (by rw [zRole_size]; simp [Value.cells])]
 simp only [Value.cells, List.take_zero, List.nil_append, hk]
 unfold rcr rc kx zRole
 have h1 : (kc k).toList.take 33 = (kc k).toList := List.take_of_length_le (by omega)
 have h2 : (kc k).toList.drop 34 = [] := List.drop_of_length_le (by omega)
 have h3 : (kc k).toList.take 32 = (kc k).toList := List.take_of_length_le (by omega)
 have h4 : (kc k).toList.drop 33 = [] := List.drop_of_length_le (by omega)
 simp [List.take_append, List.drop_append, hk, h1, h2, h3, h4]
theorem bsRole (r : Role) (w : World) : (Instr.buildSlice 36 1 #[(0, .agg (rcr r))]).run Tryz.prog w = .ok (.slice (some ⟨w.heap.size, 0, none⟩) 1 1) (w.alloc (.cells (rcr r) 91)) := by
 obtain ⟨i0, z, hi, hz, hz1, hz2, hz3⟩ := rolesT.info
 refine run_buildSlice w _ _ 1 _ _ i0 _ Tryz.underlying36 hi hz (by rw [hz1]; omega) (by rw [hz1]; omega) ?_
 rw [hz1]
 show Instr.fill _ _ [(0, _)] = _
 have hs : (rcr r).size = 34 := rolesT.size r
 rw [fill_cons (off := 0) (n := 34) rfl (by simp [Value.cells, hs]) (by simp [Value.cells, hz3, size_madeCells])]
 show some (wr _ 0 (rcr r).toList) = _
 rw [wr_whole (rcr r) _ (by simp [Value.cells, hs, hz3, size_madeCells])]
theorem ownL_snoc {m : MsP} {l : List Key} {i : Nat} {k : Key} (h : l[i]? = some k) : (l.take (i + 1)).mapIdx (ownRP m) = (l.take i).mapIdx (ownRP m) ++ [ownRP m i k] := by
 obtain ⟨hi, _⟩ := List.getElem?_eq_some_iff.1 h
 rw [List.take_add_one, h]
 show (l.take i ++ [k]).mapIdx (ownRP m) = _
 rw [List.mapIdx_append]
 simp only [List.mapIdx_cons, List.mapIdx_nil, List.length_take]
 rw [Nat.min_eq_left (by omega)]
 simp
set_option maxRecDepth 20000 in
set_option maxHeartbeats 6400000 in
theorem own_c (x : RdR) (w : World) (hK : SlAt kc 32 w x.ks.a x.ks.l) (hb : x.ks.l.length ≤ 1000000) : Calls Tryz.prog 87 #[.agg (msr x)] w fun e w' => ∃ v, e = .returned v ∧ SlOwn rcr 34 91 w' w.heap.size v (x.ks.l.mapIdx (ownRP (msgP x))) ∧ Mod (fun _ => False) w w' := by
 obtain ⟨n, hn⟩ : ∃ n, x.ks.l.length = n := ⟨_, rfl⟩
 obtain ⟨s, hs⟩ : ∃ s, x.h0.toNat = s := ⟨_, rfl⟩
 obtain ⟨a, ha⟩ : ∃ a, x.h1.toNat = a := ⟨_, rfl⟩
 obtain ⟨c, hc⟩ : ∃ c, x.h2.toNat = c := ⟨_, rfl⟩
 have hsb : s < 256 := by rw [← hs]; exact x.h0.toNat_lt
 have hab : a < 256 := by rw [← ha]; exact x.h1.toNat_lt
 have hcb : c < 256 := by rw [← hc]; exact x.h2.toNat_lt
 have hws : IntKind.i64.wrap (s : Int) = (s : Int) := by rw [IntKind.wrap_i64]; omega
 have hwa : IntKind.i64.wrap (a : Int) = (a : Int) := by rw [IntKind.wrap_i64]; omega
 have hwc : IntKind.i64.wrap (c : Int) = (c : Int) := by rw [IntKind.wrap_i64]; omega
 rw [hn] at hb
 have HX := Lib.hid (And.intro hK (And.intro hn (And.intro hs (And.intro ha hc))))
 have hw1 : IntKind.i64.wrap ((s : Int) - (a : Int)) = (s : Int) - (a : Int) := by rw [IntKind.wrap_i64]; omega
 have hw2 : IntKind.i64.wrap ((n : Int) - (c : Int)) = (n : Int) - (c : Int) := by rw [IntKind.wrap_i64]; omega
 show Calls Tryz.prog 87 #[.agg (mgx x.v0 x.h0 x.h1 x.h2 x.ks.a x.ks.l.length x.ks.c x.rc x.ins.a x.ins.l.length x.ins.c x.lks.a x.lks.l.length x.lks.c)] w _
 rw [hn]
 clear hK
 go_enter Tryz.func87, Tryz.ntmps87
 go_upto_region 0 with fail
 refine wp_pass0 (C := fun _ _ _ => False) (κ := fun i => [3, 0].getD i 0) [0, 1] (by kernel_rfl) (by kernel_rfl) (fun _ _ d _ _ h => by cases d <;> first | exact h | exact absurd h (hP _ _ _)) ?_
 (refine TD.box (v := ?v1) (by simp only [zK]; rfl) rfl (by rfl) rfl rfl ?hx1 (fun p1 hp1 => ?n1); (case hx1 => simp only [zM]; try rfl); try simp only [zL])
 (refine TD.val0 (v := ?_) (by simp only [zK]; rfl) rfl (by rfl) (fun w1 => ?_) ?_; rotate_left; (next => go_simp; try with_reducible rfl); try simp only [zL])
 refine TD.nil (fun w1 hr => ?_)
 have kp1 := hr.box p1 _ (by first | exact Bx.set_same _ _ _ | (simp only [Bx.set_same]; rfl)); dsimp only [Value.cells] at kp1; obtain ⟨gp1, kp1⟩ := kp1
 have HM1 := Lib.hid hr.mod
 have HP1 : Hid (w.heap.size ≤ p1) := Lib.hid gp1
 clear hr
 go_wp2_with fail
 go_loopw [2, 15] (fun s2 s15 ws => ∃ i : Nat, i ≤ n ∧ s15 = .int .i64 (i : Int) ∧ Hid (SlOwn rcr 34 91 ws w.heap.size s2 ((x.ks.l.take i).mapIdx (ownRP (msgP x))) ∧ s2.ownBlock ≠ some p1) ∧ Hid (Mod (fun _ => False) w ws) ∧ ws.heap[p1]? = some (.cells (mgx x.v0 x.h0 x.h1 x.h2 x.ks.a n x.ks.c x.rc x.ins.a x.ins.l.length x.ins.c x.lks.a x.lks.l.length x.lks.c) 33 (0, 0))) (fun _ s15 _ => n - (intOf s15).toNat)
 case atStart => exact ⟨0, Nat.zero_le _, rfl, Lib.hid ⟨SlOwn.nil _ _, fun h => by cases h⟩, HM1, kp1⟩
 case round =>
  clear kp1
  obtain ⟨i, hi, rfl, HO, HM, kp1⟩ := hrel
  by_cases hlt : i < n
  ·have hd := decide_eq_true hlt
   obtain ⟨k, hk⟩ : ∃ k, x.ks.l[i]? = some k := ⟨_, List.getElem?_eq_getElem (by have := HX.out.2.1; omega)⟩
   obtain ⟨g, o, C, U, fr, hga, kg, he, hle⟩ := (HX.out.1.mod0 HM.out).block hk
   have HT := Lib.hid (ownL_snoc (m := msgP x) hk)
   clear hk
   go_upto_region 4 with fail
   have Lkg := lt_size kg
   have Lkp1 := lt_size kp1
   refine wp_pass0 (C := fun _ _ _ => False) (κ := fun i => [0, 0, 1, 3, 0, 4].getD i 0) [0, 1, 2, 3, 4, 5] (by kernel_rfl) (by kernel_rfl) (fun _ _ d _ _ h => by cases d <;> first | exact h | exact absurd h (hP _ _ _)) ?_
   iterate 3 first | (refine TD.val0 (v := ?_) (by simp only [zK]; rfl) rfl (by rfl) (fun w1 => ?_) ?_; rotate_left; (next => go_simp; try with_reducible rfl); try simp only [zL]) | (refine TD.load (v := ?_) (p := ?_) (Mod.refl _ _) (by simp only [zK]; rfl) rfl (by rfl) rfl ?_ (fun wq hSq => ?_) ?_; rotate_left 2; (next => simp only [zM]; try rfl); (next => have kgq := hSq.at kg (fun h => h); have kp1q := hSq.at kp1 (fun h => h); go_simp; try with_reducible rfl); try simp only [zL])
   (refine TD.allocB (by simp only [zK]; rfl) rfl (by rfl) rfl rfl alKey (fun p5 hp5 => ?n6); try simp only [zL])
   (refine TD.val0 (v := ?_) (by simp only [zK]; rfl) rfl (by rfl) (fun w1 => ?_) ?_; rotate_left; (next => go_simp; try with_reducible rfl); try simp only [zL])
   (refine TD.storeB (d := ?d8) (T := ?T8) (y := ?y8) (p := ?p8) (b := ?b8) (v := ?v8) (by simp only [zK]; rfl) rfl (by rfl) ?hd8 ?hop8 ?hev8 ?hx8 ?hb8 ?htag8 (fun w1 hb1 => ?hy8) ?hn8; (case hd8 => rfl); (case hop8 => rfl); (case hev8 => (simp only [zM]; (try rfl))); (case hx8 => simp only [zM]; try rfl); (case hb8 => first | exact Bx.set_same _ _ _ | (simp only [Bx.set_same]; rfl)); (case hy8 => (go_simp; (try first | with_reducible rfl | (rw [setCell_blk hb1]; rfl)))); try simp only [zL])
   refine TD.nil (fun w3 hr => ?_)
   replace kg := hr.mod.at kg (fun h => h)
   replace kp1 := hr.mod.at kp1 (fun h => h)
   have kp5 := hr.box p5 _ (by first | exact Bx.set_same _ _ _ | (simp only [Bx.set_same]; rfl)); dsimp only [Value.cells] at kp5; obtain ⟨gp5, kp5⟩ := kp5
   have HM3 := Lib.hid (HM.out.then0 hr.mod)
   have HO3 := Lib.hid (HO.out.1.mod0 hr.mod)
   clear hr he hle kg
   go_upto_region 5 with fail
   have Lkp1 := lt_size kp1
   have Lkp5 := lt_size kp5
   refine wp_pass (C := fun _ _ _ => False) (κ := fun i => [0, 1, 0, 0, 0, 1, 0, 0, 0].getD i 0) [0, 1, 2, 3, 4, 5, 6, 7, 8] (by kernel_rfl) (by kernel_rfl) (fun _ _ d _ _ h => by cases d <;> first | exact h | exact absurd h (hP _ _ _)) ?_
   iterate 9 first | (refine TD.val0 (v := ?_) (by simp only [zK]; rfl) rfl (by rfl) (fun w1 => ?_) ?_; rotate_left; (next => go_simp; try with_reducible rfl); try simp only [zL]) | (refine TD.load (v := ?_) (p := ?_) (Mod.refl _ _) (by simp only [zK]; rfl) rfl (by rfl) rfl ?_ (fun wq hSq => ?_) ?_; rotate_left 2; (next => simp only [zM]; try rfl); (next => have kp1q := hSq.at kp1 (fun h => h); have kp5q := hSq.at kp5 (fun h => h); go_simp; try with_reducible rfl); try simp only [zL])
   refine TD.nil (fun w4 hr => ?_)
   replace kp1 := hr.mod.at kp1 (fun h => h)
   replace kp5 := hr.mod.at kp5 (fun h => h)
   have HM4 := Lib.hid (HM3.out.then0 hr.mod)
   have HO4 := Lib.hid (HO3.out.mod0 hr.mod)
   clear hr
   by_cases hsg : i < s
   ·have hd2 := decide_eq_true hsg
    obtain ⟨wt, hwt⟩ : ∃ q, decide ((i : Int) < (s : Int) - (a : Int)) = q := ⟨_, rfl⟩
    have HRO : Hid (ownRP (msgP x) i k = ⟨k, true, wt⟩) := Lib.hid (by
     unfold ownRP msgP
     simp only
     rw [HX.out.2.2.1, HX.out.2.2.2.1, if_pos hsg, hd2, hwt])
    go_upto_region 7 with fail
    have Lkp1 := lt_size kp1
    have Lkp5 := lt_size kp5
    refine wp_pass (C := fun _ _ _ => False) (κ := fun i => [0, 0, 0, 1, 0, 0, 0].getD i 0) [0, 1, 2, 3, 4, 5, 6] (by kernel_rfl) (by kernel_rfl) (fun _ _ d _ _ h => by cases d <;> first | exact h | exact absurd h (hP _ _ _)) ?_
    iterate 7 first | (refine TD.val0 (v := ?_) (by simp only [zK]; rfl) rfl (by rfl) (fun w1 => ?_) ?_; rotate_left; (next => go_simp; try with_reducible rfl); try simp only [zL]) | (refine TD.load (v := ?_) (p := ?_) (Mod.refl _ _) (by simp only [zK]; rfl) rfl (by rfl) rfl ?_ (fun wq hSq => ?_) ?_; rotate_left 2; (next => simp only [zM]; try rfl); (next => have kp1q := hSq.at kp1 (fun h => h); have kp5q := hSq.at kp5 (fun h => h); go_simp; try with_reducible rfl); try simp only [zL])
    refine TD.nil (fun w5 hr => ?_)
    replace kp1 := hr.mod.at kp1 (fun h => h)
    replace kp5 := hr.mod.at kp5 (fun h => h)
    have HM5 := Lib.hid (HM4.out.then0 hr.mod)
    have HO5 := Lib.hid (HO4.out.mod0 hr.mod)
    clear hr
    have hb := bRole3 k true wt
    have hbs := bsRole ⟨k, true, wt⟩
    obtain ⟨a2, c2, rfl, _⟩ := HO5.out.at rolesT
    generalize hll : ((x.ks.l.take i).mapIdx (ownRP (msgP x))).length = ll at *
    have HLL : Hid (ll = i) := Lib.hid (by rw [← hll, List.length_mapIdx, List.length_take]; have := HX.out.2.1; omega)
    clear hll
    go_upto_region 8 with fail
    have Lkp5 := lt_size kp5
    have Lkp1 := lt_size kp1
    refine wp_pass0 (C := fun _ _ _ => False) (κ := fun i => [0, 1, 0, 0, 0, 0, 0, 0, 0, 0, 0, 3, 5, 0].getD i 0) [0, 1, 2, 3, 4, 5, 6, 7, 8, 9, 10, 11, 12, 13] (by kernel_rfl) (by kernel_rfl) (fun _ _ d _ _ h => by cases d <;> first | exact h | exact absurd h (hP _ _ _)) ?_
    iterate 10 first | (refine TD.val0 (v := ?_) (by simp only [zK]; rfl) rfl (by rfl) (fun w1 => ?_) ?_; rotate_left; (next => go_simp; try with_reducible rfl); try simp only [zL]) | (refine TD.load (v := ?_) (p := ?_) (Mod.refl _ _) (by simp only [zK]; rfl) rfl (by rfl) rfl ?_ (fun wq hSq => ?_) ?_; rotate_left 2; (next => simp only [zM]; try rfl); (next => have kp5q := hSq.at kp5 (fun h => h); have kp1q := hSq.at kp1 (fun h => h); go_simp; try with_reducible rfl); try simp only [zL])
    (refine TD.build (v := ?v35) (ps := ?p35) (by simp only [zK]; rfl) rfl (by rfl) rfl ?hx35 (fun w1 => ?y35) ?n35; (case hx35 => (simp only [List.map_toArray, List.map_cons, List.map_nil, zM]; (try rfl))); (case y35 => (rw [hb]; (try with_reducible rfl))); try simp only [zL])
    (refine TD.bslice (by simp only [zK]; rfl) rfl (by rfl) rfl rfl ?hx36 hbs (fun p46 hp46 => ?n36); (case hx36 => (simp only [List.map_toArray, List.map_cons, List.map_nil, zM]; (try rfl))); try simp only [zL])
    refine TD.eff (by simp only [zK]; rfl) rfl (fun w6 hr => ?_)
    replace kp5 := hr.mod.at kp5 (fun h => h)
    replace kp1 := hr.mod.at kp1 (fun h => h)
    have kp46 := hr.box p46 _ (by first | exact Bx.set_same _ _ _ | (simp only [Bx.set_same]; rfl)); dsimp only [Value.cells] at kp46; obtain ⟨gp46, kp46⟩ := kp46
    have HM6 := Lib.hid (HM5.out.then0 hr.mod)
    obtain ⟨v5, w7, hap, hO7, m7, hn7⟩ := SlOwn.append rolesT (q := [⟨k, true, wt⟩]) (c := 1) (HO5.out.mod0 hr.mod) (SlAt.one kp46 _ rfl (rolesT.size _)) (by have := HLL.out; simp only [List.length_mapIdx, List.length_take, List.length_singleton]; have := HX.out.2.1; omega) (by decide) HM6.out.size 36
    have hlo := HO5.out.lt
    have HO7 : Hid (SlOwn rcr 34 91 w7 w.heap.size v5 ((x.ks.l.take (i + 1)).mapIdx (ownRP (msgP x))) ∧ v5.ownBlock ≠ some p1) := Lib.hid ⟨by rw [HT.out, HRO.out]; exact hO7, fun e => by
     rcases hn7 with h | h
     ·exact HO.out.2 (h.symm.trans e)
     ·rw [h] at e
      cases e
      have := lt_size kp1
      omega⟩
    have HM7 : Hid (Mod (fun _ => False) w w7) := Lib.hid (HM6.out.then m7 (fun j hj e => by have := (hlo j e).1; omega))
    replace kp1 := m7.at kp1 (fun e => HO.out.2 e)
    clear hr hO7 m7 hn7 hlo hb hbs kp46 kp5
    (refine eff_append (by simp only [zK]; rfl) (by rfl) rfl ?hx38 ?hz38 hap ?n38; (case hx38 => simp only [zM]; try rfl); (case hz38 => simp only [zM]; try rfl); try simp only [zL])
    (refine TE.val0 (v := ?v39) (by simp only [zK]; rfl) (by rfl) (fun w1 => ?y39) ?n39; (case y39 => go_simp; try with_reducible rfl); try simp only [zL])
    refine TE.nil ?_
    go_wp2_with fail
    go_roundw
    case rel => exact ⟨i + 1, by omega, by go_num, HO7, HM7, kp1⟩
    case measure => simp [intOf]; omega
   ·have hd2 := decide_eq_false hsg
    obtain ⟨wt, hwt⟩ : ∃ q, decide ((i : Int) < (n : Int) - (c : Int)) = q := ⟨_, rfl⟩
    have HRO : Hid (ownRP (msgP x) i k = ⟨k, false, wt⟩) := Lib.hid (by
     unfold ownRP msgP
     simp only
     rw [HX.out.2.2.1, HX.out.2.2.2.2, HX.out.2.1, if_neg hsg, hd2, hwt])
    have HM5 := HM4
    have HO5 := HO4
    have hb := bRole3 k false wt
    have hbs := bsRole ⟨k, false, wt⟩
    obtain ⟨a2, c2, rfl, _⟩ := HO5.out.at rolesT
    generalize hll : ((x.ks.l.take i).mapIdx (ownRP (msgP x))).length = ll at *
    have HLL : Hid (ll = i) := Lib.hid (by rw [← hll, List.length_mapIdx, List.length_take]; have := HX.out.2.1; omega)
    clear hll
    go_upto_region 8 with fail
    have Lkp5 := lt_size kp5
    have Lkp1 := lt_size kp1
    refine wp_pass0 (C := fun _ _ _ => False) (κ := fun i => [0, 1, 0, 0, 0, 0, 0, 0, 0, 0, 0, 3, 5, 0].getD i 0) [0, 1, 2, 3, 4, 5, 6, 7, 8, 9, 10, 11, 12, 13] (by kernel_rfl) (by kernel_rfl) (fun _ _ d _ _ h => by cases d <;> first | exact h | exact absurd h (hP _ _ _)) ?_
    iterate 10 first | (refine TD.val0 (v := ?_) (by simp only [zK]; rfl) rfl (by rfl) (fun w1 => ?_) ?_; rotate_left; (next => go_simp; try with_reducible rfl); try simp only [zL]) | (refine TD.load (v := ?_) (p := ?_) (Mod.refl _ _) (by simp only [zK]; rfl) rfl (by rfl) rfl ?_ (fun wq hSq => ?_) ?_; rotate_left 2; (next => simp only [zM]; try rfl); (next => have kp5q := hSq.at kp5 (fun h => h); have kp1q := hSq.at kp1 (fun h => h); go_simp; try with_reducible rfl); try simp only [zL])
    (refine TD.build (v := ?v50) (ps := ?p50) (by simp only [zK]; rfl) rfl (by rfl) rfl ?hx50 (fun w1 => ?y50) ?n50; (case hx50 => (simp only [List.map_toArray, List.map_cons, List.map_nil, zM]; (try rfl))); (case y50 => (rw [hb]; (try with_reducible rfl))); try simp only [zL])
    (refine TD.bslice (by simp only [zK]; rfl) rfl (by rfl) rfl rfl ?hx51 hbs (fun p46 hp46 => ?n51); (case hx51 => (simp only [List.map_toArray, List.map_cons, List.map_nil, zM]; (try rfl))); try simp only [zL])
    refine TD.eff (by simp only [zK]; rfl) rfl (fun w6 hr => ?_)
    replace kp5 := hr.mod.at kp5 (fun h => h)
    replace kp1 := hr.mod.at kp1 (fun h => h)
    have kp46 := hr.box p46 _ (by first | exact Bx.set_same _ _ _ | (simp only [Bx.set_same]; rfl)); dsimp only [Value.cells] at kp46; obtain ⟨gp46, kp46⟩ := kp46
    have HM6 := Lib.hid (HM5.out.then0 hr.mod)
    obtain ⟨v5, w7, hap, hO7, m7, hn7⟩ := SlOwn.append rolesT (q := [⟨k, false, wt⟩]) (c := 1) (HO5.out.mod0 hr.mod) (SlAt.one kp46 _ rfl (rolesT.size _)) (by have := HLL.out; simp only [List.length_mapIdx, List.length_take, List.length_singleton]; have := HX.out.2.1; omega) (by decide) HM6.out.size 36
    have hlo := HO5.out.lt
    have HO7 : Hid (SlOwn rcr 34 91 w7 w.heap.size v5 ((x.ks.l.take (i + 1)).mapIdx (ownRP (msgP x))) ∧ v5.ownBlock ≠ some p1) := Lib.hid ⟨by rw [HT.out, HRO.out]; exact hO7, fun e => by
     rcases hn7 with h | h
     ·exact HO.out.2 (h.symm.trans e)
     ·rw [h] at e
      cases e
      have := lt_size kp1
      omega⟩
    have HM7 : Hid (Mod (fun _ => False) w w7) := Lib.hid (HM6.out.then m7 (fun j hj e => by have := (hlo j e).1; omega))
    replace kp1 := m7.at kp1 (fun e => HO.out.2 e)
    clear hr hO7 m7 hn7 hlo hb hbs kp46 kp5
    (refine eff_append (by simp only [zK]; rfl) (by rfl) rfl ?hx53 ?hz53 hap ?n53; (case hx53 => simp only [zM]; try rfl); (case hz53 => simp only [zM]; try rfl); try simp only [zL])
    (refine TE.val0 (v := ?v54) (by simp only [zK]; rfl) (by rfl) (fun w1 => ?y54) ?n54; (case y54 => go_simp; try with_reducible rfl); try simp only [zL])
    refine TE.nil ?_
    go_wp2_with fail
    go_roundw
    case rel => exact ⟨i + 1, by omega, by go_num, HO7, HM7, kp1⟩
    case measure => simp [intOf]; omega
  ·have hd := decide_eq_false hlt
   obtain rfl : n = i := by omega
   have HF : Hid (SlOwn rcr 34 91 wr w.heap.size _ (x.ks.l.mapIdx (ownRP (msgP x)))) := Lib.hid (by
    have := HO.out.1
    rw [List.take_of_length_le (by have := HX.out.2.1; omega)] at this
    exact this)
   go_wp2_with fail
   go_ret
   exact ⟨_, rfl, HF.out, HM.out⟩
end Go.Proofs.YtiaehkkkcaeaiaaGreatDoor
namespace Go.Proofs.YtiaehkkkcaeaiaaGreatDoor
open Go.RowKit
open Go.ChangeMaps (setBlock)
attribute [local go_sem ↓] wlKey ldKey stKey ldSg stSg wlTc ldTc stTc eqKey1
attribute [local go_sem] cell_blk frozen_blk kc_ext one_int one_bool one_ptr one_slice one_map kc_one kc_one0 kc_size zKey_size sgc_size sgc_ext sgc_one0 sgc_one' txr_size txr_all txr_one txr_one' txr0 txr38 txr39 txr0' txr38' txr39' zTx_size Value.cells
theorem bsKeyT (k : Key) (w : World) : (Instr.buildSlice 27 1 #[(0, .agg (kc k))]).run Tryz.prog w = .ok (.slice (some ⟨w.heap.size, 0, none⟩) 1 1) (w.alloc (.cells (kc k) 82)) := by
 obtain ⟨i0, hi, hz0, hz1, hz2⟩ := info_parts (show (Tryz.prog.info? 82).map (fun i => (i.zero, i.size, i.bytes)) = some (some (.agg zKey), 32, 32) by kernel_rfl)
 refine run_buildSlice w _ _ 1 _ _ i0 _ Tryz.underlying27 hi hz0 (by rw [hz1]; omega) (by rw [hz1]; omega) ?_
 rw [hz1]
 show Instr.fill _ _ [(0, _)] = _
 rw [fill_cons (off := 0) (n := 32) rfl (by simp [Value.cells]) (by simp [Value.cells, zKey_size, size_madeCells])]
 show some (wr _ 0 (kc k).toList) = _
 rw [wr_whole (kc k) _ (by simp [Value.cells, zKey_size, size_madeCells])]
def preK (P : List Key) (r : Option (List Key)) : Option (List Key) := r.map (P ++ ·)
theorem preK_nil (r : Option (List Key)) : preK [] r = r := by cases r <;> rfl
theorem preK_step {P L : List Key} {A : List UInt8} {i : Nat} {c : UInt8} {k : Key} (h : A[i]? = some c) (hk : L[c.toNat]? = some k) : preK P (pickP L (A.drop i)) = preK (P ++ [k]) (pickP L (A.drop (i + 1))) := by
 obtain ⟨hi, e⟩ := List.getElem?_eq_some_iff.1 h
 rw [List.drop_eq_getElem_cons hi, e, pickP, hk]
 simp only
 unfold preK
 cases pickP L (A.drop (i + 1)) <;> simp
theorem preK_none {P L : List Key} {A : List UInt8} {i : Nat} {c : UInt8} (h : A[i]? = some c) (hk : L.length ≤ c.toNat) : preK P (pickP L (A.drop i)) = none := by
 obtain ⟨hi, e⟩ := List.getElem?_eq_some_iff.1 h
 rw [List.drop_eq_getElem_cons hi, e, pickP, List.getElem?_eq_none hk]
 rfl
def PickA (base : Nat) (v : Value) (O : List Key) (r : Option (List Key)) (w : World) (e : Ending) (w' : World) : Prop := Mod (fun i => v.ownBlock = some i) w w' ∧ match r with
 | some P => ∃ v', e = .returned (.tuple #[v', .bool true]) ∧ SlOwn kc 32 82 w' base v' (O ++ P) ∧ ∀ i, v'.ownBlock = some i → v.ownBlock = some i ∨ w.heap.size ≤ i
 | none => e = .returned (.tuple #[.slice none 0 0, .bool false])
set_option maxRecDepth 20000 in
set_option maxHeartbeats 6400000 in
theorem picked_c {base : Nat} {v : Value} {O L : List Key} {A : List UInt8} {la aa : Option Addr} {lc ac : Nat} (w : World) (hO : SlOwn kc 32 82 w base v O) (hbase : base ≤ w.heap.size) (hL : SlAt kc 32 w la L) (hA : SlAt uc 1 w aa A)
  (hLb : ∀ g o, la = some ⟨g, o, none⟩ → g < base) (hAb : ∀ g o, aa = some ⟨g, o, none⟩ → g < base) (h1 : L.length ≤ 256) (h2 : A.length ≤ 65535) (h3 : O.length ≤ 900000) :
  Calls Tryz.prog 86 #[v, .slice la L.length lc, .slice aa A.length ac] w (PickA base v O (pickP L A) w) := by
 obtain ⟨nL, hnL⟩ : ∃ n, L.length = n := ⟨_, rfl⟩
 obtain ⟨nA, hnA⟩ : ∃ n, A.length = n := ⟨_, rfl⟩
 have HN := Lib.hid (And.intro hnL (And.intro hnA h3))
 have HL := Lib.hid (And.intro hL (And.intro hA (And.intro hLb hAb)))
 have HO := Lib.hid hO
 have HBS := Lib.hid hbase
 rw [hnL] at h1
 rw [hnA] at h2
 rw [hnL, hnA]
 have HP0 : Hid (pickP L A = preK [] (pickP L (A.drop 0))) := Lib.hid (by rw [preK_nil, List.drop_zero])
 have hlo0 := hO.lt
 have HLO := Lib.hid hlo0
 clear hO hL hA hLb hAb hnL hnA h3 hbase hlo0
 go_enter Tryz.func86, Tryz.ntmps86
 go_wp2_with fail
 go_loopw [0, 12] (fun s0 s12 ws => ∃ (i : Nat) (P : List Key), i ≤ nA ∧ s12 = .int .i64 (i : Int) ∧ Hid (SlOwn kc 32 82 ws base s0 (O ++ P) ∧ P.length = i) ∧ Hid (pickP L A = preK P (pickP L (A.drop i))) ∧ Hid (Mod (fun j => v.ownBlock = some j) w ws) ∧ Hid (∀ j, s0.ownBlock = some j → v.ownBlock = some j ∨ w.heap.size ≤ j)) (fun _ s12 _ => nA - (intOf s12).toNat)
 case atStart => exact ⟨0, [], Nat.zero_le _, rfl, Lib.hid ⟨by rw [List.append_nil]; exact HO.out, rfl⟩, HP0, Lib.hid (Mod.refl _ _), Lib.hid (fun j h => .inl h)⟩
 case round =>
  obtain ⟨i, P, hi, rfl, HOi, HP, HM, HX⟩ := hrel
  by_cases hlt : i < nA
  ·have hd := decide_eq_true hlt
   obtain ⟨c, hc⟩ : ∃ c, A[i]? = some c := ⟨_, List.getElem?_eq_getElem (by have := HN.out; omega)⟩
   obtain ⟨g, o, C, U, fr, rfl, kg, he, hle⟩ := (HL.out.2.1.mod HM.out (fun b o e hs => by have h1 := HL.out.2.2.2 b o e; have h2 := (HLO.out b hs).1; omega)).block hc
   have c0 := cellC he (j := 0) (v := u8v c) rfl
   simp only [Nat.mul_one, Nat.add_zero] at c0
   have HCC := Lib.hid hc
   obtain ⟨k, hk⟩ : ∃ k, c.toNat = k := ⟨_, rfl⟩
   have hkb : k < 256 := by rw [← hk]; exact c.toNat_lt
   have hw : IntKind.i64.wrap (k : Int) = (k : Int) := by rw [IntKind.wrap_i64]; omega
   replace c0 : C[o + i]? = some (.int .u8 (k : Int)) := by rw [← hk]; exact c0
   have HK := Lib.hid hk
   clear he hle hc hk
   by_cases hge : nL ≤ k
   ·have hd2 := decide_eq_true hge
    have HE : Hid (pickP L A = none) := Lib.hid (by rw [HP.out, preK_none HCC.out (by rw [HK.out, HN.out.1]; exact hge)])
    go_wp2_with fail
    refine bodyPost_ret (results_tmp2 rfl _ _ _) rfl ?_
    unfold PickA
    rw [HE.out]
    exact ⟨HM.out, rfl⟩
   ·have hd2 := decide_eq_false hge
    have hkl : k < nL := by omega
    obtain ⟨y, hy⟩ : ∃ y, L[k]? = some y := ⟨_, List.getElem?_eq_getElem (by have := HN.out; omega)⟩
    obtain ⟨g', o', C', U', fr', rfl, kl, he, hle⟩ := (HL.out.1.mod HM.out (fun b o e hs => by have h1 := HL.out.2.2.1 b o e; have h2 := (HLO.out b hs).1; omega)).block hy
    have HP2 : Hid (pickP L A = preK (P ++ [y]) (pickP L (A.drop (i + 1)))) := Lib.hid (by rw [HP.out, preK_step HCC.out (by rw [HK.out]; exact hy)])
    clear hy
    have hbs := bsKeyT y
    obtain ⟨a2, c2, rfl, _⟩ := HOi.out.1.at keysT
    generalize hll : (O ++ P).length = ll at *
    have HLL : Hid (ll = O.length + i) := Lib.hid (by rw [← hll, List.length_append, HOi.out.2])
    clear hll
    go_upto_region 6 with fail
    have Lkl := lt_size kl
    refine wp_pass0 (C := fun _ _ _ => False) (κ := fun i => [0, 0, 0, 0, 1, 3, 5, 0].getD i 0) [0, 1, 2, 3, 4, 5, 6, 7] (by kernel_rfl) (by kernel_rfl) (fun _ _ d _ _ h => by cases d <;> first | exact h | exact absurd h (hP _ _ _)) ?_
    iterate 5 first | (refine TD.val0 (v := ?_) (by simp only [zK]; rfl) rfl (by rfl) (fun w1 => ?_) ?_; rotate_left; (next => go_simp; try with_reducible rfl); try simp only [zL]) | (refine TD.load (v := ?_) (p := ?_) (Mod.refl _ _) (by simp only [zK]; rfl) rfl (by rfl) rfl ?_ (fun wq hSq => ?_) ?_; rotate_left 2; (next => simp only [zM]; try rfl); (next => have klq := hSq.at kl (fun h => h); go_simp; try with_reducible rfl); try simp only [zL])
    (refine TD.bslice (by simp only [zK]; rfl) rfl (by rfl) rfl rfl ?hx6 hbs (fun p26 hp26 => ?n6); (case hx6 => (simp only [List.map_toArray, List.map_cons, List.map_nil, zM]; (try rfl))); try simp only [zL])
    refine TD.eff (by simp only [zK]; rfl) rfl (fun w3 hr => ?_)
    replace kl := hr.mod.at kl (fun h => h)
    have kp26 := hr.box p26 _ (by first | exact Bx.set_same _ _ _ | (simp only [Bx.set_same]; rfl)); dsimp only [Value.cells] at kp26; obtain ⟨gp26, kp26⟩ := kp26
    have HM3 := Lib.hid (HM.out.then0 hr.mod)
    have HO3 := Lib.hid (HOi.out.1.mod0 hr.mod)
    have HSZ := Lib.hid hr.mod.size
    have hsz := hr.mod.size
    clear hr hbs he hle kl kg
    obtain ⟨v5, w5, hap, hO5, m5, hn5⟩ := SlOwn.append keysT (q := [y]) (c := 1) HO3.out (SlAt.one kp26 y rfl (kc_size _)) (by have := HN.out; have := HLL.out; have := HOi.out.2; simp only [List.length_append, List.length_singleton]; omega) (by decide) (Nat.le_trans HBS.out HM3.out.size) 27
    have HO5 : Hid (SlOwn kc 32 82 w5 base v5 (O ++ (P ++ [y])) ∧ (P ++ [y]).length = i + 1) := Lib.hid ⟨by rw [← List.append_assoc]; exact hO5, by rw [List.length_append, HOi.out.2]; rfl⟩
    have HM5 : Hid (Mod (fun j => v.ownBlock = some j) w w5) := Lib.hid (HM3.out.then m5 (fun j hj e => by
     rcases HX.out j e with h | h
     ·exact h
     ·omega))
    have HX5 : Hid (∀ j, v5.ownBlock = some j → v.ownBlock = some j ∨ w.heap.size ≤ j) := Lib.hid (fun j hj => by
     rcases hn5 with h | h
     ·exact HX.out j (h.symm.trans hj)
     ·rw [h] at hj
      cases hj
      exact .inr HM3.out.size)
    clear hO5 m5 hn5 kp26
    (refine eff_append (by simp only [zK]; rfl) (by rfl) rfl ?hx8 ?hz8 hap ?n8; (case hx8 => simp only [zM]; try rfl); (case hz8 => simp only [zM]; try rfl); try simp only [zL])
    (refine TE.val0 (v := ?v9) (by simp only [zK]; rfl) (by rfl) (fun w1 => ?y9) ?n9; (case y9 => go_simp; try with_reducible rfl); try simp only [zL])
    refine TE.nil ?_
    go_wp2_with fail
    go_roundw
    case rel => exact ⟨i + 1, P ++ [y], by omega, by go_num, HO5, HP2, HM5, HX5⟩
    case measure => simp [intOf]; omega
  ·have hd := decide_eq_false hlt
   have HE : Hid (pickP L A = some P) := Lib.hid (by
    rw [HP.out, List.drop_of_length_le (by have := HN.out; omega)]
    simp [preK, pickP])
   obtain ⟨s, hs⟩ : ∃ s : Value, s = s := ⟨.nilIface, rfl⟩
   go_wp2_with fail
   refine bodyPost_ret (results_tmp2 rfl _ _ _) rfl ?_
   unfold PickA
   rw [HE.out]
   exact ⟨HM.out, _, rfl, HOi.out.1, HX.out⟩
end Go.Proofs.YtiaehkkkcaeaiaaGreatDoor
namespace Go.Proofs.YtiaehkkkcaeaiaaGreatDoor
open Go.RowKit
open Go.ChangeMaps (setBlock)
attribute [local go_sem ↓] wlKey ldKey stKey ldSg stSg wlTc ldTc stTc eqKey1
attribute [local go_sem] cell_blk frozen_blk kc_ext one_int one_bool one_ptr one_slice one_map kc_one kc_one0 kc_size zKey_size sgc_size sgc_ext sgc_one0 sgc_one' txr_size txr_all txr_one txr_one' txr0 txr38 txr39 txr0' txr38' txr39' zTx_size Value.cells
attribute [local go_sem ↓] wlLo ldLo stLo
attribute [local go_sem] lor32 lor33 lor32' lor33' zLo_size lor_size lor_one
theorem lor_key (y : LoR) : (lor y).extract 0 32 = kc y.t := kx_key _ _
attribute [local go_sem] lor_key
def LoF (w : World) (y : LoR) : Prop := (SlAt uc 1 w y.w.a y.w.l ∧ (∀ g o, y.w.a = some ⟨g, o, none⟩ → g < w.heap.size) ∧ y.w.l.length ≤ 65535) ∧ (SlAt uc 1 w y.r.a y.r.l ∧ (∀ g o, y.r.a = some ⟨g, o, none⟩ → g < w.heap.size) ∧ y.r.l.length ≤ 65535)
theorem res_none {T : TbL} {X : List LoR} {i : Nat} {y : LoR} {O : List Key × List Key} (h : X[i]? = some y) (hf : tbFind T y.t = none) : resP T ((X.drop i).map loP) O = .error 11 := by
 obtain ⟨hi, e⟩ := List.getElem?_eq_some_iff.1 h
 rw [List.drop_eq_getElem_cons hi, e, List.map_cons, resP]
 show (match tbFind T y.t with | none => _ | some l => _) = _
 rw [hf]
theorem res_bad {T : TbL} {X : List LoR} {i : Nat} {y : LoR} {O : List Key × List Key} {l : List Key} (h : X[i]? = some y) (hf : tbFind T y.t = some l) (hb : pickP l y.w.l = none ∨ pickP l y.r.l = none) : resP T ((X.drop i).map loP) O = .error 8 := by
 obtain ⟨hi, e⟩ := List.getElem?_eq_some_iff.1 h
 rw [List.drop_eq_getElem_cons hi, e, List.map_cons, resP]
 show (match tbFind T y.t with | none => _ | some l => match pickP l y.w.l, pickP l y.r.l with | some a, some b => _ | _, _ => _) = _
 rw [hf]
 simp only
 rcases hb with hb | hb
 ·rw [hb]
 ·rw [hb]
  cases pickP l y.w.l <;> rfl
theorem res_step {T : TbL} {X : List LoR} {i : Nat} {y : LoR} {O : List Key × List Key} {l a b : List Key} (h : X[i]? = some y) (hf : tbFind T y.t = some l) (ha : pickP l y.w.l = some a) (hb : pickP l y.r.l = some b) : resP T ((X.drop i).map loP) O = resP T ((X.drop (i + 1)).map loP) (O.1 ++ a, O.2 ++ b) := by
 obtain ⟨hi, e⟩ := List.getElem?_eq_some_iff.1 h
 rw [List.drop_eq_getElem_cons hi, e, List.map_cons, resP]
 show (match tbFind T y.t with | none => _ | some l => match pickP l y.w.l, pickP l y.r.l with | some a, some b => _ | _, _ => _) = _
 rw [hf]
 simp only
 rw [ha, hb]
theorem pick_len {l : List Key} : ∀ {A : List UInt8} {P : List Key}, pickP l A = some P → P.length = A.length
 | [], P, h => by
  rw [pickP] at h
  cases h
  rfl
 | c :: A, P, h => by
  rw [pickP] at h
  split at h
  ·cases h
  ·cases hp : pickP l A with
   | none => rw [hp] at h; cases h
   | some Q =>
    rw [hp] at h
    cases h
    simp [pick_len hp]
def ResA (T : TbL) (X : List LoR) (w : World) (e : Ending) (w' : World) : Prop := Mod (fun _ => False) w w' ∧ match resP T (X.map loP) ([], []) with
 | .ok y => ∃ va vb, e = .returned (.tuple #[va, vb, .int .i64 0]) ∧ NewS kc 32 82 w.heap.size w' va y.1 ∧ NewS kc 32 82 w.heap.size w' vb y.2
 | .error n => e = .returned (.tuple #[.slice none 0 0, .slice none 0 0, .int .i64 (n : Int)])
set_option maxRecDepth 20000 in
set_option maxHeartbeats 6400000 in
theorem resolve_c {b h r : Nat} {T : TbL} {X : List LoR} {xa : Option Addr} {xc : Nat} (w : World) (H : RegA b h r T w) (hX : SlAt lor 34 w xa X) (hXl : ∀ y ∈ X, LoF w y) (hn : X.length ≤ 1000000) (hs : loSum X ≤ 800000) :
  Calls Tryz.prog 37 #[pV r, .slice xa X.length xc] w (ResA T X w) := by
 obtain ⟨n, hnX⟩ : ∃ n, X.length = n := ⟨_, rfl⟩
 have HX := Lib.hid (And.intro hX (And.intro hXl (And.intro hnX hs)))
 have HRG := Lib.hid H
 obtain ⟨M, ⟨kr, es, cl, kh, HM0⟩, hT, H3, H4, H5⟩ := id H
 have hlk : ∀ (k : Key) wq, wq.heap[h]? = some (.map es cl) → (Instr.lookup 46 (.map (some h)) (.agg (kc k)) true).run Tryz.prog wq = .ok (.tuple #[((lkp k M).map slK).getD (slK ⟨none, [], 0⟩), .bool (lkp k M).isSome]) wq := fun k wq hq => HM0.lookup keyTR Tryz.underlying46 slK_zero wq hq k true
 have HLK := Lib.hid hlk
 have H3' := Lib.hid H3
 have HTT := Lib.hid hT
 rw [hnX] at hn ⊢
 clear hX hXl hnX hs H HM0 hlk H3 hT H4 H5
 go_enter Tryz.func37, Tryz.ntmps37
 go_wp2_with fail
 go_at_call 82
 refine (there_c _ kr).mono ?_
 rintro e w1 ⟨rfl, rfl⟩
 have HP0 : Hid (resP T (X.map loP) ([], []) = resP T ((X.drop 0).map loP) ([], [])) := Lib.hid (by rw [List.drop_zero])
 have HKR := Lib.hid kr
 have HKH := Lib.hid kh
 clear kr kh
 go_wp2_with fail
 go_loopw [4, 5, 18] (fun s4 s5 s18 ws => ∃ (i : Nat) (Wl Rl : List Key), i ≤ n ∧ s18 = .int .i64 (i : Int) ∧ Hid (SlOwn kc 32 82 ws w1.heap.size s4 Wl ∧ SlOwn kc 32 82 ws w1.heap.size s5 Rl ∧ Wl.length + Rl.length = loSum (X.take i) ∧ ∀ j, s4.ownBlock = some j → s5.ownBlock ≠ some j) ∧ Hid (resP T (X.map loP) ([], []) = resP T ((X.drop i).map loP) (Wl, Rl)) ∧ Hid (Mod (fun _ => False) w1 ws)) (fun _ _ s18 _ => n - (intOf s18).toNat)
 case atStart => exact ⟨0, [], [], Nat.zero_le _, rfl, Lib.hid ⟨SlOwn.nil _ _, SlOwn.nil _ _, by simp [loSum], fun j h => by cases h⟩, HP0, Lib.hid (Mod.refl _ _)⟩
 case round =>
  obtain ⟨i, Wl, Rl, hi, rfl, HO, HP, HM⟩ := hrel
  by_cases hlt : i < n
  ·have hd := decide_eq_true hlt
   obtain ⟨y, hy⟩ : ∃ y, X[i]? = some y := ⟨_, List.getElem?_eq_getElem (by have := HX.out.2.2.1; omega)⟩
   obtain ⟨g, o, C, U, fr, rfl, kg, he, hle⟩ := (HX.out.1.mod0 HM.out).block hy
   have HY := Lib.hid hy
   have kr := HM.out.at0 HKR.out
   have kh := HM.out.at0 HKH.out
   clear hy
   go_upto_region 5 with fail
   have Lkg := lt_size kg
   have Lkr := lt_size kr
   have Lkh := lt_size kh
   refine wp_pass0 (C := fun _ _ _ => False) (κ := fun i => [0, 1, 3, 4].getD i 0) [0, 1, 2, 3] (by kernel_rfl) (by kernel_rfl) (fun _ _ d _ _ h => by cases d <;> first | exact h | exact absurd h (hP _ _ _)) ?_
   (refine TD.val0 (v := ?_) (by simp only [zK]; rfl) rfl (by rfl) (fun w1 => ?_) ?_; rotate_left; (next => go_simp; try with_reducible rfl); try simp only [zL])
   (refine TD.load (v := ?_) (p := ?_) (Mod.refl _ _) (by simp only [zK]; rfl) rfl (by rfl) rfl ?_ (fun wq hSq => ?_) ?_; rotate_left 2; (next => simp only [zM]; try rfl); (next => have kgq := hSq.at kg (fun h => h); have krq := hSq.at kr (fun h => h); have khq := hSq.at kh (fun h => h); go_simp; try with_reducible rfl); try simp only [zL])
   (refine TD.allocB (by simp only [zK]; rfl) rfl (by rfl) rfl rfl alLo (fun p8 hp8 => ?n3); try simp only [zL])
   (refine TD.storeB (d := ?d4) (T := ?T4) (y := ?y4) (p := ?p4) (b := ?b4) (v := ?v4) (by simp only [zK]; rfl) rfl (by rfl) ?hd4 ?hop4 ?hev4 ?hx4 ?hb4 ?htag4 (fun w1 hb1 => ?hy4) ?hn4; (case hd4 => rfl); (case hop4 => rfl); (case hev4 => (simp only [zM]; (try rfl))); (case hx4 => simp only [zM]; try rfl); (case hb4 => first | exact Bx.set_same _ _ _ | (simp only [Bx.set_same]; rfl)); (case hy4 => (go_simp; (try first | with_reducible rfl | (rw [setCell_blk hb1]; rfl)))); try simp only [zL])
   refine TD.nil (fun w3 hr => ?_)
   replace kg := hr.mod.at kg (fun h => h)
   replace kr := hr.mod.at kr (fun h => h)
   replace kh := hr.mod.at kh (fun h => h)
   have kp8 := hr.box p8 _ (by first | exact Bx.set_same _ _ _ | (simp only [Bx.set_same]; rfl)); dsimp only [Value.cells] at kp8; obtain ⟨gp8, kp8⟩ := kp8
   have HM3 := Lib.hid (HM.out.then0 hr.mod)
   have HO3 := Lib.hid (And.intro (HO.out.1.mod0 hr.mod) (HO.out.2.1.mod0 hr.mod))
   clear hr he hle kg
   cases hk : lkp y.t M with
   | none =>
    have hlk3 : ∀ wq, Mod (fun _ => False) w3 wq → (Instr.lookup 46 (.map (some h)) (.agg (kc y.t)) true).run Tryz.prog wq = .ok (.tuple #[.slice none 0 0, .bool false]) wq := fun wq hq => by
     have := HLK.out y.t wq (hq.at0 kh)
     rw [hk] at this
     exact this
    have HE : Hid (resP T (X.map loP) ([], []) = .error 11) := Lib.hid (by rw [HP.out]; exact res_none HY.out (by rw [← HTT.out, lkp_tb, hk]; rfl))
    clear hk
    go_upto_region 6 with fail
    have Lkr := lt_size kr
    have Lkp8 := lt_size kp8
    refine wp_pass (C := fun _ _ _ => False) (κ := fun i => [0, 0, 0, 1, 0, 1, 1, 0, 0, 0, 0, 0].getD i 0) [0, 1, 2, 3, 4, 5, 6, 7, 8, 9, 10, 11] (by kernel_rfl) (by kernel_rfl) (fun _ _ d _ _ h => by cases d <;> first | exact h | exact absurd h (hP _ _ _)) ?_
    iterate 6 first | (refine TD.val0 (v := ?_) (by simp only [zK]; rfl) rfl (by rfl) (fun w1 => ?_) ?_; rotate_left; (next => go_simp; try with_reducible rfl); try simp only [zL]) | (refine TD.load (v := ?_) (p := ?_) (Mod.refl _ _) (by simp only [zK]; rfl) rfl (by rfl) rfl ?_ (fun wq hSq => ?_) ?_; rotate_left 2; (next => simp only [zM]; try rfl); (next => have krq := hSq.at kr (fun h => h); have kp8q := hSq.at kp8 (fun h => h); go_simp; try with_reducible rfl); try simp only [zL])
    (refine TD.lookup (v := ?v11) (p := ?p11) (q := ?q11) (Mod.refl _ _) (by simp only [zK]; rfl) rfl (by rfl) rfl ?hx11 ?hz11 (fun wq hSq => ?y11) ?n11; (case hx11 => simp only [zM]; try rfl); (case hz11 => simp only [zM]; try rfl); (case y11 => (rw [hlk3 wq hSq]; (try with_reducible rfl))); try simp only [zL])
    iterate 5 (refine TD.val0 (v := ?_) (by simp only [zK]; rfl) rfl (by rfl) (fun w1 => ?_) ?_; rotate_left; (next => go_simp; try with_reducible rfl); try simp only [zL])
    refine TD.nil (fun w4 hr => ?_)
    replace kr := hr.mod.at kr (fun h => h)
    replace kp8 := hr.mod.at kp8 (fun h => h)
    have HM4 := Lib.hid (HM3.out.then0 hr.mod)
    clear hr hlk3
    go_wp2_with fail
    refine bodyPost_ret (results_tmp3 rfl _ _ _) rfl ?_
    unfold ResA
    rw [HE.out]
    exact ⟨HM4.out, rfl⟩
   | some s =>
    obtain ⟨a4, c4, rfl, _⟩ := HO.out.1.at keysT
    obtain ⟨a5, c5, rfl, _⟩ := HO.out.2.1.at keysT
    obtain ⟨hsa, hsb⟩ := H3'.out (y.t, s) (lkp_mem hk)
    have hft : tbFind T y.t = some s.l := by rw [← HTT.out, lkp_tb, hk]; rfl
    have HFT := Lib.hid hft
    have HSA : Hid (SlAt kc 32 w1 s.a s.l ∧ (∀ g o, s.a = some ⟨g, o, none⟩ → g < w1.heap.size) ∧ s.l.length ≤ 256) := Lib.hid ⟨(WAtG.of (show NewS kc 32 82 b w1 (.slice s.a s.l.length s.c) s.l from hsa)).sl, fun g o e => (hsa.lt g (by show (Value.slice s.a s.l.length s.c).ownBlock = some g; rw [e]; rfl)).2, hsb⟩
    have HYF := Lib.hid (HX.out.2.1 y (List.mem_of_getElem? HY.out))
    have hlk3 : ∀ wq, Mod (fun _ => False) w3 wq → (Instr.lookup 46 (.map (some h)) (.agg (kc y.t)) true).run Tryz.prog wq = .ok (.tuple #[.slice s.a s.l.length s.c, .bool true]) wq := fun wq hq => by
     have := HLK.out y.t wq (hq.at0 kh)
     rw [hk] at this
     exact this
    have HLE : Hid (Wl.length ≤ 900000 ∧ Rl.length ≤ 900000) := Lib.hid (by
     have h1 := HO.out.2.2.1
     have h2 : loSum (X.take i) ≤ loSum X := by
      conv => rhs; rw [← List.take_append_drop i X]
      unfold loSum
      rw [List.map_append, List.sum_append]
      omega
     have h3 := HX.out.2.2.2
     omega)
    have HP8 : Hid (∀ j, ((Value.slice a4 Wl.length c4).ownBlock = some j ∨ (Value.slice a5 Rl.length c5).ownBlock = some j) → j ≠ p8) := Lib.hid (fun j hj e => by
     rcases hj with hj | hj
     ·have := (HO.out.1.lt j hj).2
      omega
     ·have := (HO.out.2.1.lt j hj).2
      omega)
    clear hsa hsb hft hk
    go_upto_region 6 with fail
    have Lkr := lt_size kr
    have Lkp8 := lt_size kp8
    have Lkh := lt_size kh
    refine wp_pass (C := fun _ _ _ => False) (κ := fun i => [0, 0, 0, 1, 0, 1, 1, 0, 0, 0, 0, 0].getD i 0) [0, 1, 2, 3, 4, 5, 6, 7, 8, 9, 10, 11] (by kernel_rfl) (by kernel_rfl) (fun _ _ d _ _ h => by cases d <;> first | exact h | exact absurd h (hP _ _ _)) ?_
    iterate 6 first | (refine TD.val0 (v := ?_) (by simp only [zK]; rfl) rfl (by rfl) (fun w1 => ?_) ?_; rotate_left; (next => go_simp; try with_reducible rfl); try simp only [zL]) | (refine TD.load (v := ?_) (p := ?_) (Mod.refl _ _) (by simp only [zK]; rfl) rfl (by rfl) rfl ?_ (fun wq hSq => ?_) ?_; rotate_left 2; (next => simp only [zM]; try rfl); (next => have krq := hSq.at kr (fun h => h); have kp8q := hSq.at kp8 (fun h => h); have khq := hSq.at kh (fun h => h); go_simp; try with_reducible rfl); try simp only [zL])
    (refine TD.lookup (v := ?v23) (p := ?p23) (q := ?q23) (Mod.refl _ _) (by simp only [zK]; rfl) rfl (by rfl) rfl ?hx23 ?hz23 (fun wq hSq => ?y23) ?n23; (case hx23 => simp only [zM]; try rfl); (case hz23 => simp only [zM]; try rfl); (case y23 => (rw [hlk3 wq hSq]; (try with_reducible rfl))); try simp only [zL])
    iterate 5 (refine TD.val0 (v := ?_) (by simp only [zK]; rfl) rfl (by rfl) (fun w1 => ?_) ?_; rotate_left; (next => go_simp; try with_reducible rfl); try simp only [zL])
    refine TD.nil (fun w4 hr => ?_)
    replace kr := hr.mod.at kr (fun h => h)
    replace kp8 := hr.mod.at kp8 (fun h => h)
    replace kh := hr.mod.at kh (fun h => h)
    have HM4 := Lib.hid (HM3.out.then0 hr.mod)
    have HO4 := Lib.hid (And.intro (HO3.out.1.mod0 hr.mod) (HO3.out.2.mod0 hr.mod))
    have HW4 : Hid (wr.heap.size ≤ w4.heap.size) := Lib.hid (by have h1 := hr.mod.size; have h2 := lt_size kp8; omega)
    clear hr hlk3
    have hP1 := picked_c (base := w1.heap.size) (lc := s.c) (ac := y.w.c) w4 HO4.out.1 HM4.out.size (HSA.out.1.mod0 HM4.out) (HYF.out.1.1.mod0 HM4.out) HSA.out.2.1 HYF.out.1.2.1 HSA.out.2.2 HYF.out.1.2.2 HLE.out.1
    have HP1 := Lib.hid hP1
    clear hP1
    go_wp2_with fail
    go_at_call 86
    refine HP1.out.mono ?_
    rintro e w5 ⟨m5, hP⟩
    have HM5 : Hid (Mod (fun _ => False) w1 w5) := Lib.hid (HM4.out.then m5 (fun j hj e => by have := (HO.out.1.lt j e).1; omega))
    have HO5 : Hid (SlOwn kc 32 82 w5 w1.heap.size (.slice a5 Rl.length c5) Rl) := Lib.hid (HO4.out.2.mod m5 (fun j hj e => HO.out.2.2.2 j e hj))
    have HW5 : Hid (w4.heap.size ≤ w5.heap.size) := Lib.hid m5.size
    replace kp8 := m5.at kp8 (fun e => HP8.out p8 (.inl e) rfl)
    have HP2 := Lib.hid (picked_c (base := w1.heap.size) (lc := s.c) (ac := y.r.c) w5 HO5.out HM5.out.size (HSA.out.1.mod0 HM5.out) (HYF.out.2.1.mod0 HM5.out) HSA.out.2.1 HYF.out.2.2.1 HSA.out.2.2 HYF.out.2.2.2 HLE.out.2)
    clear m5 HP1 kr kh
    cases h1 : pickP s.l y.w.l with
    | none =>
     rw [h1] at hP
     simp only at hP
     subst hP
     have HE : Hid (resP T (X.map loP) ([], []) = .error 8) := Lib.hid (by rw [HP.out]; exact res_bad HY.out HFT.out (.inl h1))
     go_wp2_with fail
     go_at_call 86
     refine HP2.out.mono ?_
     rintro e w6 ⟨m6, hP⟩
     have HM6 : Hid (Mod (fun _ => False) w1 w6) := Lib.hid (HM5.out.then m6 (fun j hj e => by have := (HO.out.2.1.lt j e).1; omega))
     clear m6
     cases h2 : pickP s.l y.r.l with
     | none =>
      rw [h2] at hP
      simp only at hP
      subst hP
      go_wp2_with fail
      refine bodyPost_ret (results_tmp3 rfl _ _ _) rfl ?_
      unfold ResA
      rw [HE.out]
      exact ⟨HM6.out, rfl⟩
     | some B1 =>
      rw [h2] at hP
      obtain ⟨v5, rfl, -, -⟩ := hP
      go_wp2_with fail
      refine bodyPost_ret (results_tmp3 rfl _ _ _) rfl ?_
      unfold ResA
      rw [HE.out]
      exact ⟨HM6.out, rfl⟩
    | some A1 =>
     rw [h1] at hP
     obtain ⟨v4, rfl, hO4, hx4⟩ := hP
     have HV4 := Lib.hid (And.intro hO4 hx4)
     have H1 := Lib.hid h1
     clear hO4 hx4 h1
     go_wp2_with fail
     go_at_call 86
     refine HP2.out.mono ?_
     rintro e w6 ⟨m6, hP⟩
     have HM6 : Hid (Mod (fun _ => False) w1 w6) := Lib.hid (HM5.out.then m6 (fun j hj e => by have := (HO.out.2.1.lt j e).1; omega))
     cases h2 : pickP s.l y.r.l with
     | none =>
      rw [h2] at hP
      simp only at hP
      subst hP
      have HE : Hid (resP T (X.map loP) ([], []) = .error 8) := Lib.hid (by rw [HP.out]; exact res_bad HY.out HFT.out (.inr h2))
      clear m6
      go_wp2_with fail
      refine bodyPost_ret (results_tmp3 rfl _ _ _) rfl ?_
      unfold ResA
      rw [HE.out]
      exact ⟨HM6.out, rfl⟩
     | some B1 =>
      rw [h2] at hP
      obtain ⟨v5, rfl, hO5, hx5⟩ := hP
      have HPN : Hid (resP T (X.map loP) ([], []) = resP T ((X.drop (i + 1)).map loP) (Wl ++ A1, Rl ++ B1)) := Lib.hid (by rw [HP.out]; exact res_step HY.out HFT.out H1.out h2)
      have HON : Hid (SlOwn kc 32 82 w6 w1.heap.size v4 (Wl ++ A1) ∧ SlOwn kc 32 82 w6 w1.heap.size v5 (Rl ++ B1) ∧ (Wl ++ A1).length + (Rl ++ B1).length = loSum (X.take (i + 1)) ∧ ∀ j, v4.ownBlock = some j → v5.ownBlock ≠ some j) := Lib.hid (by
       have hl4 := HV4.out.1.lt
       have hs4 := HO.out.1.lt
       have hs5 := HO.out.2.1.lt
       refine ⟨HV4.out.1.mod m6 (fun j hj e => ?_), hO5, ?_, fun j hj e => ?_⟩
       ·have h5 := (hs5 j e).2
        have h6 := HW4.out
        rcases HV4.out.2 j hj with h | h
        ·exact HO.out.2.2.2 j h e
        ·omega
       ·rw [List.length_append, List.length_append, pick_len H1.out, pick_len h2, loSum_snoc HY.out, ← HO.out.2.2.1]
        omega
       ·have h6 := HW4.out
        have h7 := HW5.out
        have h8 := (hl4 j hj).2
        rcases HV4.out.2 j hj with h | h
        ·rcases hx5 j e with h' | h'
         ·exact HO.out.2.2.2 j h h'
         ·have := (hs4 j h).2
          omega
        ·rcases hx5 j e with h' | h'
         ·have := (hs5 j h').2
          omega
         ·omega)
      clear m6 hO5 hx5 h2
      go_wp2_with fail
      go_roundw
      case rel => exact ⟨i + 1, Wl ++ A1, Rl ++ B1, by omega, by go_num, HON, HPN, HM6⟩
      case measure => simp [intOf]; omega
  ·have hd := decide_eq_false hlt
   have HE : Hid (resP T (X.map loP) ([], []) = .ok (Wl, Rl)) := Lib.hid (by
    rw [HP.out, List.drop_of_length_le (by have := HX.out.2.2.1; omega)]
    rfl)
   obtain ⟨a4, c4, v4, rfl, hcl4, hN4⟩ := HO.out.1.clip keysT
   obtain ⟨a5, c5, v5, rfl, hcl5, hN5⟩ := HO.out.2.1.clip keysT
   have HC4 := Lib.hid hcl4
   have HC5 := Lib.hid hcl5
   have HN45 := Lib.hid (And.intro hN4 hN5)
   clear hcl4 hcl5 hN4 hN5
   go_wp2_with fail
   go_at_call 79
   refine (clipKr_c v4 _ _ HC4.out).mono ?_
   rintro e w5 ⟨rfl, rfl⟩
   go_wp2_with fail
   go_at_call 79
   refine (clipKr_c v5 _ _ HC5.out).mono ?_
   rintro e w6 ⟨rfl, rfl⟩
   go_wp2_with fail
   refine bodyPost_ret (results_tmp3 rfl _ _ _) rfl ?_
   unfold ResA
   rw [HE.out]
   exact ⟨HM.out, _, _, rfl, HN45.out.1, HN45.out.2⟩
end Go.Proofs.YtiaehkkkcaeaiaaGreatDoor
