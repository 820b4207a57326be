/- The lemmas of the proof, part Ka1: how the program and its data lie in memory, and what its functions do. -/
import Derived.Test.YtiaehkkkcaeaiaaGreatDoorK6
set_option linter.unusedSimpArgs false
set_option linter.unusedVariables false
set_option linter.unusedSectionVars false
namespace Go.Proofs.YtiaehkkkcaeaiaaGreatDoor
open Go.RowKit
open Go.ChangeMaps (setBlock)
attribute [local go_sem ↓] wlKey ldKey stKey ldSg stSg wlTc ldTc stTc eqKey1
attribute [local go_sem] cell_blk frozen_blk kc_ext one_int one_bool one_ptr one_slice one_map kc_one kc_one0 kc_size zKey_size sgc_size sgc_ext sgc_one0 sgc_one' txr_size txr_all txr_one txr_one' txr0 txr38 txr39 txr0' txr38' txr39' zTx_size Value.cells
theorem sq_box {P : Program} {ops : Array Oper} {Q : Exit → Act → World → Prop} {i : Nat} {r : List Nat} {a : Act} {o : Oper} {w : World} {v : Value} {T : TypeId} {x : Operand} (ho : ops[i]? = some o) (hw : Region.wanted o (yielded ops a.tmps) = true)
  (hop : o.op = .box T x) (hx : a.eval x = v) (h : wpOps P ops Q r (a.put o.dst (.pointer (some ⟨w.heap.size, 0, none⟩))) (w.alloc (.cells v.cells T))) : wpOps P ops Q (i :: r) a w :=
 sq_eff ho hw (by subst hx; simp [execOp, hop, Instr.box, newVar, newRow, newObj]; rfl) h
attribute [local go_sem ↓] wlRdy ldRdy stRdy
attribute [local go_sem] zTc_size zTc_ext zTc_all zTc_all0 rdr_size rdr_all rdr_one zRdy_size zRdy_one
set_option maxRecDepth 20000 in
set_option maxHeartbeats 3200000 in
theorem readyN_c {r : Nat} (v : Value) (w : World)  :
  Calls Tryz.prog 9 #[v, (.pointer none)] w fun e w' => e = .returned (.tuple #[.agg zRdy, .int .i64 2]) ∧ Mod (fun _ => False) w w' := by
 have hbk := bK0
 have hbr := bRdy0
 have hd0 : decide ((2 : Int) = 2) = true := rfl
 go_enter Tryz.func9, Tryz.ntmps9
 go_upto_region 0 with fail
 refine wp_pass0 (C := fun _ _ _ => False) (κ := fun i => [3, 0].getD i 0) [0, 1] (by kernel_rfl) (by kernel_rfl) (fun _ _ d _ _ h => by cases d <;> first | exact h | exact absurd h (hP _ _ _)) ?_
 (refine TD.allocB (by simp only [zK]; rfl) rfl (by rfl) rfl rfl alRdy (fun p4 hp4 => ?n1); try simp only [Act.put, zL])
 (refine TD.val0 (v := ?_) (by simp only [zK]; rfl) rfl (by rfl) (fun w1 => ?_) ?_; rotate_left; (next => go_simp; try with_reducible rfl); try simp only [Act.put, zL])
 refine TD.nil (fun w1 hr => ?_)
 have kp4 := hr.box p4 _ (by first | exact Bx.set_same _ _ _ | (simp only [Bx.set_same]; rfl)); dsimp only [Value.cells] at kp4; obtain ⟨gp4, kp4⟩ := kp4
 have HM1 := Lib.hid hr.mod
 have HGP4 := Lib.hid gp4
 clear hr
 go_upto_region 1 with fail
 have Lkp4 := lt_size kp4
 refine wp_pass0 (C := fun _ _ v => v = .tuple #[.slice none 0 0, .int .i64 2]) (κ := fun i => [0, 0, 2, 0, 0, 0, 0, 0].getD i 0) [0, 1, 2, 3, 4, 5, 6, 7] (by kernel_rfl) (by kernel_rfl) (fun _ _ d _ _ h => by cases d <;> first | exact h | exact absurd h (hP _ _ _)) ?_
 (refine TD.val0 (v := ?_) (by simp only [zK]; rfl) rfl (by rfl) (fun w1 => ?_) ?_; rotate_left; (next => go_simp; try with_reducible rfl); try simp only [Act.put, zL])
 (refine TD.build (v := ?v4) (ps := ?p4) (by simp only [zK]; rfl) rfl (by rfl) rfl ?hx4 (fun w1 => ?y4) ?n4; (case hx4 => (simp only [List.map_toArray, List.map_cons, List.map_nil, Act.eval, zM]; (try rfl))); (case y4 => (rw [hbk]; (try with_reducible rfl))); try simp only [Act.put, zL])
 (refine TD.call (f := ?f5) (args := ?r5) (Mod.refl _ _) (by simp only [zK]; rfl) rfl (by rfl) (fun w1 => ?y5) ?hsp5 ?n5; (case y5 => (go_simp; (first | with_reducible rfl | (constructor <;> with_reducible rfl)))); (case hsp5 => (intro wq hSq; have kp4q := hSq.at kp4 (fun h => h); exact (findN_c key0 wq).mono (fun e w' h => ⟨_, h.1, rfl, h.2⟩))); rintro _ hC; subst hC; try simp only [Act.put, zL])
 iterate 5 (refine TD.val0 (v := ?_) (by simp only [zK]; rfl) rfl (by rfl) (fun w1 => ?_) ?_; rotate_left; (next => go_simp; try with_reducible rfl); try simp only [Act.put, zL])
 refine TD.nil (fun w2 hr => ?_)
 replace kp4 := hr.mod.at kp4 (fun h => h)
 have HM2 := Lib.hid (HM1.out.then0 hr.mod)
 clear hr
 go_upto_region 2 with fail
 have Lkp4 := lt_size kp4
 refine wp_pass0 (C := fun _ _ v => v = .bool true) (κ := fun i => [0, 0, 0, 2].getD i 0) [0, 1, 2, 3] (by kernel_rfl) (by kernel_rfl) (fun _ _ d _ _ h => by cases d <;> first | exact h | exact absurd h (hP _ _ _)) ?_
 iterate 3 (refine TD.val0 (v := ?_) (by simp only [zK]; rfl) rfl (by rfl) (fun w1 => ?_) ?_; rotate_left; (next => go_simp; try with_reducible rfl); try simp only [Act.put, zL])
 (refine TD.call (f := ?f14) (args := ?r14) (Mod.refl _ _) (by simp only [zK]; rfl) rfl (by rfl) (fun w1 => ?y14) ?hsp14 ?n14; (case y14 => (go_simp; (first | with_reducible rfl | (constructor <;> with_reducible rfl)))); (case hsp14 => (intro wq hSq; have kp4q := hSq.at kp4 (fun h => h); exact (eIs_c 2 2 wq).mono (fun e w' h => ⟨_, by rw [h.1, hd0], rfl, by rw [h.2]; exact Mod.refl _ _⟩))); rintro _ hC; subst hC; try simp only [Act.put, zL])
 refine TD.nil (fun w3 hr => ?_)
 replace kp4 := hr.mod.at kp4 (fun h => h)
 have HM3 := Lib.hid (HM2.out.then0 hr.mod)
 clear hr hd0
 go_upto_region 3 with fail
 have Lkp4 := lt_size kp4
 refine wp_pass0 (C := fun _ _ _ => False) (κ := fun i => [0, 0, 5, 0].getD i 0) [0, 1, 2, 3] (by kernel_rfl) (by kernel_rfl) (fun _ _ d _ _ h => by cases d <;> first | exact h | exact absurd h (hP _ _ _)) ?_
 (refine TD.build (v := ?v15) (ps := ?p15) (by simp only [zK]; rfl) rfl (by rfl) rfl ?hx15 (fun w1 => ?y15) ?n15; (case hx15 => (simp only [List.map_toArray, List.map_cons, List.map_nil, Act.eval, zM]; (try rfl))); (case y15 => (rw [hbr]; (try with_reducible rfl))); try simp only [Act.put, zL])
 (refine TD.val0 (v := ?_) (by simp only [zK]; rfl) rfl (by rfl) (fun w1 => ?_) ?_; rotate_left; (next => go_simp; try with_reducible rfl); try simp only [Act.put, zL])
 refine TD.eff (by simp only [zK]; rfl) rfl (fun w4 hr => ?_)
 replace kp4 := hr.mod.at kp4 (fun h => h)
 have HMz := Lib.hid (HM3.out.then0 hr.mod)
 clear hr
 (refine eff_store (X := ?X18) (Y := ?Y18) (w' := ?w18) (by simp only [zK]; rfl) (by rfl) rfl ?hx18 ?hz18 ?y18 ?n18; (case hx18 => simp only [Act.eval, zM]; try rfl); (case hz18 => simp only [Act.eval, zM]; try rfl); (case y18 => go_simp; try with_reducible rfl))
 (first | refine TE.mid_set kp4 (fun wn kp4 mS => ?_) | refine TE.mid_setCell kp4 (fun wn kp4 mS => ?_))
 have HMy := Lib.hid (HMz.out.thenB mS (.inl gp4))
 clear mS
 (refine TE.val0 (v := ?v19) (by simp only [zK]; rfl) (by rfl) (fun w1 => ?y19) ?n19; (case y19 => go_simp; try with_reducible rfl); try simp only [Act.put, zL])
 refine TE.nil ?_
 go_wp2_with fail
 refine bodyPost_ret (results_ct rfl rfl (ldRdyZ kp4)) rfl ?_
 exact ⟨rfl, HMy.out⟩
set_option maxRecDepth 20000 in
set_option maxHeartbeats 3200000 in
theorem readyV_c {r : Nat} (v : Value) (w : World) (kr : w.heap[r]? = some (.cells #[.map none] 48 (0, 0))) :
  Calls Tryz.prog 9 #[v, (pV r)] w fun e w' => e = .returned (.tuple #[.agg zRdy, .int .i64 2]) ∧ Mod (fun _ => False) w w' := by
 have hbk := bK0
 have hbr := bRdy0
 have hd0 : decide ((2 : Int) = 2) = true := rfl
 go_enter Tryz.func9, Tryz.ntmps9
 go_upto_region 0 with fail
 refine wp_pass0 (C := fun _ _ _ => False) (κ := fun i => [3, 0].getD i 0) [0, 1] (by kernel_rfl) (by kernel_rfl) (fun _ _ d _ _ h => by cases d <;> first | exact h | exact absurd h (hP _ _ _)) ?_
 (refine TD.allocB (by simp only [zK]; rfl) rfl (by rfl) rfl rfl alRdy (fun p4 hp4 => ?n20); try simp only [Act.put, zL])
 (refine TD.val0 (v := ?_) (by simp only [zK]; rfl) rfl (by rfl) (fun w1 => ?_) ?_; rotate_left; (next => go_simp; try with_reducible rfl); try simp only [Act.put, zL])
 refine TD.nil (fun w1 hr => ?_)
 have kp4 := hr.box p4 _ (by first | exact Bx.set_same _ _ _ | (simp only [Bx.set_same]; rfl)); dsimp only [Value.cells] at kp4; obtain ⟨gp4, kp4⟩ := kp4
 have HM1 := Lib.hid hr.mod
 have HGP4 := Lib.hid gp4
 clear hr
 go_upto_region 1 with fail
 have Lkp4 := lt_size kp4
 refine wp_pass0 (C := fun _ _ v => v = .tuple #[.slice none 0 0, .int .i64 2]) (κ := fun i => [0, 0, 2, 0, 0, 0, 0, 0].getD i 0) [0, 1, 2, 3, 4, 5, 6, 7] (by kernel_rfl) (by kernel_rfl) (fun _ _ d _ _ h => by cases d <;> first | exact h | exact absurd h (hP _ _ _)) ?_
 (refine TD.val0 (v := ?_) (by simp only [zK]; rfl) rfl (by rfl) (fun w1 => ?_) ?_; rotate_left; (next => go_simp; try with_reducible rfl); try simp only [Act.put, zL])
 (refine TD.build (v := ?v23) (ps := ?p23) (by simp only [zK]; rfl) rfl (by rfl) rfl ?hx23 (fun w1 => ?y23) ?n23; (case hx23 => (simp only [List.map_toArray, List.map_cons, List.map_nil, Act.eval, zM]; (try rfl))); (case y23 => (rw [hbk]; (try with_reducible rfl))); try simp only [Act.put, zL])
 (refine TD.call (f := ?f24) (args := ?r24) (Mod.refl _ _) (by simp only [zK]; rfl) rfl (by rfl) (fun w1 => ?y24) ?hsp24 ?n24; (case y24 => (go_simp; (first | with_reducible rfl | (constructor <;> with_reducible rfl)))); (case hsp24 => (intro wq hSq; have kp4q := hSq.at kp4 (fun h => h); exact (findV_c (r := r) key0 wq ((HM1.out.then0 hSq).at kr (fun h => h))).mono (fun e w' h => ⟨_, h.1, rfl, h.2⟩))); rintro _ hC; subst hC; try simp only [Act.put, zL])
 iterate 5 (refine TD.val0 (v := ?_) (by simp only [zK]; rfl) rfl (by rfl) (fun w1 => ?_) ?_; rotate_left; (next => go_simp; try with_reducible rfl); try simp only [Act.put, zL])
 refine TD.nil (fun w2 hr => ?_)
 replace kp4 := hr.mod.at kp4 (fun h => h)
 have HM2 := Lib.hid (HM1.out.then0 hr.mod)
 clear hr
 go_upto_region 2 with fail
 have Lkp4 := lt_size kp4
 refine wp_pass0 (C := fun _ _ v => v = .bool true) (κ := fun i => [0, 0, 0, 2].getD i 0) [0, 1, 2, 3] (by kernel_rfl) (by kernel_rfl) (fun _ _ d _ _ h => by cases d <;> first | exact h | exact absurd h (hP _ _ _)) ?_
 iterate 3 (refine TD.val0 (v := ?_) (by simp only [zK]; rfl) rfl (by rfl) (fun w1 => ?_) ?_; rotate_left; (next => go_simp; try with_reducible rfl); try simp only [Act.put, zL])
 (refine TD.call (f := ?f33) (args := ?r33) (Mod.refl _ _) (by simp only [zK]; rfl) rfl (by rfl) (fun w1 => ?y33) ?hsp33 ?n33; (case y33 => (go_simp; (first | with_reducible rfl | (constructor <;> with_reducible rfl)))); (case hsp33 => (intro wq hSq; have kp4q := hSq.at kp4 (fun h => h); exact (eIs_c 2 2 wq).mono (fun e w' h => ⟨_, by rw [h.1, hd0], rfl, by rw [h.2]; exact Mod.refl _ _⟩))); rintro _ hC; subst hC; try simp only [Act.put, zL])
 refine TD.nil (fun w3 hr => ?_)
 replace kp4 := hr.mod.at kp4 (fun h => h)
 have HM3 := Lib.hid (HM2.out.then0 hr.mod)
 clear hr hd0
 go_upto_region 3 with fail
 have Lkp4 := lt_size kp4
 refine wp_pass0 (C := fun _ _ _ => False) (κ := fun i => [0, 0, 5, 0].getD i 0) [0, 1, 2, 3] (by kernel_rfl) (by kernel_rfl) (fun _ _ d _ _ h => by cases d <;> first | exact h | exact absurd h (hP _ _ _)) ?_
 (refine TD.build (v := ?v34) (ps := ?p34) (by simp only [zK]; rfl) rfl (by rfl) rfl ?hx34 (fun w1 => ?y34) ?n34; (case hx34 => (simp only [List.map_toArray, List.map_cons, List.map_nil, Act.eval, zM]; (try rfl))); (case y34 => (rw [hbr]; (try with_reducible rfl))); try simp only [Act.put, zL])
 (refine TD.val0 (v := ?_) (by simp only [zK]; rfl) rfl (by rfl) (fun w1 => ?_) ?_; rotate_left; (next => go_simp; try with_reducible rfl); try simp only [Act.put, zL])
 refine TD.eff (by simp only [zK]; rfl) rfl (fun w4 hr => ?_)
 replace kp4 := hr.mod.at kp4 (fun h => h)
 have HMz := Lib.hid (HM3.out.then0 hr.mod)
 clear hr
 (refine eff_store (X := ?X37) (Y := ?Y37) (w' := ?w37) (by simp only [zK]; rfl) (by rfl) rfl ?hx37 ?hz37 ?y37 ?n37; (case hx37 => simp only [Act.eval, zM]; try rfl); (case hz37 => simp only [Act.eval, zM]; try rfl); (case y37 => go_simp; try with_reducible rfl))
 (first | refine TE.mid_set kp4 (fun wn kp4 mS => ?_) | refine TE.mid_setCell kp4 (fun wn kp4 mS => ?_))
 have HMy := Lib.hid (HMz.out.thenB mS (.inl gp4))
 clear mS
 (refine TE.val0 (v := ?v38) (by simp only [zK]; rfl) (by rfl) (fun w1 => ?y38) ?n38; (case y38 => go_simp; try with_reducible rfl); try simp only [Act.put, zL])
 refine TE.nil ?_
 go_wp2_with fail
 refine bodyPost_ret (results_ct rfl rfl (ldRdyZ kp4)) rfl ?_
 exact ⟨rfl, HMy.out⟩
theorem bReg0 (w : World) : (Instr.build 48 #[]).run Tryz.prog w = .ok (.agg #[.map none]) w := by kernel_rfl
theorem rd0_rd (w : World) : RyRd w rd0 := ⟨⟨.inl rfl, by decide⟩, ⟨⟨.inl rfl, by decide⟩, ⟨.inl rfl, by decide⟩, ⟨.inl rfl, by decide, fun i h => by cases h⟩, .inl rfl, by decide, fun i h => by cases h⟩, .inl rfl, by decide⟩
set_option maxRecDepth 20000 in
set_option maxHeartbeats 3200000 in
theorem noneLaw_c (a : Option Addr) (n c : Nat) (w : World) (hB : BudW w) :
  Calls Tryz.prog 3 #[.slice a n c] w fun e w' => e = .returned (.bool true) ∧ Mod (fun _ => False) w w' := by
 have HB := Lib.hid hB
 have hbr := bRdy0
 have hbv := bReg0
 clear hB
 go_enter Tryz.func3, Tryz.ntmps3
 by_cases hbig : 5000 < n
 ·have hd := decide_eq_true hbig
  have hd2 : decide ((n : Int) > 5000) = true := decide_eq_true (by omega)
  clear hbig
  go_wp2_with fail
  go_at_call 8
  refine (lives_c _ HB.out).mono ?_
  rintro e w2 ⟨rfl, m2⟩
  go_wp2_with fail
  go_ret
  exact ⟨rfl, m2⟩
 ·have hd := decide_eq_false hbig
  have hd2 : decide ((n : Int) > 5000) = false := decide_eq_false (by omega)
  clear hbig
  have hC := readyN_c (r := 0) (.slice a n c) w
  go_upto_region 3 with fail
  refine region_seq 8 rfl ?_
  simp only [List.range, List.range.loop]
  (refine sq_val (v := ?_) (by simp only [zK]; rfl) (by rfl) ?_ ?_; rotate_left; (next => go_simp; try with_reducible rfl); try simp only [Act.put, zL])
  (refine sq_callT (by simp only [zK]; rfl) (by rfl) ?y40 hC ?hout (fun vn wn hR => ?hret) (fun ch wn hR => ?hpan); (case y40 => (go_simp; (try (first | with_reducible rfl | (constructor <;> with_reducible rfl))))))
  case hout =>
   rintro w' ⟨h, _⟩
   cases h
  case hpan =>
   obtain ⟨h, _⟩ := hR
   cases h
  case hret =>
  obtain ⟨e0, hm⟩ := hR
  cases e0
  have HM1 := Lib.hid hm
  clear hC hm
  obtain ⟨w1, rfl⟩ : ∃ w1 : World, w1 = wn := ⟨_, rfl⟩
  iterate 3 (refine sq_val (v := ?_) (by simp only [zK]; rfl) (by rfl) ?_ ?_; rotate_left; (next => go_simp; try with_reducible rfl); try simp only [Act.put, zL])
  (refine sq_alloc (by simp only [zK]; rfl) (by rfl) rfl alRdy (fun p3 wn gp3 kp3 mp3 => ?n44); try simp only [Act.put, zL])
  (refine sq_store (X := ?X45) (Y := ?Y45) (w' := ?w45) (by simp only [zK]; rfl) (by rfl) rfl rfl ?hx45 ?hz45 ?y45 ?n45; (case hx45 => simp only [Act.eval, zM]; try rfl); (case hz45 => simp only [Act.eval, zM]; try rfl); (case y45 => go_simp; try with_reducible rfl))
  (first | refine sq_set kp3 (fun wn kp3 mS => ?_) | refine sq_setCell kp3 (fun wn kp3 mS => ?_))
  (refine sq_val (v := ?_) (by simp only [zK]; rfl) (by rfl) ?_ ?_; rotate_left; (next => go_simp; try with_reducible rfl); try simp only [Act.put, zL])
  refine sq_nil ?_
  have HM2 : Hid (Mod (fun _ => False) w wn) := Lib.hid ((HM1.out.trans mp3).then mS (fun i hi e => by have := HM1.out.size; omega))
  clear mp3 mS gp3
  obtain ⟨w2, rfl⟩ : ∃ w2 : World, w2 = wn := ⟨_, rfl⟩
  go_upto_region 4 with fail
  refine region_seq 10 rfl ?_
  simp only [List.range, List.range.loop]
  (refine sq_val (v := ?_) (by simp only [zK]; rfl) (by rfl) ?_ ?_; rotate_left; (next => go_simp; try with_reducible rfl); try simp only [Act.put, zL])
  (refine sq_bldS (by simp only [zK]; rfl) (by rfl) rfl ?hx48 (hbv _) ?n48; (case hx48 => (simp only [List.map_toArray, List.map_cons, List.map_nil, Act.eval, zM]; (try rfl))); try simp only [Act.put, zL])
  (refine sq_box (v := ?v49) (by simp only [zK]; rfl) (by rfl) rfl ?hx49 ?n49; (case hx49 => simp only [Act.eval, zM]; try rfl); dsimp only [Value.cells]; try simp only [Act.put, zL])
  generalize hw5 : w2.alloc _ = w5
  have kb : w5.heap[w2.heap.size]? = some (.cells #[.map none] 48 (0, 0)) := by rw [← hw5]; exact heap_alloc_new _ _
  have mb : Mod (fun _ => False) w2 w5 := by rw [← hw5]; exact (Mod.refl _ _).alloc _
  have HM3 := Lib.hid (HM2.out.trans mb)
  replace kp3 := mb.at0 kp3
  have hC := readyV_c (.slice a n c) w5 kb
  clear hw5 mb
  (refine sq_callT (by simp only [zK]; rfl) (by rfl) ?y50 hC ?hout (fun vn wn hR => ?hret) (fun ch wn hR => ?hpan); (case y50 => (go_simp; (try (first | with_reducible rfl | (constructor <;> with_reducible rfl))))))
  case hout =>
   rintro w' ⟨h, _⟩
   cases h
  case hpan =>
   obtain ⟨h, _⟩ := hR
   cases h
  case hret =>
  obtain ⟨e0, hm⟩ := hR
  cases e0
  have HM4 := Lib.hid (HM3.out.trans hm)
  replace kp3 := hm.at0 kp3
  clear hC hm kb
  obtain ⟨w6, rfl⟩ : ∃ w6 : World, w6 = wn := ⟨_, rfl⟩
  iterate 3 (refine sq_val (v := ?_) (by simp only [zK]; rfl) (by rfl) ?_ ?_; rotate_left; (next => go_simp; try with_reducible rfl); try simp only [Act.put, zL])
  (refine sq_alloc (by simp only [zK]; rfl) (by rfl) rfl alRdy (fun p5 wn gp5 kp5 mp5 => ?n54); try simp only [Act.put, zL])
  (refine sq_store (X := ?X55) (Y := ?Y55) (w' := ?w55) (by simp only [zK]; rfl) (by rfl) rfl rfl ?hx55 ?hz55 ?y55 ?n55; (case hx55 => simp only [Act.eval, zM]; try rfl); (case hz55 => simp only [Act.eval, zM]; try rfl); (case y55 => go_simp; try with_reducible rfl))
  (first | refine sq_set kp5 (fun wn kp5 mS => ?_) | refine sq_setCell kp5 (fun wn kp5 mS => ?_))
  (refine sq_val (v := ?_) (by simp only [zK]; rfl) (by rfl) ?_ ?_; rotate_left; (next => go_simp; try with_reducible rfl); try simp only [Act.put, zL])
  refine sq_nil ?_
  have hp3 := lt_size kp3
  have HM5 : Hid (Mod (fun _ => False) w wn) := Lib.hid ((HM4.out.trans mp5).then mS (fun i hi e => by have := HM4.out.size; omega))
  have kp3' : wn.heap[p3]? = some (.cells zRdy 41 (0, 0)) := mS.at_ne (mp5.at0 kp3) (fun e => by omega)
  clear kp3
  have kp3 := kp3'
  clear mp5 mS gp5 kp3' hp3
  obtain ⟨w7, rfl⟩ : ∃ w7 : World, w7 = wn := ⟨_, rfl⟩
  go_upto_region 5 with fail
  have Lkp3 := lt_size kp3
  have Lkp5 := lt_size kp5
  refine wp_pass0 (C := fun _ _ v => v = .bool true) (κ := fun i => [0, 0, 0, 0, 0, 0, 0, 1, 0, 2, 0, 0, 1, 0, 2, 0, 0, 2, 0, 0].getD i 0) [0, 1, 2, 3, 4, 5, 6, 7, 8, 9, 10, 11, 12, 13, 14, 15, 16, 17, 18, 19] (by kernel_rfl) (by kernel_rfl) (fun _ _ d _ _ h => by cases d <;> first | exact h | exact absurd h (hP _ _ _)) ?_
  iterate 7 (refine TD.val0 (v := ?_) (by simp only [zK]; rfl) rfl (by rfl) (fun w1 => ?_) ?_; rotate_left; (next => go_simp; try with_reducible rfl); try simp only [Act.put, zL])
  (refine TD.load (v := ?v64) (p := ?p64) (Mod.refl _ _) (by simp only [zK]; rfl) rfl (by rfl) rfl ?hx64 (fun wq hSq => ?y64) ?n64; (case hx64 => simp only [Act.eval, zM]; try rfl); (case y64 => (have kp3q := hSq.at kp3 (fun h => h); have kp5q := hSq.at kp5 (fun h => h); exact (ldRdyZ kp3q))); try simp only [Act.put, zL])
  (refine TD.build (v := ?v65) (ps := ?p65) (by simp only [zK]; rfl) rfl (by rfl) rfl ?hx65 (fun w1 => ?y65) ?n65; (case hx65 => (simp only [List.map_toArray, List.map_cons, List.map_nil, Act.eval, zM]; (try rfl))); (case y65 => (rw [hbr]; (try with_reducible rfl))); try simp only [Act.put, zL])
  (refine TD.call (f := ?f66) (args := ?r66) (Mod.refl _ _) (by simp only [zK]; rfl) rfl (by rfl) (fun w1 => ?y66) ?hsp66 ?n66; (case y66 => (go_simp; (first | with_reducible rfl | (constructor <;> with_reducible rfl)))); (case hsp66 => (intro wq hSq; have kp3q := hSq.at kp3 (fun h => h); have kp5q := hSq.at kp5 (fun h => h); exact (sameReady_c rd0 rd0 wq (rd0_rd wq) (rd0_rd wq) rfl).mono (fun e w' h => ⟨_, h.1, rfl, h.2⟩))); rintro _ hC; subst hC; try simp only [Act.put, zL])
  iterate 2 (refine TD.val0 (v := ?_) (by simp only [zK]; rfl) rfl (by rfl) (fun w1 => ?_) ?_; rotate_left; (next => go_simp; try with_reducible rfl); try simp only [Act.put, zL])
  (refine TD.load (v := ?v69) (p := ?p69) (Mod.refl _ _) (by simp only [zK]; rfl) rfl (by rfl) rfl ?hx69 (fun wq hSq => ?y69) ?n69; (case hx69 => simp only [Act.eval, zM]; try rfl); (case y69 => (have kp3q := hSq.at kp3 (fun h => h); have kp5q := hSq.at kp5 (fun h => h); exact (ldRdyZ kp5q))); try simp only [Act.put, zL])
  (refine TD.build (v := ?v70) (ps := ?p70) (by simp only [zK]; rfl) rfl (by rfl) rfl ?hx70 (fun w1 => ?y70) ?n70; (case hx70 => (simp only [List.map_toArray, List.map_cons, List.map_nil, Act.eval, zM]; (try rfl))); (case y70 => (rw [hbr]; (try with_reducible rfl))); try simp only [Act.put, zL])
  (refine TD.call (f := ?f71) (args := ?r71) (Mod.refl _ _) (by simp only [zK]; rfl) rfl (by rfl) (fun w1 => ?y71) ?hsp71 ?n71; (case y71 => (go_simp; (first | with_reducible rfl | (constructor <;> with_reducible rfl)))); (case hsp71 => (intro wq hSq; have kp3q := hSq.at kp3 (fun h => h); have kp5q := hSq.at kp5 (fun h => h); exact (sameReady_c rd0 rd0 wq (rd0_rd wq) (rd0_rd wq) rfl).mono (fun e w' h => ⟨_, h.1, rfl, h.2⟩))); rintro _ hC; subst hC; try simp only [Act.put, zL])
  iterate 2 (refine TD.val0 (v := ?_) (by simp only [zK]; rfl) rfl (by rfl) (fun w1 => ?_) ?_; rotate_left; (next => go_simp; try with_reducible rfl); try simp only [Act.put, zL])
  (refine TD.call (f := ?f74) (args := ?r74) (Mod.refl _ _) (by simp only [zK]; rfl) rfl (by rfl) (fun w1 => ?y74) ?hsp74 ?n74; (case y74 => (go_simp; (first | with_reducible rfl | (constructor <;> with_reducible rfl)))); (case hsp74 => (intro wq hSq; have kp3q := hSq.at kp3 (fun h => h); have kp5q := hSq.at kp5 (fun h => h); exact (lives_c wq (HB.out.mod0 (HM5.out.then0 hSq))).mono (fun e w' h => ⟨_, h.1, rfl, h.2⟩))); rintro _ hC; subst hC; try simp only [Act.put, zL])
  iterate 2 (refine TD.val0 (v := ?_) (by simp only [zK]; rfl) rfl (by rfl) (fun w1 => ?_) ?_; rotate_left; (next => go_simp; try with_reducible rfl); try simp only [Act.put, zL])
  refine TD.nil (fun w8 hr => ?_)
  replace kp3 := hr.mod.at kp3 (fun h => h)
  replace kp5 := hr.mod.at kp5 (fun h => h)
  have HM8 := Lib.hid (HM5.out.then0 hr.mod)
  clear hr
  go_wp2_with fail
  go_ret
  exact ⟨rfl, HM8.out⟩
end Go.Proofs.YtiaehkkkcaeaiaaGreatDoor
