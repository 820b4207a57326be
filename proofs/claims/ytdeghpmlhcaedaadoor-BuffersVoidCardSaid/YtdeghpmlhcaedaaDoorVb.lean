/- Buffers that are not there, or that no call made; the walk of BuffersVoid. -/
import Derived.Test.YtdeghpmlhcaedaaDoorLv
namespace Go.Proofs.YtdeghpmlhcaedaaDoor
open Go.RowKit
open Go.ChangeMaps (setBlock)
set_option linter.unusedSimpArgs false
set_option linter.unusedVariables false
attribute [local go_sem ↓] wlItem ldItem stItem wlRdy ldRdy stRdy
attribute [local go_sem] cell_blk frozen_blk one_int one_bool one_ptr one_slice one_map Value.cells itr_size itr_all itr_one itr_one' itr_n itr_prio itr_pl itr_sent itr_n' itr_prio' itr_pl' itr_sent' itr_r zItem_size zItem_all zItem_one rdr_size rdr_all rdr_one rdr_one'
def zBuf : Array Value := #[.pointer none, .pointer none]
theorem ldBuf (w : World) (b o : Nat) : (Instr.loadAt 84 (.pointer (some ⟨b, o, none⟩))).run Tryd.prog w =
      match w.heap[b]? with
      | some (.cells cs _ _) => if o + 2 ≤ cs.size then .ok (.agg (cs.extract o (o + 2))) w else farL Tryd.prog w 84 b o
      | _ => farL Tryd.prog w 84 b o := load_rule (d := _) Tryd.underlying84 rfl (by kernel_rfl) w b o
theorem stBuf (w : World) (b o : Nat) (xs : Array Value) : (Instr.storeAt 84 (.pointer (some ⟨b, o, none⟩)) (.agg xs)).run Tryd.prog w =
      match w.heap[b]? with
      | some (.cells cs U (0, 0)) =>
        if o + 2 ≤ cs.size ∧ xs.size = 2 ∧ xs.all (·.oneCell') = true then .ok () (setBlock w b (.cells (if o = 0 ∧ 2 = cs.size then xs else wr cs o xs.toList) U (0, 0))) else farS Tryd.prog w 84 b o (.agg xs)
      | _ => farS Tryd.prog w 84 b o (.agg xs) := store_rule (by kernel_rfl) w b o xs
theorem wlBuf (dst : Option Tmp) (x : Operand) (ty : TypeId) (pos : String) (after : Array Edge) (g : Option (Nat × Bool)) (a : Act) (w : World) (K : Act → World → Prop) (Q : Exit → Act → World → Prop) :
    Oper.wp Tryd.prog { dst := dst, op := .load 84 x, type := ty, pos := pos, after := after, guard := g } a w K Q =
      (match a.eval x with
      | .pointer (some ⟨b, o, none⟩) =>
        (match w.heap[b]? with
        | some (.cells cs _ _) => if o + 2 ≤ cs.size then K (a.put dst (.agg (cs.extract o (o + 2)))) w else farW Tryd.prog { dst := dst, op := .load 84 x, type := ty, pos := pos, after := after, guard := g } a w K Q
        | _ => farW Tryd.prog { dst := dst, op := .load 84 x, type := ty, pos := pos, after := after, guard := g } a w K Q)
      | _ => farW Tryd.prog { dst := dst, op := .load 84 x, type := ty, pos := pos, after := after, guard := g } a w K Q) := wp_load_rule (d := _) Tryd.underlying84 rfl (by kernel_rfl) dst x ty pos after g a w K Q
theorem alBuf (w : World) : (Instr.alloc 84 true (.tuple #[])).run Tryd.prog w = .ok (.pointer (some ⟨w.heap.size, 0, none⟩)) (w.alloc (.cells zBuf 84)) :=
  run_alloc_row (z := .agg zBuf) (fun w => by kernel_rfl) w
/-- A buffer that is not there, or that no call made. -/
def Voi (w : World) (a : Option Addr) : Prop := a = none ∨ ∃ h, a = some ⟨h, 0, none⟩ ∧ w.heap[h]? = some (.cells zBuf 84 (0, 0))
theorem Voi.mod0 {w w' : World} {a : Option Addr} (h : Voi w a) (hm : Mod (fun _ => False) w w') : Voi w' a := by
  rcases h with h | ⟨b, h, k⟩
  · exact .inl h
  · exact .inr ⟨b, h, hm.at0 k⟩
set_option maxRecDepth 20000 in
theorem thV_c {w : World} {a : Option Addr} (h : Voi w a) : Calls Tryd.prog 26 #[.pointer a] w fun e w' => e = .returned (.bool false) ∧ w' = w := by
  rcases h with rfl | ⟨b, rfl, k⟩
  · go_enter Tryd.func26, Tryd.ntmps26
    go_wp2_with fail
    go_ret
    exact ⟨rfl, rfl⟩
  · replace k : w.heap[b]? = some (.cells #[.pointer none, .pointer none] 84 (0, 0)) := k
    go_enter Tryd.func26, Tryd.ntmps26
    go_wp2_with fail
    go_ret
    exact ⟨rfl, rfl⟩
section
variable {w : World} {a : Option Addr}
set_option maxRecDepth 20000 in
set_option maxHeartbeats 1600000 in
theorem addV_c (hv : Voi w a) (n : Int) (x : RdR) : Calls Tryd.prog 9 #[.pointer a, .int .u64 n, .agg (rdr x)] w fun e w' => e = .returned (.tuple #[.int .i64 0, .slice none 0 0, .int .i64 2]) ∧ Mod (fun _ => False) w w' := by
  have HV := Lib.hid hv
  have m0 := Mod.refl (fun _ => False) w
  clear hv
  go_enter Tryd.func9, Tryd.ntmps9
  go_upto_region 0 with fail
  refine wp_pass0 (C := fun _ _ _ => False) (κ := fun i => [3, 0, 0, 0].getD i 0) [0, 1, 2, 3] (by kernel_rfl) (by kernel_rfl) (fun _ _ d _ _ h => by cases d <;> first | exact h | exact absurd h (hP _ _ _)) ?_
  (refine TD.box (v := ?v1) (by simp only [zA, zB, zC]; rfl) rfl ?hw1 rfl rfl ?hx1 (fun p5 hp5 => ?hn1); (case hw1 => rfl); (case hx1 => (simp only [Act.eval, zD, zA, zB, zC, zE]; (try rfl))); (try simp only [Act.put, zF, zG, zH]))
  (refine TD.val0 (v := ?v2) (by simp only [zA, zB, zC]; rfl) rfl ?hw2 (fun w1 => ?hy2) ?hn2; (case hw2 => rfl); (case hy2 => (go_simp; (try with_reducible rfl))); (try simp only [Act.put, zF, zG, zH]))
  (refine TD.val0 (v := ?v3) (by simp only [zA, zB, zC]; rfl) rfl ?hw3 (fun w1 => ?hy3) ?hn3; (case hw3 => rfl); (case hy3 => (go_simp; (try with_reducible rfl))); (try simp only [Act.put, zF, zG, zH]))
  (refine TD.val0 (v := ?v4) (by simp only [zA, zB, zC]; rfl) rfl ?hw4 (fun w1 => ?hy4) ?hn4; (case hw4 => rfl); (case hy4 => (go_simp; (try with_reducible rfl))); (try simp only [Act.put, zF, zG, zH]))
  refine TD.nil (fun w1 hr => ?_)
  have kp5 := hr.box p5 _ (by first | exact Bx.set_same _ _ _ | (simp only [Bx.set_same]; rfl)); dsimp only [Value.cells] at kp5; obtain ⟨gp5, kp5⟩ := kp5
  have m1 := hr.mod
  clear hr
  go_wp2_with fail
  go_at_call 26
  refine (thV_c (HV.out.mod0 m1)).mono ?_
  rintro e w2 ⟨rfl, rfl⟩
  go_wp2_with fail
  exact bodyPost_ret (results_tmp3 rfl _ _ _) rfl ⟨rfl, m1⟩
set_option maxRecDepth 20000 in
theorem popV_c (hv : Voi w a) : Calls Tryd.prog 15 #[.pointer a] w fun e w' => e = .returned (.tuple #[.int .i64 0, .bool false]) ∧ Mod (fun _ => False) w w' := by
  have HV := Lib.hid hv
  have m0 := Mod.refl (fun _ => False) w
  clear hv
  go_enter Tryd.func15, Tryd.ntmps15
  go_wp2_with fail
  go_at_call 26
  refine (thV_c (HV.out.mod0 m0)).mono ?_
  rintro e w2 ⟨rfl, rfl⟩
  go_wp2_with fail
  exact bodyPost_ret (results_tmp2 rfl _ _ _) rfl ⟨rfl, m0⟩
set_option maxRecDepth 20000 in
set_option maxHeartbeats 1600000 in
theorem heldV_c (hv : Voi w a) (n : Int) : Calls Tryd.prog 36 #[.pointer a, .int .i64 n] w fun e w' => e = .returned (.tuple #[.agg zItem, .int .i64 2]) ∧ Mod (fun _ => False) w w' := by
  have HV := Lib.hid hv
  have m0 := Mod.refl (fun _ => False) w
  clear hv
  go_enter Tryd.func36, Tryd.ntmps36
  go_upto_region 0 with fail
  refine wp_pass0 (C := fun _ _ _ => False) (κ := fun i => [3, 0].getD i 0) [0, 1] (by kernel_rfl) (by kernel_rfl) (fun _ _ d _ _ h => by cases d <;> first | exact h | exact absurd h (hP _ _ _)) ?_
  (refine TD.allocB (by simp only [zA, zB, zC]; rfl) rfl ?hw5 rfl rfl alItem (fun p4 hp4 => ?hn5); (case hw5 => rfl); (try simp only [Act.put, zF, zG, zH]))
  (refine TD.val0 (v := ?v6) (by simp only [zA, zB, zC]; rfl) rfl ?hw6 (fun w1 => ?hy6) ?hn6; (case hw6 => rfl); (case hy6 => (go_simp; (try with_reducible rfl))); (try simp only [Act.put, zF, zG, zH]))
  refine TD.nil (fun w1 hr => ?_)
  have kp4 := hr.box p4 _ (by first | exact Bx.set_same _ _ _ | (simp only [Bx.set_same]; rfl)); dsimp only [Value.cells] at kp4; obtain ⟨gp4, kp4⟩ := kp4
  have m1 := hr.mod
  clear hr
  go_wp2_with fail
  go_at_call 26
  refine (thV_c (HV.out.mod0 m1)).mono ?_
  rintro e w2 ⟨rfl, rfl⟩
  go_upto_region 2 with fail
  have Lkp4 := lt_size kp4
  refine wp_pass0 (C := fun _ _ _ => False) (κ := fun i => [1, 5, 0].getD i 0) [0, 1, 2] (by kernel_rfl) (by kernel_rfl) (fun _ _ d _ _ h => by cases d <;> first | exact h | exact absurd h (hP _ _ _)) ?_
  (refine TD.load (v := ?v7) (p := ?p7) (Mod.refl _ _) (by simp only [zA, zB, zC]; rfl) rfl ?hw7 rfl ?hx7 (fun wq hSq => ?hy7) ?hn7; (case hw7 => rfl); (case hx7 => (simp only [Act.eval, zD, zA, zB, zC, zE]; (try rfl))); (case hy7 => (have kp4q := hSq.at kp4 (fun h => h); go_simp; (try with_reducible rfl))); (try simp only [Act.put, zF, zG, zH]))
  refine TD.eff (by simp only [zA, zB, zC]; rfl) rfl (fun w3 hr => ?_)
  have kp4 := hr.mod.at kp4 (fun h => h)
  have m3 := m1.then0 hr.mod
  clear hr
  (refine eff_store (X := ?X9) (Y := ?Y9) (w' := ?w9) (by simp only [zA, zB, zC]; rfl) ?hw9 rfl ?hx9 ?hz9 ?hy9 ?hn9; (case hw9 => rfl); (case hx9 => (simp only [Act.eval, zD, zA, zB, zC, zE]; (try rfl))); (case hz9 => (simp only [Act.eval, zD, zA, zB, zC, zE]; (try rfl))); (case hy9 => (go_simp; (try with_reducible rfl))))
  (first | refine TE.mid_set kp4 (fun wn kp4 mS => ?_) | refine TE.mid_setCell kp4 (fun wn kp4 mS => ?_))
  (try simp only [Array.setIfInBounds, zF, zG, zH] at kp4)
  have m4 := m3.thenB mS (.inl gp4)
  clear mS
  (refine TE.val0 (v := ?v10) (by simp only [zA, zB, zC]; rfl) ?hw10 (fun w1 => ?hy10) ?hn10; (case hw10 => rfl); (case hy10 => (go_simp; (try with_reducible rfl))); (try simp only [Act.put, zF, zG, zH]))
  refine TE.nil ?_
  go_wp2_with fail
  exact bodyPost_ret (results_cell2 (x := .agg zItem) rfl rfl (by rw [ldItem]; simp [kp4, zItem, itr_all, itr_size])) rfl ⟨rfl, m4⟩
set_option maxRecDepth 20000 in
set_option maxHeartbeats 1600000 in
theorem BackV_c (hv : Voi w a) (n : Int) : Calls Tryd.prog 18 #[.pointer a, .int .i64 n] w fun e w' => e = .returned (.int .i64 2) ∧ Mod (fun _ => False) w w' := by
  have HV := Lib.hid hv
  have m0 := Mod.refl (fun _ => False) w
  clear hv
  go_enter Tryd.func18, Tryd.ntmps18
  go_upto_region 1 with fail
  refine wp_pass0 (C := fun _ _ v => v = .tuple #[.agg zItem, .int .i64 2]) (κ := fun i => [0, 0, 2, 0, 0, 0, 3, 4, 0].getD i 0) [0, 1, 2, 3, 4, 5, 6, 7, 8] (by kernel_rfl) (by kernel_rfl) (fun _ _ d _ _ h => by cases d <;> first | exact h | exact absurd h (hP _ _ _)) ?_
  (refine TD.val0 (v := ?v11) (by simp only [zA, zB, zC]; rfl) rfl ?hw11 (fun w1 => ?hy11) ?hn11; (case hw11 => rfl); (case hy11 => (go_simp; (try with_reducible rfl))); (try simp only [Act.put, zF, zG, zH]))
  (refine TD.val0 (v := ?v12) (by simp only [zA, zB, zC]; rfl) rfl ?hw12 (fun w1 => ?hy12) ?hn12; (case hw12 => rfl); (case hy12 => (go_simp; (try with_reducible rfl))); (try simp only [Act.put, zF, zG, zH]))
  (refine TD.call (f := ?f13) (args := ?r13) (Mod.refl _ _) (by simp only [zA, zB, zC]; rfl) rfl ?hw13 (fun w1 => ?hy13) ?hsp13 ?hn13; (case hw13 => rfl); (case hy13 => (go_simp; (first | with_reducible rfl | (constructor <;> with_reducible rfl)))); (case hsp13 => (intro wq hSq; exact (heldV_c (HV.out.mod0 hSq) n).mono (fun e w' h => ⟨_, h.1, rfl, h.2⟩))); rintro _ rfl; (try simp only [Act.put, zF, zG, zH]))
  (refine TD.val0 (v := ?v14) (by simp only [zA, zB, zC]; rfl) rfl ?hw14 (fun w1 => ?hy14) ?hn14; (case hw14 => rfl); (case hy14 => (go_simp; (try with_reducible rfl))); (try simp only [Act.put, zF, zG, zH]))
  (refine TD.val0 (v := ?v15) (by simp only [zA, zB, zC]; rfl) rfl ?hw15 (fun w1 => ?hy15) ?hn15; (case hw15 => rfl); (case hy15 => (go_simp; (try with_reducible rfl))); (try simp only [Act.put, zF, zG, zH]))
  (refine TD.val0 (v := ?v16) (by simp only [zA, zB, zC]; rfl) rfl ?hw16 (fun w1 => ?hy16) ?hn16; (case hw16 => rfl); (case hy16 => (go_simp; (try with_reducible rfl))); (try simp only [Act.put, zF, zG, zH]))
  (refine TD.allocB (by simp only [zA, zB, zC]; rfl) rfl ?hw17 rfl rfl alItem (fun p5 hp5 => ?hn17); (case hw17 => rfl); (try simp only [Act.put, zF, zG, zH]))
  (refine TD.storeB (d := ?d18) (T := ?T18) (y := ?y18) (p := ?p18) (b := ?b18) (v := ?v18) (by simp only [zA, zB, zC]; rfl) rfl ?hw18 ?hd18 ?hop18 ?hev18 ?hx18 ?hb18 ?htag18 (fun w1 hb1 => ?hy18) ?hn18; (case hw18 => rfl); (case hd18 => rfl); (case hop18 => rfl); (case hev18 => (simp only [Act.eval, zD, zA, zB, zC, zE]; (try rfl))); (case hx18 => (simp only [Act.eval, zD, zA, zB, zC, zE]; (try rfl))); (case hb18 => first | exact Bx.set_same _ _ _ | (simp only [Bx.set_same]; rfl)); (case hy18 => (go_simp; (try first | with_reducible rfl | (rw [setCell_blk hb1]; rfl)))); (try simp only [Act.put, zF, zG, zH]))
  (refine TD.val0 (v := ?v19) (by simp only [zA, zB, zC]; rfl) rfl ?hw19 (fun w1 => ?hy19) ?hn19; (case hw19 => rfl); (case hy19 => (go_simp; (try with_reducible rfl))); (try simp only [Act.put, zF, zG, zH]))
  refine TD.nil (fun w3 hr => ?_)
  have kp5 := hr.box p5 _ (by first | exact Bx.set_same _ _ _ | (simp only [Bx.set_same]; rfl)); dsimp only [Value.cells] at kp5; obtain ⟨gp5, kp5⟩ := kp5
  have m3 := hr.mod
  clear hr
  go_wp2_with fail
  go_ret
  exact ⟨rfl, m3⟩
set_option maxRecDepth 20000 in
set_option maxHeartbeats 1600000 in
theorem ParkV_c (hv : Voi w a) (n : Int) : Calls Tryd.prog 17 #[.pointer a, .int .i64 n] w fun e w' => e = .returned (.int .i64 2) ∧ Mod (fun _ => False) w w' := by
  have HV := Lib.hid hv
  have m0 := Mod.refl (fun _ => False) w
  clear hv
  go_enter Tryd.func17, Tryd.ntmps17
  go_upto_region 1 with fail
  refine wp_pass0 (C := fun _ _ v => v = .tuple #[.agg zItem, .int .i64 2]) (κ := fun i => [0, 0, 2, 0, 0, 0, 3, 4, 0].getD i 0) [0, 1, 2, 3, 4, 5, 6, 7, 8] (by kernel_rfl) (by kernel_rfl) (fun _ _ d _ _ h => by cases d <;> first | exact h | exact absurd h (hP _ _ _)) ?_
  (refine TD.val0 (v := ?v20) (by simp only [zA, zB, zC]; rfl) rfl ?hw20 (fun w1 => ?hy20) ?hn20; (case hw20 => rfl); (case hy20 => (go_simp; (try with_reducible rfl))); (try simp only [Act.put, zF, zG, zH]))
  (refine TD.val0 (v := ?v21) (by simp only [zA, zB, zC]; rfl) rfl ?hw21 (fun w1 => ?hy21) ?hn21; (case hw21 => rfl); (case hy21 => (go_simp; (try with_reducible rfl))); (try simp only [Act.put, zF, zG, zH]))
  (refine TD.call (f := ?f22) (args := ?r22) (Mod.refl _ _) (by simp only [zA, zB, zC]; rfl) rfl ?hw22 (fun w1 => ?hy22) ?hsp22 ?hn22; (case hw22 => rfl); (case hy22 => (go_simp; (first | with_reducible rfl | (constructor <;> with_reducible rfl)))); (case hsp22 => (intro wq hSq; exact (heldV_c (HV.out.mod0 hSq) n).mono (fun e w' h => ⟨_, h.1, rfl, h.2⟩))); rintro _ rfl; (try simp only [Act.put, zF, zG, zH]))
  (refine TD.val0 (v := ?v23) (by simp only [zA, zB, zC]; rfl) rfl ?hw23 (fun w1 => ?hy23) ?hn23; (case hw23 => rfl); (case hy23 => (go_simp; (try with_reducible rfl))); (try simp only [Act.put, zF, zG, zH]))
  (refine TD.val0 (v := ?v24) (by simp only [zA, zB, zC]; rfl) rfl ?hw24 (fun w1 => ?hy24) ?hn24; (case hw24 => rfl); (case hy24 => (go_simp; (try with_reducible rfl))); (try simp only [Act.put, zF, zG, zH]))
  (refine TD.val0 (v := ?v25) (by simp only [zA, zB, zC]; rfl) rfl ?hw25 (fun w1 => ?hy25) ?hn25; (case hw25 => rfl); (case hy25 => (go_simp; (try with_reducible rfl))); (try simp only [Act.put, zF, zG, zH]))
  (refine TD.allocB (by simp only [zA, zB, zC]; rfl) rfl ?hw26 rfl rfl alItem (fun p5 hp5 => ?hn26); (case hw26 => rfl); (try simp only [Act.put, zF, zG, zH]))
  (refine TD.storeB (d := ?d27) (T := ?T27) (y := ?y27) (p := ?p27) (b := ?b27) (v := ?v27) (by simp only [zA, zB, zC]; rfl) rfl ?hw27 ?hd27 ?hop27 ?hev27 ?hx27 ?hb27 ?htag27 (fun w1 hb1 => ?hy27) ?hn27; (case hw27 => rfl); (case hd27 => rfl); (case hop27 => rfl); (case hev27 => (simp only [Act.eval, zD, zA, zB, zC, zE]; (try rfl))); (case hx27 => (simp only [Act.eval, zD, zA, zB, zC, zE]; (try rfl))); (case hb27 => first | exact Bx.set_same _ _ _ | (simp only [Bx.set_same]; rfl)); (case hy27 => (go_simp; (try first | with_reducible rfl | (rw [setCell_blk hb1]; rfl)))); (try simp only [Act.put, zF, zG, zH]))
  (refine TD.val0 (v := ?v28) (by simp only [zA, zB, zC]; rfl) rfl ?hw28 (fun w1 => ?hy28) ?hn28; (case hw28 => rfl); (case hy28 => (go_simp; (try with_reducible rfl))); (try simp only [Act.put, zF, zG, zH]))
  refine TD.nil (fun w3 hr => ?_)
  have kp5 := hr.box p5 _ (by first | exact Bx.set_same _ _ _ | (simp only [Bx.set_same]; rfl)); dsimp only [Value.cells] at kp5; obtain ⟨gp5, kp5⟩ := kp5
  have m3 := hr.mod
  clear hr
  go_wp2_with fail
  go_ret
  exact ⟨rfl, m3⟩
set_option maxRecDepth 20000 in
set_option maxHeartbeats 1600000 in
theorem DoneV_c (hv : Voi w a) (n : Int) : Calls Tryd.prog 21 #[.pointer a, .int .i64 n] w fun e w' => e = .returned (.int .i64 2) ∧ Mod (fun _ => False) w w' := by
  have HV := Lib.hid hv
  have m0 := Mod.refl (fun _ => False) w
  clear hv
  go_enter Tryd.func21, Tryd.ntmps21
  go_upto_region 1 with fail
  refine wp_pass0 (C := fun _ _ v => v = .tuple #[.agg zItem, .int .i64 2]) (κ := fun i => [0, 0, 2, 0, 0, 0, 3, 4, 0].getD i 0) [0, 1, 2, 3, 4, 5, 6, 7, 8] (by kernel_rfl) (by kernel_rfl) (fun _ _ d _ _ h => by cases d <;> first | exact h | exact absurd h (hP _ _ _)) ?_
  (refine TD.val0 (v := ?v29) (by simp only [zA, zB, zC]; rfl) rfl ?hw29 (fun w1 => ?hy29) ?hn29; (case hw29 => rfl); (case hy29 => (go_simp; (try with_reducible rfl))); (try simp only [Act.put, zF, zG, zH]))
  (refine TD.val0 (v := ?v30) (by simp only [zA, zB, zC]; rfl) rfl ?hw30 (fun w1 => ?hy30) ?hn30; (case hw30 => rfl); (case hy30 => (go_simp; (try with_reducible rfl))); (try simp only [Act.put, zF, zG, zH]))
  (refine TD.call (f := ?f31) (args := ?r31) (Mod.refl _ _) (by simp only [zA, zB, zC]; rfl) rfl ?hw31 (fun w1 => ?hy31) ?hsp31 ?hn31; (case hw31 => rfl); (case hy31 => (go_simp; (first | with_reducible rfl | (constructor <;> with_reducible rfl)))); (case hsp31 => (intro wq hSq; exact (heldV_c (HV.out.mod0 hSq) n).mono (fun e w' h => ⟨_, h.1, rfl, h.2⟩))); rintro _ rfl; (try simp only [Act.put, zF, zG, zH]))
  (refine TD.val0 (v := ?v32) (by simp only [zA, zB, zC]; rfl) rfl ?hw32 (fun w1 => ?hy32) ?hn32; (case hw32 => rfl); (case hy32 => (go_simp; (try with_reducible rfl))); (try simp only [Act.put, zF, zG, zH]))
  (refine TD.val0 (v := ?v33) (by simp only [zA, zB, zC]; rfl) rfl ?hw33 (fun w1 => ?hy33) ?hn33; (case hw33 => rfl); (case hy33 => (go_simp; (try with_reducible rfl))); (try simp only [Act.put, zF, zG, zH]))
  (refine TD.val0 (v := ?v34) (by simp only [zA, zB, zC]; rfl) rfl ?hw34 (fun w1 => ?hy34) ?hn34; (case hw34 => rfl); (case hy34 => (go_simp; (try with_reducible rfl))); (try simp only [Act.put, zF, zG, zH]))
  (refine TD.allocB (by simp only [zA, zB, zC]; rfl) rfl ?hw35 rfl rfl alItem (fun p5 hp5 => ?hn35); (case hw35 => rfl); (try simp only [Act.put, zF, zG, zH]))
  (refine TD.storeB (d := ?d36) (T := ?T36) (y := ?y36) (p := ?p36) (b := ?b36) (v := ?v36) (by simp only [zA, zB, zC]; rfl) rfl ?hw36 ?hd36 ?hop36 ?hev36 ?hx36 ?hb36 ?htag36 (fun w1 hb1 => ?hy36) ?hn36; (case hw36 => rfl); (case hd36 => rfl); (case hop36 => rfl); (case hev36 => (simp only [Act.eval, zD, zA, zB, zC, zE]; (try rfl))); (case hx36 => (simp only [Act.eval, zD, zA, zB, zC, zE]; (try rfl))); (case hb36 => first | exact Bx.set_same _ _ _ | (simp only [Bx.set_same]; rfl)); (case hy36 => (go_simp; (try first | with_reducible rfl | (rw [setCell_blk hb1]; rfl)))); (try simp only [Act.put, zF, zG, zH]))
  (refine TD.val0 (v := ?v37) (by simp only [zA, zB, zC]; rfl) rfl ?hw37 (fun w1 => ?hy37) ?hn37; (case hw37 => rfl); (case hy37 => (go_simp; (try with_reducible rfl))); (try simp only [Act.put, zF, zG, zH]))
  refine TD.nil (fun w3 hr => ?_)
  have kp5 := hr.box p5 _ (by first | exact Bx.set_same _ _ _ | (simp only [Bx.set_same]; rfl)); dsimp only [Value.cells] at kp5; obtain ⟨gp5, kp5⟩ := kp5
  have m3 := hr.mod
  clear hr
  go_wp2_with fail
  go_ret
  exact ⟨rfl, m3⟩
set_option maxRecDepth 20000 in
set_option maxHeartbeats 1600000 in
theorem SendV_c (hv : Voi w a) (n : Int) : Calls Tryd.prog 22 #[.pointer a, .int .i64 n] w fun e w' => e = .returned (.int .i64 2) ∧ Mod (fun _ => False) w w' := by
  have HV := Lib.hid hv
  have m0 := Mod.refl (fun _ => False) w
  clear hv
  go_enter Tryd.func22, Tryd.ntmps22
  go_upto_region 1 with fail
  refine wp_pass0 (C := fun _ _ v => v = .tuple #[.agg zItem, .int .i64 2]) (κ := fun i => [0, 0, 2, 0, 0, 0, 3, 4, 0].getD i 0) [0, 1, 2, 3, 4, 5, 6, 7, 8] (by kernel_rfl) (by kernel_rfl) (fun _ _ d _ _ h => by cases d <;> first | exact h | exact absurd h (hP _ _ _)) ?_
  (refine TD.val0 (v := ?v38) (by simp only [zA, zB, zC]; rfl) rfl ?hw38 (fun w1 => ?hy38) ?hn38; (case hw38 => rfl); (case hy38 => (go_simp; (try with_reducible rfl))); (try simp only [Act.put, zF, zG, zH]))
  (refine TD.val0 (v := ?v39) (by simp only [zA, zB, zC]; rfl) rfl ?hw39 (fun w1 => ?hy39) ?hn39; (case hw39 => rfl); (case hy39 => (go_simp; (try with_reducible rfl))); (try simp only [Act.put, zF, zG, zH]))
  (refine TD.call (f := ?f40) (args := ?r40) (Mod.refl _ _) (by simp only [zA, zB, zC]; rfl) rfl ?hw40 (fun w1 => ?hy40) ?hsp40 ?hn40; (case hw40 => rfl); (case hy40 => (go_simp; (first | with_reducible rfl | (constructor <;> with_reducible rfl)))); (case hsp40 => (intro wq hSq; exact (heldV_c (HV.out.mod0 hSq) n).mono (fun e w' h => ⟨_, h.1, rfl, h.2⟩))); rintro _ rfl; (try simp only [Act.put, zF, zG, zH]))
  (refine TD.val0 (v := ?v41) (by simp only [zA, zB, zC]; rfl) rfl ?hw41 (fun w1 => ?hy41) ?hn41; (case hw41 => rfl); (case hy41 => (go_simp; (try with_reducible rfl))); (try simp only [Act.put, zF, zG, zH]))
  (refine TD.val0 (v := ?v42) (by simp only [zA, zB, zC]; rfl) rfl ?hw42 (fun w1 => ?hy42) ?hn42; (case hw42 => rfl); (case hy42 => (go_simp; (try with_reducible rfl))); (try simp only [Act.put, zF, zG, zH]))
  (refine TD.val0 (v := ?v43) (by simp only [zA, zB, zC]; rfl) rfl ?hw43 (fun w1 => ?hy43) ?hn43; (case hw43 => rfl); (case hy43 => (go_simp; (try with_reducible rfl))); (try simp only [Act.put, zF, zG, zH]))
  (refine TD.allocB (by simp only [zA, zB, zC]; rfl) rfl ?hw44 rfl rfl alItem (fun p5 hp5 => ?hn44); (case hw44 => rfl); (try simp only [Act.put, zF, zG, zH]))
  (refine TD.storeB (d := ?d45) (T := ?T45) (y := ?y45) (p := ?p45) (b := ?b45) (v := ?v45) (by simp only [zA, zB, zC]; rfl) rfl ?hw45 ?hd45 ?hop45 ?hev45 ?hx45 ?hb45 ?htag45 (fun w1 hb1 => ?hy45) ?hn45; (case hw45 => rfl); (case hd45 => rfl); (case hop45 => rfl); (case hev45 => (simp only [Act.eval, zD, zA, zB, zC, zE]; (try rfl))); (case hx45 => (simp only [Act.eval, zD, zA, zB, zC, zE]; (try rfl))); (case hb45 => first | exact Bx.set_same _ _ _ | (simp only [Bx.set_same]; rfl)); (case hy45 => (go_simp; (try first | with_reducible rfl | (rw [setCell_blk hb1]; rfl)))); (try simp only [Act.put, zF, zG, zH]))
  (refine TD.val0 (v := ?v46) (by simp only [zA, zB, zC]; rfl) rfl ?hw46 (fun w1 => ?hy46) ?hn46; (case hw46 => rfl); (case hy46 => (go_simp; (try with_reducible rfl))); (try simp only [Act.put, zF, zG, zH]))
  refine TD.nil (fun w3 hr => ?_)
  have kp5 := hr.box p5 _ (by first | exact Bx.set_same _ _ _ | (simp only [Bx.set_same]; rfl)); dsimp only [Value.cells] at kp5; obtain ⟨gp5, kp5⟩ := kp5
  have m3 := hr.mod
  clear hr
  go_wp2_with fail
  go_ret
  exact ⟨rfl, m3⟩
theorem findV_c (hv : Voi w a) (n : Int) : Calls Tryd.prog 13 #[.pointer a, .int .i64 n] w fun e w' => ∃ z : ItR, z.con = it0.con ∧ RdNew w.heap.size w' z.r ∧ e = .returned (.tuple #[.agg (itr z), .int .i64 2]) ∧ Mod (fun _ => False) w w' :=
  find_c (y := it0) (fun wq hq => heldV_c (hv.mod0 hq) n) (rd0_ok w) rd0_sm
set_option maxRecDepth 20000 in
theorem LenV_c (hv : Voi w a) : Calls Tryd.prog 11 #[.pointer a] w fun e w' => e = .returned (.int .i64 0) ∧ Mod (fun _ => False) w w' := by
  have HV := Lib.hid hv
  have m0 := Mod.refl (fun _ => False) w
  clear hv
  go_enter Tryd.func11, Tryd.ntmps11
  go_wp2_with fail
  go_at_call 26
  refine (thV_c (HV.out.mod0 m0)).mono ?_
  rintro e w2 ⟨rfl, rfl⟩
  go_wp2_with fail
  go_ret
  exact ⟨rfl, m0⟩
set_option maxRecDepth 20000 in
theorem WaitingV_c (hv : Voi w a) : Calls Tryd.prog 12 #[.pointer a] w fun e w' => e = .returned (.slice none 0 0) ∧ Mod (fun _ => False) w w' := by
  have HV := Lib.hid hv
  have m0 := Mod.refl (fun _ => False) w
  clear hv
  go_enter Tryd.func12, Tryd.ntmps12
  go_wp2_with fail
  go_at_call 26
  refine (thV_c (HV.out.mod0 m0)).mono ?_
  rintro e w2 ⟨rfl, rfl⟩
  go_wp2_with fail
  go_ret
  exact ⟨rfl, m0⟩
set_option maxRecDepth 20000 in
theorem ParkedV_c (hv : Voi w a) : Calls Tryd.prog 20 #[.pointer a] w fun e w' => e = .returned (.slice none 0 0) ∧ Mod (fun _ => False) w w' := by
  have HV := Lib.hid hv
  have m0 := Mod.refl (fun _ => False) w
  clear hv
  go_enter Tryd.func20, Tryd.ntmps20
  go_upto_region 0 with fail
  refine wp_pass0 (C := fun _ _ _ => False) (κ := fun i => [3, 0].getD i 0) [0, 1] (by kernel_rfl) (by kernel_rfl) (fun _ _ d _ _ h => by cases d <;> first | exact h | exact absurd h (hP _ _ _)) ?_
  (refine TD.box (v := ?v47) (by simp only [zA, zB, zC]; rfl) rfl ?hw47 rfl rfl ?hx47 (fun p1 hp1 => ?hn47); (case hw47 => rfl); (case hx47 => (simp only [Act.eval, zD, zA, zB, zC, zE]; (try rfl))); (try simp only [Act.put, zF, zG, zH]))
  (refine TD.val0 (v := ?v48) (by simp only [zA, zB, zC]; rfl) rfl ?hw48 (fun w1 => ?hy48) ?hn48; (case hw48 => rfl); (case hy48 => (go_simp; (try with_reducible rfl))); (try simp only [Act.put, zF, zG, zH]))
  refine TD.nil (fun w1 hr => ?_)
  have kp1 := hr.box p1 _ (by first | exact Bx.set_same _ _ _ | (simp only [Bx.set_same]; rfl)); dsimp only [Value.cells] at kp1; obtain ⟨gp1, kp1⟩ := kp1
  have m1 := hr.mod
  clear hr
  go_wp2_with fail
  go_at_call 26
  refine (thV_c (HV.out.mod0 m1)).mono ?_
  rintro e w2 ⟨rfl, rfl⟩
  go_wp2_with fail
  go_ret
  exact ⟨rfl, m1⟩
end
theorem bsBufs (q : Nat) (w : World) : (Instr.buildSlice 85 2 #[(0, .pointer none), (1, ptrV q)]).run Tryd.prog w = .ok (.slice (some ⟨w.heap.size, 0, none⟩) 2 2) (w.alloc (.cells #[.pointer none, ptrV q] 24)) := by kernel_rfl
set_option maxRecDepth 20000 in
set_option maxHeartbeats 6400000 in
theorem voidLaw_c (n : UInt64) (id : Int) (w : World) (ht : TabW w) : Calls Tryd.prog 6 #[u64v n, .int .i64 id] w fun e w' => e = .returned (.bool true) ∧ Mod (fun _ => False) w w' := by
  have HT := Lib.hid ht
  clear ht
  go_enter Tryd.func6, Tryd.ntmps6
  go_upto_region 1 with fail
  refine wp_pass0 (C := fun _ _ _ => False) (κ := fun i => [3].getD i 0) [0] (by kernel_rfl) (by kernel_rfl) (fun _ _ d _ _ h => by cases d <;> first | exact h | exact absurd h (hP _ _ _)) ?_
  (refine TD.allocB (by simp only [zA, zB, zC]; rfl) rfl ?hw49 rfl rfl alBuf (fun p5 hp5 => ?hn49); (case hw49 => rfl); (try simp only [Act.put, zF, zG, zH]))
  refine TD.nil (fun w2 hr => ?_)
  have kp5 := hr.box p5 _ (by first | exact Bx.set_same _ _ _ | (simp only [Bx.set_same]; rfl)); dsimp only [Value.cells] at kp5; obtain ⟨gp5, kp5⟩ := kp5
  have m2 := hr.mod
  clear hr
  have hbs := bsBufs p5
  go_upto_region 2 with fail
  have Lkp5 := lt_size kp5
  refine wp_pass0 (C := fun _ _ _ => False) (κ := fun i => [3, 0].getD i 0) [0, 1] (by kernel_rfl) (by kernel_rfl) (fun _ _ d _ _ h => by cases d <;> first | exact h | exact absurd h (hP _ _ _)) ?_
  (refine TD.bslice (by simp only [zA, zB, zC]; rfl) rfl ?hw50 rfl rfl ?hx50 hbs (fun p15 hp15 => ?hn50); (case hw50 => rfl); (case hx50 => (simp only [List.map_toArray, List.map_cons, List.map_nil, Act.eval, zD, zA, zB, zC, zE]; (try rfl))); (try simp only [Act.put, zF, zG, zH]))
  (refine TD.val0 (v := ?v51) (by simp only [zA, zB, zC]; rfl) rfl ?hw51 (fun w1 => ?hy51) ?hn51; (case hw51 => rfl); (case hy51 => (go_simp; (try with_reducible rfl))); (try simp only [Act.put, zF, zG, zH]))
  refine TD.nil (fun w3 hr => ?_)
  have kp5 := hr.mod.at kp5 (fun h => h)
  have kp15 := hr.box p15 _ (by first | exact Bx.set_same _ _ _ | (simp only [Bx.set_same]; rfl)); dsimp only [Value.cells] at kp15; obtain ⟨gp15, kp15⟩ := kp15
  have m3 := m2.then0 hr.mod
  clear hr hbs
  have HK := Lib.hid (And.intro kp5 kp15)
  clear kp5 kp15
  go_wp2_with fail
  go_loopw [7, 8, 9, 10, 11, 12, 13, 14] (fun s7 _ _ _ _ _ _ _ ws => ∃ i : Nat, i ≤ 2 ∧ s7 = .int .i64 (i : Int) ∧ Mod (fun _ => False) w3 ws) (fun s7 _ _ _ _ _ _ _ _ => 2 - (intOf s7).toNat)
  case atStart => exact ⟨0, by omega, rfl, Mod.refl _ _⟩
  case round =>
    obtain ⟨i, hi, rfl, hm⟩ := hrel
    have kp15 := hm.at0 HK.out.2
    rcases (by omega : i = 0 ∨ i = 1 ∨ i = 2) with rfl | rfl | rfl
    · have HV : Hid (Voi wr none) := Lib.hid (.inl rfl)
      have q0 := Mod.refl (fun _ => False) wr
      go_upto_region 6 with fail
      have Lkp15 := lt_size kp15
      refine wp_gpass (T0 := fun _ => False) (K := fun _ _ => True) (κ := fun i => [0, 0, 0, 0, 0, 0, 6, 6, 0, 0, 0, 0, 0, 0, 0].getD i 0) (υ := fun i => [[], [], [], [], [], [], [], [], [], [], [], [], [], [], []].getD i []) [0, 1, 2, 3, 4, 5, 6, 7, 8, 9, 10, 11, 12, 13, 14] (by kernel_rfl) (by kernel_rfl) (Good.true).cl (trivial) (fun _ h => h.elim) ?_
      have gK := Good.true
      (refine TG.v0 (v := ?v52) (by simp only [zA, zB, zC]; rfl) rfl ?hw52 (fun w1 => ?hy52) ?hn52; (case hw52 => rfl); (case hy52 => (go_simp; (try with_reducible rfl))); (try simp only [Act.put, zF, zG, zH]))
      (refine TG.v0 (v := ?v53) (by simp only [zA, zB, zC]; rfl) rfl ?hw53 (fun w1 => ?hy53) ?hn53; (case hw53 => rfl); (case hy53 => (go_simp; (try with_reducible rfl))); (try simp only [Act.put, zF, zG, zH]))
      (refine TG.v0 (v := ?v54) (by simp only [zA, zB, zC]; rfl) rfl ?hw54 (fun w1 => ?hy54) ?hn54; (case hw54 => rfl); (case hy54 => (go_simp; (try with_reducible rfl))); (try simp only [Act.put, zF, zG, zH]))
      (refine TG.load (v := ?v55) (p := ?p55) (by simp only [zA, zB, zC]; rfl) rfl ?hw55 rfl ?hx55 (fun wq hSq => ?hy55) ?hn55; (case hw55 => rfl); (case hx55 => (simp only [Act.eval, zD, zA, zB, zC, zE]; (try rfl))); (case hy55 => (have kp15q := hSq.at kp15 (by intro hT; first | exact hT | exact absurd hT (by assumption) | omega | (simp only at hT; omega)); go_simp; (try with_reducible rfl))); (try simp only [Act.put, zF, zG, zH]))
      (refine TG.v0 (v := ?v56) (by simp only [zA, zB, zC]; rfl) rfl ?hw56 (fun w1 => ?hy56) ?hn56; (case hw56 => rfl); (case hy56 => (go_simp; (try with_reducible rfl))); (try simp only [Act.put, zF, zG, zH]))
      (refine TG.v0 (v := ?v57) (by simp only [zA, zB, zC]; rfl) rfl ?hw57 (fun w1 => ?hy57) ?hn57; (case hw57 => rfl); (case hy57 => (go_simp; (try with_reducible rfl))); (try simp only [Act.put, zF, zG, zH]))
      (refine TG.callN (f := ?f58) (args := ?r58) (fun v => ∃ x, v = .agg (rdr x)) gK (by simp only [zA, zB, zC]; rfl) rfl ?hw58 (fun w1 => ?hy58) (fun T wq kq ltq hSq ub => ?hsp58) ?hn58; (case hw58 => rfl); (case hy58 => (go_simp; (first | with_reducible rfl | (constructor <;> with_reducible rfl)))); (case hsp58 => (have kp15q := hSq.at kp15 (by intro hT; first | exact hT | exact absurd hT (by assumption) | omega | (simp only at hT; omega)); exact (ready_c n 1 wq).mono (fun e w' h => by obtain ⟨x, h1, _, _, _, h2⟩ := h; exact ⟨_, h1, ⟨x, rfl⟩, h2⟩))); rintro v58 hC; (obtain ⟨x, rfl⟩ := hC); (try simp only [Act.put, zF, zG, zH]))
      (refine TG.callN (f := ?f59) (args := ?r59) (fun v => v = .tuple #[.int .i64 0, .slice none 0 0, .int .i64 2]) gK (by simp only [zA, zB, zC]; rfl) rfl ?hw59 (fun w1 => ?hy59) (fun T wq kq ltq hSq ub => ?hsp59) ?hn59; (case hw59 => rfl); (case hy59 => (go_simp; (first | with_reducible rfl | (constructor <;> with_reducible rfl)))); (case hsp59 => (have kp15q := hSq.at kp15 (by intro hT; first | exact hT | exact absurd hT (by assumption) | omega | (simp only at hT; omega)); exact (addV_c (HV.out.mod0 (q0.then0 hSq)) _ x).mono (fun e w' h => ⟨_, h.1, rfl, h.2⟩))); rintro v59 hC; subst hC; (try simp only [Act.put, zF, zG, zH]))
      (refine TG.v0 (v := ?v60) (by simp only [zA, zB, zC]; rfl) rfl ?hw60 (fun w1 => ?hy60) ?hn60; (case hw60 => rfl); (case hy60 => (go_simp; (try with_reducible rfl))); (try simp only [Act.put, zF, zG, zH]))
      (refine TG.v0 (v := ?v61) (by simp only [zA, zB, zC]; rfl) rfl ?hw61 (fun w1 => ?hy61) ?hn61; (case hw61 => rfl); (case hy61 => (go_simp; (try with_reducible rfl))); (try simp only [Act.put, zF, zG, zH]))
      (refine TG.v0 (v := ?v62) (by simp only [zA, zB, zC]; rfl) rfl ?hw62 (fun w1 => ?hy62) ?hn62; (case hw62 => rfl); (case hy62 => (go_simp; (try with_reducible rfl))); (try simp only [Act.put, zF, zG, zH]))
      (refine TG.v0 (v := ?v63) (by simp only [zA, zB, zC]; rfl) rfl ?hw63 (fun w1 => ?hy63) ?hn63; (case hw63 => rfl); (case hy63 => (go_simp; (try with_reducible rfl))); (try simp only [Act.put, zF, zG, zH]))
      (refine TG.v0 (v := ?v64) (by simp only [zA, zB, zC]; rfl) rfl ?hw64 (fun w1 => ?hy64) ?hn64; (case hw64 => rfl); (case hy64 => (go_simp; (try with_reducible rfl))); (try simp only [Act.put, zF, zG, zH]))
      (refine TG.v0 (v := ?v65) (by simp only [zA, zB, zC]; rfl) rfl ?hw65 (fun w1 => ?hy65) ?hn65; (case hw65 => rfl); (case hy65 => (go_simp; (try with_reducible rfl))); (try simp only [Act.put, zF, zG, zH]))
      (refine TG.v0 (v := ?v66) (by simp only [zA, zB, zC]; rfl) rfl ?hw66 (fun w1 => ?hy66) ?hn66; (case hw66 => rfl); (case hy66 => (go_simp; (try with_reducible rfl))); (try simp only [Act.put, zF, zG, zH]))
      refine TG.nil (fun w6 ⟨TR, hr⟩ => ?_)
      have kp15 := hr.mod.at kp15 (by intro hT; first | exact hT | exact absurd hT (by assumption) | omega | (simp only at hT; omega))
      clear gK
      have q1 := q0.then0 hr.mod
      clear hr
      go_wp2_with fail
      go_at_call 15
      refine (popV_c (HV.out.mod0 q1)).mono ?_
      rintro e w7 ⟨rfl, mc⟩
      have q2 := q1.then0 mc
      replace kp15 := mc.at0 kp15
      clear mc
      go_upto_region 8 with fail
      have Lkp15 := lt_size kp15
      refine wp_gpass0 (T0 := fun _ => False) (K := fun _ _ => True) (κ := fun i => [0, 0, 0, 0, 0, 6, 0, 0, 0, 3, 4, 0].getD i 0) (υ := fun i => [[], [], [], [], [], [], [], [], [], [], [], []].getD i []) [0, 1, 2, 3, 4, 5, 6, 7, 8, 9, 10, 11] (by kernel_rfl) (by kernel_rfl) (Good.true).cl (trivial) (fun _ h => h.elim) ?_
      have gK := Good.true
      (refine TG.v0 (v := ?v67) (by simp only [zA, zB, zC]; rfl) rfl ?hw67 (fun w1 => ?hy67) ?hn67; (case hw67 => rfl); (case hy67 => (go_simp; (try with_reducible rfl))); (try simp only [Act.put, zF, zG, zH]))
      (refine TG.v0 (v := ?v68) (by simp only [zA, zB, zC]; rfl) rfl ?hw68 (fun w1 => ?hy68) ?hn68; (case hw68 => rfl); (case hy68 => (go_simp; (try with_reducible rfl))); (try simp only [Act.put, zF, zG, zH]))
      (refine TG.v0 (v := ?v69) (by simp only [zA, zB, zC]; rfl) rfl ?hw69 (fun w1 => ?hy69) ?hn69; (case hw69 => rfl); (case hy69 => (go_simp; (try with_reducible rfl))); (try simp only [Act.put, zF, zG, zH]))
      (refine TG.load (v := ?v70) (p := ?p70) (by simp only [zA, zB, zC]; rfl) rfl ?hw70 rfl ?hx70 (fun wq hSq => ?hy70) ?hn70; (case hw70 => rfl); (case hx70 => (simp only [Act.eval, zD, zA, zB, zC, zE]; (try rfl))); (case hy70 => (have kp15q := hSq.at kp15 (by intro hT; first | exact hT | exact absurd hT (by assumption) | omega | (simp only at hT; omega)); go_simp; (try with_reducible rfl))); (try simp only [Act.put, zF, zG, zH]))
      (refine TG.v0 (v := ?v71) (by simp only [zA, zB, zC]; rfl) rfl ?hw71 (fun w1 => ?hy71) ?hn71; (case hw71 => rfl); (case hy71 => (go_simp; (try with_reducible rfl))); (try simp only [Act.put, zF, zG, zH]))
      (refine TG.callN (f := ?f72) (args := ?r72) (fun v => ∃ z : ItR, v = .tuple #[.agg (itr z), .int .i64 2]) gK (by simp only [zA, zB, zC]; rfl) rfl ?hw72 (fun w1 => ?hy72) (fun T wq kq ltq hSq ub => ?hsp72) ?hn72; (case hw72 => rfl); (case hy72 => (go_simp; (first | with_reducible rfl | (constructor <;> with_reducible rfl)))); (case hsp72 => (have kp15q := hSq.at kp15 (by intro hT; first | exact hT | exact absurd hT (by assumption) | omega | (simp only at hT; omega)); exact (findV_c (HV.out.mod0 (q2.then0 hSq)) id).mono (fun e w' h => by obtain ⟨z, _, _, h1, h2⟩ := h; exact ⟨_, h1, ⟨z, rfl⟩, h2⟩))); rintro v72 hC; (obtain ⟨z, rfl⟩ := hC); (try simp only [Act.put, zF, zG, zH]))
      (refine TG.v0 (v := ?v73) (by simp only [zA, zB, zC]; rfl) rfl ?hw73 (fun w1 => ?hy73) ?hn73; (case hw73 => rfl); (case hy73 => (go_simp; (try with_reducible rfl))); (try simp only [Act.put, zF, zG, zH]))
      (refine TG.v0 (v := ?v74) (by simp only [zA, zB, zC]; rfl) rfl ?hw74 (fun w1 => ?hy74) ?hn74; (case hw74 => rfl); (case hy74 => (go_simp; (try with_reducible rfl))); (try simp only [Act.put, zF, zG, zH]))
      (refine TG.v0 (v := ?v75) (by simp only [zA, zB, zC]; rfl) rfl ?hw75 (fun w1 => ?hy75) ?hn75; (case hw75 => rfl); (case hy75 => (go_simp; (try with_reducible rfl))); (try simp only [Act.put, zF, zG, zH]))
      (refine TG.allocB (by simp only [zA, zB, zC]; rfl) rfl ?hw76 rfl rfl alItem (fun p13 hp13 _ => ?hn76); (case hw76 => rfl); (try simp only [Act.put, zF, zG, zH]))
      (refine TG.storeB (d := ?d77) (T := ?T77) (y := ?y77) (p := ?p77) (b := ?b77) (v := ?v77) (by simp only [zA, zB, zC]; rfl) rfl ?hw77 ?hd77 ?hop77 ?hev77 ?hx77 ?hb77 ?htag77 (fun w1 hb1 => ?hy77) ?hn77; (case hw77 => rfl); (case hd77 => rfl); (case hop77 => rfl); (case hev77 => (simp only [Act.eval, zD, zA, zB, zC, zE]; (try rfl))); (case hx77 => (simp only [Act.eval, zD, zA, zB, zC, zE]; (try rfl))); (case hb77 => first | exact Bx.set_same _ _ _ | (simp only [Bx.set_same]; rfl)); (case htag77 => rfl); (case hy77 => (go_simp; (try first | with_reducible rfl | (rw [setCell_blk hb1]; rfl)))); (try simp only [Act.put, zF, zG, zH]))
      (refine TG.v0 (v := ?v78) (by simp only [zA, zB, zC]; rfl) rfl ?hw78 (fun w1 => ?hy78) ?hn78; (case hw78 => rfl); (case hy78 => (go_simp; (try with_reducible rfl))); (try simp only [Act.put, zF, zG, zH]))
      refine TG.nil (fun w8 ⟨TR, hr⟩ => ?_)
      have kp15 := hr.mod.at kp15 (by intro hT; first | exact hT | exact absurd hT (by assumption) | omega | (simp only at hT; omega))
      have kp13 := hr.box p13 _ (by first | exact Bx.set_same _ _ _ | (simp only [Bx.set_same]; rfl)); dsimp only [Value.cells] at kp13; obtain ⟨gp13, nTp13, kp13⟩ := kp13
      clear gK
      have q3 := q2.then0 hr.mod
      clear hr kp13
      go_wp2_with fail
      go_at_call 18
      refine (BackV_c (HV.out.mod0 q3) id).mono ?_
      rintro e w9 ⟨rfl, mc⟩
      have q4 := q3.then0 mc
      replace kp15 := mc.at0 kp15
      clear mc
      go_wp2_with fail
      go_at_call 17
      refine (ParkV_c (HV.out.mod0 q4) id).mono ?_
      rintro e w10 ⟨rfl, mc⟩
      have q5 := q4.then0 mc
      replace kp15 := mc.at0 kp15
      clear mc
      go_wp2_with fail
      go_at_call 21
      refine (DoneV_c (HV.out.mod0 q5) id).mono ?_
      rintro e w11 ⟨rfl, mc⟩
      have q6 := q5.then0 mc
      replace kp15 := mc.at0 kp15
      clear mc
      go_wp2_with fail
      go_at_call 22
      refine (SendV_c (HV.out.mod0 q6) id).mono ?_
      rintro e w12 ⟨rfl, mc⟩
      have q7 := q6.then0 mc
      replace kp15 := mc.at0 kp15
      clear mc
      go_wp2_with fail
      go_at_call 11
      refine (LenV_c (HV.out.mod0 q7)).mono ?_
      rintro e w13 ⟨rfl, mc⟩
      have q8 := q7.then0 mc
      replace kp15 := mc.at0 kp15
      clear mc
      go_wp2_with fail
      go_at_call 12
      refine (WaitingV_c (HV.out.mod0 q8)).mono ?_
      rintro e w14 ⟨rfl, mc⟩
      have q9 := q8.then0 mc
      replace kp15 := mc.at0 kp15
      clear mc
      go_wp2_with fail
      go_at_call 20
      refine (ParkedV_c (HV.out.mod0 q9)).mono ?_
      rintro e w15 ⟨rfl, mc⟩
      have q10 := q9.then0 mc
      replace kp15 := mc.at0 kp15
      clear mc
      go_wp2_with fail
      go_roundw
      case rel => exact ⟨1, by omega, rfl, hm.then0 q10⟩
      case measure => simp [intOf]
    · have HV : Hid (Voi wr (some ⟨p5, 0, none⟩)) := Lib.hid (.inr ⟨p5, rfl, hm.at0 HK.out.1⟩)
      have q0 := Mod.refl (fun _ => False) wr
      go_upto_region 6 with fail
      have Lkp15 := lt_size kp15
      refine wp_gpass (T0 := fun _ => False) (K := fun _ _ => True) (κ := fun i => [0, 0, 0, 0, 0, 0, 6, 6, 0, 0, 0, 0, 0, 0, 0].getD i 0) (υ := fun i => [[], [], [], [], [], [], [], [], [], [], [], [], [], [], []].getD i []) [0, 1, 2, 3, 4, 5, 6, 7, 8, 9, 10, 11, 12, 13, 14] (by kernel_rfl) (by kernel_rfl) (Good.true).cl (trivial) (fun _ h => h.elim) ?_
      have gK := Good.true
      (refine TG.v0 (v := ?v79) (by simp only [zA, zB, zC]; rfl) rfl ?hw79 (fun w1 => ?hy79) ?hn79; (case hw79 => rfl); (case hy79 => (go_simp; (try with_reducible rfl))); (try simp only [Act.put, zF, zG, zH]))
      (refine TG.v0 (v := ?v80) (by simp only [zA, zB, zC]; rfl) rfl ?hw80 (fun w1 => ?hy80) ?hn80; (case hw80 => rfl); (case hy80 => (go_simp; (try with_reducible rfl))); (try simp only [Act.put, zF, zG, zH]))
      (refine TG.v0 (v := ?v81) (by simp only [zA, zB, zC]; rfl) rfl ?hw81 (fun w1 => ?hy81) ?hn81; (case hw81 => rfl); (case hy81 => (go_simp; (try with_reducible rfl))); (try simp only [Act.put, zF, zG, zH]))
      (refine TG.load (v := ?v82) (p := ?p82) (by simp only [zA, zB, zC]; rfl) rfl ?hw82 rfl ?hx82 (fun wq hSq => ?hy82) ?hn82; (case hw82 => rfl); (case hx82 => (simp only [Act.eval, zD, zA, zB, zC, zE]; (try rfl))); (case hy82 => (have kp15q := hSq.at kp15 (by intro hT; first | exact hT | exact absurd hT (by assumption) | omega | (simp only at hT; omega)); go_simp; (try with_reducible rfl))); (try simp only [Act.put, zF, zG, zH]))
      (refine TG.v0 (v := ?v83) (by simp only [zA, zB, zC]; rfl) rfl ?hw83 (fun w1 => ?hy83) ?hn83; (case hw83 => rfl); (case hy83 => (go_simp; (try with_reducible rfl))); (try simp only [Act.put, zF, zG, zH]))
      (refine TG.v0 (v := ?v84) (by simp only [zA, zB, zC]; rfl) rfl ?hw84 (fun w1 => ?hy84) ?hn84; (case hw84 => rfl); (case hy84 => (go_simp; (try with_reducible rfl))); (try simp only [Act.put, zF, zG, zH]))
      (refine TG.callN (f := ?f85) (args := ?r85) (fun v => ∃ x, v = .agg (rdr x)) gK (by simp only [zA, zB, zC]; rfl) rfl ?hw85 (fun w1 => ?hy85) (fun T wq kq ltq hSq ub => ?hsp85) ?hn85; (case hw85 => rfl); (case hy85 => (go_simp; (first | with_reducible rfl | (constructor <;> with_reducible rfl)))); (case hsp85 => (have kp15q := hSq.at kp15 (by intro hT; first | exact hT | exact absurd hT (by assumption) | omega | (simp only at hT; omega)); exact (ready_c n 1 wq).mono (fun e w' h => by obtain ⟨x, h1, _, _, _, h2⟩ := h; exact ⟨_, h1, ⟨x, rfl⟩, h2⟩))); rintro v85 hC; (obtain ⟨x, rfl⟩ := hC); (try simp only [Act.put, zF, zG, zH]))
      (refine TG.callN (f := ?f86) (args := ?r86) (fun v => v = .tuple #[.int .i64 0, .slice none 0 0, .int .i64 2]) gK (by simp only [zA, zB, zC]; rfl) rfl ?hw86 (fun w1 => ?hy86) (fun T wq kq ltq hSq ub => ?hsp86) ?hn86; (case hw86 => rfl); (case hy86 => (go_simp; (first | with_reducible rfl | (constructor <;> with_reducible rfl)))); (case hsp86 => (have kp15q := hSq.at kp15 (by intro hT; first | exact hT | exact absurd hT (by assumption) | omega | (simp only at hT; omega)); exact (addV_c (HV.out.mod0 (q0.then0 hSq)) _ x).mono (fun e w' h => ⟨_, h.1, rfl, h.2⟩))); rintro v86 hC; subst hC; (try simp only [Act.put, zF, zG, zH]))
      (refine TG.v0 (v := ?v87) (by simp only [zA, zB, zC]; rfl) rfl ?hw87 (fun w1 => ?hy87) ?hn87; (case hw87 => rfl); (case hy87 => (go_simp; (try with_reducible rfl))); (try simp only [Act.put, zF, zG, zH]))
      (refine TG.v0 (v := ?v88) (by simp only [zA, zB, zC]; rfl) rfl ?hw88 (fun w1 => ?hy88) ?hn88; (case hw88 => rfl); (case hy88 => (go_simp; (try with_reducible rfl))); (try simp only [Act.put, zF, zG, zH]))
      (refine TG.v0 (v := ?v89) (by simp only [zA, zB, zC]; rfl) rfl ?hw89 (fun w1 => ?hy89) ?hn89; (case hw89 => rfl); (case hy89 => (go_simp; (try with_reducible rfl))); (try simp only [Act.put, zF, zG, zH]))
      (refine TG.v0 (v := ?v90) (by simp only [zA, zB, zC]; rfl) rfl ?hw90 (fun w1 => ?hy90) ?hn90; (case hw90 => rfl); (case hy90 => (go_simp; (try with_reducible rfl))); (try simp only [Act.put, zF, zG, zH]))
      (refine TG.v0 (v := ?v91) (by simp only [zA, zB, zC]; rfl) rfl ?hw91 (fun w1 => ?hy91) ?hn91; (case hw91 => rfl); (case hy91 => (go_simp; (try with_reducible rfl))); (try simp only [Act.put, zF, zG, zH]))
      (refine TG.v0 (v := ?v92) (by simp only [zA, zB, zC]; rfl) rfl ?hw92 (fun w1 => ?hy92) ?hn92; (case hw92 => rfl); (case hy92 => (go_simp; (try with_reducible rfl))); (try simp only [Act.put, zF, zG, zH]))
      (refine TG.v0 (v := ?v93) (by simp only [zA, zB, zC]; rfl) rfl ?hw93 (fun w1 => ?hy93) ?hn93; (case hw93 => rfl); (case hy93 => (go_simp; (try with_reducible rfl))); (try simp only [Act.put, zF, zG, zH]))
      refine TG.nil (fun w6 ⟨TR, hr⟩ => ?_)
      have kp15 := hr.mod.at kp15 (by intro hT; first | exact hT | exact absurd hT (by assumption) | omega | (simp only at hT; omega))
      clear gK
      have q1 := q0.then0 hr.mod
      clear hr
      go_wp2_with fail
      go_at_call 15
      refine (popV_c (HV.out.mod0 q1)).mono ?_
      rintro e w7 ⟨rfl, mc⟩
      have q2 := q1.then0 mc
      replace kp15 := mc.at0 kp15
      clear mc
      go_upto_region 8 with fail
      have Lkp15 := lt_size kp15
      refine wp_gpass0 (T0 := fun _ => False) (K := fun _ _ => True) (κ := fun i => [0, 0, 0, 0, 0, 6, 0, 0, 0, 3, 4, 0].getD i 0) (υ := fun i => [[], [], [], [], [], [], [], [], [], [], [], []].getD i []) [0, 1, 2, 3, 4, 5, 6, 7, 8, 9, 10, 11] (by kernel_rfl) (by kernel_rfl) (Good.true).cl (trivial) (fun _ h => h.elim) ?_
      have gK := Good.true
      (refine TG.v0 (v := ?v94) (by simp only [zA, zB, zC]; rfl) rfl ?hw94 (fun w1 => ?hy94) ?hn94; (case hw94 => rfl); (case hy94 => (go_simp; (try with_reducible rfl))); (try simp only [Act.put, zF, zG, zH]))
      (refine TG.v0 (v := ?v95) (by simp only [zA, zB, zC]; rfl) rfl ?hw95 (fun w1 => ?hy95) ?hn95; (case hw95 => rfl); (case hy95 => (go_simp; (try with_reducible rfl))); (try simp only [Act.put, zF, zG, zH]))
      (refine TG.v0 (v := ?v96) (by simp only [zA, zB, zC]; rfl) rfl ?hw96 (fun w1 => ?hy96) ?hn96; (case hw96 => rfl); (case hy96 => (go_simp; (try with_reducible rfl))); (try simp only [Act.put, zF, zG, zH]))
      (refine TG.load (v := ?v97) (p := ?p97) (by simp only [zA, zB, zC]; rfl) rfl ?hw97 rfl ?hx97 (fun wq hSq => ?hy97) ?hn97; (case hw97 => rfl); (case hx97 => (simp only [Act.eval, zD, zA, zB, zC, zE]; (try rfl))); (case hy97 => (have kp15q := hSq.at kp15 (by intro hT; first | exact hT | exact absurd hT (by assumption) | omega | (simp only at hT; omega)); go_simp; (try with_reducible rfl))); (try simp only [Act.put, zF, zG, zH]))
      (refine TG.v0 (v := ?v98) (by simp only [zA, zB, zC]; rfl) rfl ?hw98 (fun w1 => ?hy98) ?hn98; (case hw98 => rfl); (case hy98 => (go_simp; (try with_reducible rfl))); (try simp only [Act.put, zF, zG, zH]))
      (refine TG.callN (f := ?f99) (args := ?r99) (fun v => ∃ z : ItR, v = .tuple #[.agg (itr z), .int .i64 2]) gK (by simp only [zA, zB, zC]; rfl) rfl ?hw99 (fun w1 => ?hy99) (fun T wq kq ltq hSq ub => ?hsp99) ?hn99; (case hw99 => rfl); (case hy99 => (go_simp; (first | with_reducible rfl | (constructor <;> with_reducible rfl)))); (case hsp99 => (have kp15q := hSq.at kp15 (by intro hT; first | exact hT | exact absurd hT (by assumption) | omega | (simp only at hT; omega)); exact (findV_c (HV.out.mod0 (q2.then0 hSq)) id).mono (fun e w' h => by obtain ⟨z, _, _, h1, h2⟩ := h; exact ⟨_, h1, ⟨z, rfl⟩, h2⟩))); rintro v99 hC; (obtain ⟨z, rfl⟩ := hC); (try simp only [Act.put, zF, zG, zH]))
      (refine TG.v0 (v := ?v100) (by simp only [zA, zB, zC]; rfl) rfl ?hw100 (fun w1 => ?hy100) ?hn100; (case hw100 => rfl); (case hy100 => (go_simp; (try with_reducible rfl))); (try simp only [Act.put, zF, zG, zH]))
      (refine TG.v0 (v := ?v101) (by simp only [zA, zB, zC]; rfl) rfl ?hw101 (fun w1 => ?hy101) ?hn101; (case hw101 => rfl); (case hy101 => (go_simp; (try with_reducible rfl))); (try simp only [Act.put, zF, zG, zH]))
      (refine TG.v0 (v := ?v102) (by simp only [zA, zB, zC]; rfl) rfl ?hw102 (fun w1 => ?hy102) ?hn102; (case hw102 => rfl); (case hy102 => (go_simp; (try with_reducible rfl))); (try simp only [Act.put, zF, zG, zH]))
      (refine TG.allocB (by simp only [zA, zB, zC]; rfl) rfl ?hw103 rfl rfl alItem (fun p13 hp13 _ => ?hn103); (case hw103 => rfl); (try simp only [Act.put, zF, zG, zH]))
      (refine TG.storeB (d := ?d104) (T := ?T104) (y := ?y104) (p := ?p104) (b := ?b104) (v := ?v104) (by simp only [zA, zB, zC]; rfl) rfl ?hw104 ?hd104 ?hop104 ?hev104 ?hx104 ?hb104 ?htag104 (fun w1 hb1 => ?hy104) ?hn104; (case hw104 => rfl); (case hd104 => rfl); (case hop104 => rfl); (case hev104 => (simp only [Act.eval, zD, zA, zB, zC, zE]; (try rfl))); (case hx104 => (simp only [Act.eval, zD, zA, zB, zC, zE]; (try rfl))); (case hb104 => first | exact Bx.set_same _ _ _ | (simp only [Bx.set_same]; rfl)); (case htag104 => rfl); (case hy104 => (go_simp; (try first | with_reducible rfl | (rw [setCell_blk hb1]; rfl)))); (try simp only [Act.put, zF, zG, zH]))
      (refine TG.v0 (v := ?v105) (by simp only [zA, zB, zC]; rfl) rfl ?hw105 (fun w1 => ?hy105) ?hn105; (case hw105 => rfl); (case hy105 => (go_simp; (try with_reducible rfl))); (try simp only [Act.put, zF, zG, zH]))
      refine TG.nil (fun w8 ⟨TR, hr⟩ => ?_)
      have kp15 := hr.mod.at kp15 (by intro hT; first | exact hT | exact absurd hT (by assumption) | omega | (simp only at hT; omega))
      have kp13 := hr.box p13 _ (by first | exact Bx.set_same _ _ _ | (simp only [Bx.set_same]; rfl)); dsimp only [Value.cells] at kp13; obtain ⟨gp13, nTp13, kp13⟩ := kp13
      clear gK
      have q3 := q2.then0 hr.mod
      clear hr kp13
      go_wp2_with fail
      go_at_call 18
      refine (BackV_c (HV.out.mod0 q3) id).mono ?_
      rintro e w9 ⟨rfl, mc⟩
      have q4 := q3.then0 mc
      replace kp15 := mc.at0 kp15
      clear mc
      go_wp2_with fail
      go_at_call 17
      refine (ParkV_c (HV.out.mod0 q4) id).mono ?_
      rintro e w10 ⟨rfl, mc⟩
      have q5 := q4.then0 mc
      replace kp15 := mc.at0 kp15
      clear mc
      go_wp2_with fail
      go_at_call 21
      refine (DoneV_c (HV.out.mod0 q5) id).mono ?_
      rintro e w11 ⟨rfl, mc⟩
      have q6 := q5.then0 mc
      replace kp15 := mc.at0 kp15
      clear mc
      go_wp2_with fail
      go_at_call 22
      refine (SendV_c (HV.out.mod0 q6) id).mono ?_
      rintro e w12 ⟨rfl, mc⟩
      have q7 := q6.then0 mc
      replace kp15 := mc.at0 kp15
      clear mc
      go_wp2_with fail
      go_at_call 11
      refine (LenV_c (HV.out.mod0 q7)).mono ?_
      rintro e w13 ⟨rfl, mc⟩
      have q8 := q7.then0 mc
      replace kp15 := mc.at0 kp15
      clear mc
      go_wp2_with fail
      go_at_call 12
      refine (WaitingV_c (HV.out.mod0 q8)).mono ?_
      rintro e w14 ⟨rfl, mc⟩
      have q9 := q8.then0 mc
      replace kp15 := mc.at0 kp15
      clear mc
      go_wp2_with fail
      go_at_call 20
      refine (ParkedV_c (HV.out.mod0 q9)).mono ?_
      rintro e w15 ⟨rfl, mc⟩
      have q10 := q9.then0 mc
      replace kp15 := mc.at0 kp15
      clear mc
      go_wp2_with fail
      go_roundw
      case rel => exact ⟨2, by omega, rfl, hm.then0 q10⟩
      case measure => simp [intOf]
    · go_wp2_with fail
      go_at_call 7
      refine (lives_c _ (HT.out.mod0 (m3.then0 hm))).mono ?_
      rintro e w4 ⟨rfl, m4⟩
      go_wp2_with fail
      go_ret
      exact ⟨rfl, (m3.then0 hm).then0 m4⟩
end Go.Proofs.YtdeghpmlhcaedaaDoor
