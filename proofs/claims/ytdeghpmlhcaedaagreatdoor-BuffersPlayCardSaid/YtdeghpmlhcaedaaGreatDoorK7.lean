/- The lemmas of the proof, part 7: how the program and its data lie in memory, and what its functions do. -/
import Derived.Test.YtdeghpmlhcaedaaGreatDoorK6
import Derived.OwnWalk
import Derived.IntWalk
set_option linter.unusedSimpArgs false
set_option linter.unusedVariables false
set_option linter.unusedSectionVars false
namespace Go.Proofs.YtdeghpmlhcaedaaGreatDoor
open Go.RowKit Go.Sort
open Go.ChangeMaps (setBlock)
attribute [local go_sem ↓] wlDq ldDq stDq wlRk ldRk stRk
attribute [local go_sem] cell_blk frozen_blk one_int one_bool one_ptr one_slice one_map Value.cells dqv_size dqv_all dqv_one dqv_one' zDq_size zDq_one dqv_0 dqv_1 dqv_2 dqv_3 dqv_4 rkc_size rkc_all1 zRk_sz rkc_ext
def boxI (ws : World) (p : Nat) : Nat := match ws.heap[p]? with
 | some (.cells cs _ _) => (intOf (cs[0]?.getD (.bool false))).toNat
 | _ => 0
theorem boxI_at {ws : World} {p : Nat} {x : Dq} {E : TypeId} (h : ws.heap[p]? = some (.cells (dqv x) E (0, 0))) : boxI ws p = x.id := by
 unfold boxI
 rw [h]
 show (intOf (.int .i64 (x.id : Int))).toNat = x.id
 simp [intOf]
theorem free_le {S : List (Option It)} {f : Nat} (h : FreeS S f) : f ≤ (docL 0 S).length := by
 have h1 := free_pos h (Nat.le_refl f)
 unfold posD at h1
 have h2 := congrArg List.length (docL_append (S.take f) 0 (S.drop f))
 rw [List.take_append_drop, List.length_append, h1] at h2
 omega
theorem bldDq (n p : UInt64) (w : World) : (Instr.build 86 #[(1, u64v n), (2, u64v p)]).run Tryz.prog w = .ok (.agg (dqv ⟨0, n, p, 0, false⟩)) w := by kernel_rfl
section
variable {r n : Nat} {S : List (Option It)} {T : Nat → Prop} {w : World}
set_option maxRecDepth 20000 in
set_option maxHeartbeats 12800000 in
theorem qaddR_c (h : RQ r n (docL 0 S) T w) (hT : ∀ i, T i → i < w.heap.size) (hS : S.length ≤ 4096) (hn : (docL 0 S).length < n) {f : Nat} (hf : FreeS S f) (num prio : UInt64) {x : It} (hx : dOf f x = ⟨f, num, prio, 0, false⟩) :
  Calls Tryz.prog 20 #[ptrV r, u64v num, u64v prio] w fun e w' => e = .returned (.tuple #[.int .i64 (f : Int), .slice none 0 0, .int .i64 0]) ∧ QT r n (docL 0 (S.set f (some x))) T w w' := by
 obtain ⟨L, hL⟩ : ∃ L, L = docL 0 S := ⟨_, rfl⟩
 rw [← hL] at h hn
 obtain ⟨v, kr, hO, hTr, hTv⟩ := h
 obtain ⟨aL, cL, rfl, _⟩ := hO.at dqT
 obtain ⟨nL, hnL⟩ : ∃ nL, L.length = nL := ⟨_, rfl⟩
 rw [hnL] at kr hn hO hTv
 have hd := decide_eq_false (show ¬ (n : Int) ≤ (nL : Int) by omega)
 have hdN := decide_eq_false (show ¬ n ≤ nL by omega)
 have hb := bldDq num prio
 have H := Lib.hid (And.intro hO (And.intro hnL (And.intro hTr (And.intro hTv hT))))
 have HFR := Lib.hid (And.intro hf (And.intro hL hS))
 have HX := Lib.hid hx
 clear hO hnL hTr hTv hT hf hL hS hx hn
 go_enter Tryz.func20, Tryz.ntmps20
 go_upto_region 2 with fail
 have Lkr := lt_size kr
 refine wp_pass0 (C := fun _ _ _ => False) (κ := fun i => [0, 0, 0, 3, 4].getD i 0) [0, 1, 2, 3, 4] (by kernel_rfl) (by kernel_rfl) (fun _ _ d _ _ h => by cases d <;> first | exact h | exact absurd h (hP _ _ _)) ?_
 (refine TD.val0 (v := ?v1) (by simp only [zK]; rfl) rfl (by rfl) (fun w1 => ?y1) ?n1; (case y1 => go_simp; try with_reducible rfl); try simp only [Act.put, zL])
 (refine TD.val0 (v := ?v2) (by simp only [zK]; rfl) rfl (by rfl) (fun w1 => ?y2) ?n2; (case y2 => go_simp; try with_reducible rfl); try simp only [Act.put, zL])
 (refine TD.build (v := ?v3) (ps := ?p3) (by simp only [zK]; rfl) rfl (by rfl) rfl ?hx3 (fun w1 => ?y3) ?n3; (case hx3 => (simp only [List.map_toArray, List.map_cons, List.map_nil, Act.eval, zM]; (try rfl))); (case y3 => (rw [hb]; (try with_reducible rfl))); try simp only [Act.put, zL])
 (refine TD.allocB (by simp only [zK]; rfl) rfl (by rfl) rfl rfl alDq (fun p10 hp10 => ?n4); try simp only [Act.put, zL])
 (refine TD.storeB (d := ?d5) (T := ?T5) (y := ?y5) (p := ?p5) (b := ?b5) (v := ?v5) (by simp only [zK]; rfl) rfl (by rfl) ?hd5 ?hop5 ?hev5 ?hx5 ?hb5 ?htag5 (fun w1 hb1 => ?hy5) ?hn5; (case hd5 => rfl); (case hop5 => rfl); (case hev5 => (simp only [Act.eval, zM]; (try rfl))); (case hx5 => simp only [Act.eval, zM]; try rfl); (case hb5 => first | exact Bx.set_same _ _ _ | (simp only [Bx.set_same]; rfl)); (case hy5 => (go_simp; (try first | with_reducible rfl | (rw [setCell_blk hb1]; rfl)))); try simp only [Act.put, zL])
 refine TD.nil (fun w2 hr => ?_)
 have kr := hr.mod.at kr (fun h => h)
 have kp10 := hr.box p10 _ (by first | exact Bx.set_same _ _ _ | (simp only [Bx.set_same]; rfl)); dsimp only [Value.cells] at kp10; obtain ⟨gp10, kp10⟩ := kp10
 have m2 := hr.mod
 have HP10 : Hid (¬ T p10) := Lib.hid (fun e => by have := H.out.2.2.2.2 _ e; omega)
 clear hr hb
 go_upto_region 3 with fail
 have Lkr := lt_size kr
 have Lkp10 := lt_size kp10
 refine wp_pass (C := fun _ _ _ => False) (κ := fun i => [0, 0, 0, 1, 0, 0, 0, 0, 1, 0].getD i 0) [0, 1, 2, 3, 4, 5, 6, 7, 8, 9] (by kernel_rfl) (by kernel_rfl) (fun _ _ d _ _ h => by cases d <;> first | exact h | exact absurd h (hP _ _ _)) ?_
 (refine TD.val0 (v := ?v6) (by simp only [zK]; rfl) rfl (by rfl) (fun w1 => ?y6) ?n6; (case y6 => go_simp; try with_reducible rfl); try simp only [Act.put, zL])
 (refine TD.val0 (v := ?v7) (by simp only [zK]; rfl) rfl (by rfl) (fun w1 => ?y7) ?n7; (case y7 => go_simp; try with_reducible rfl); try simp only [Act.put, zL])
 (refine TD.val0 (v := ?v8) (by simp only [zK]; rfl) rfl (by rfl) (fun w1 => ?y8) ?n8; (case y8 => go_simp; try with_reducible rfl); try simp only [Act.put, zL])
 (refine TD.load (v := ?v9) (p := ?p9) (Mod.refl _ _) (by simp only [zK]; rfl) rfl (by rfl) rfl ?hx9 (fun wq hSq => ?y9) ?n9; (case hx9 => simp only [Act.eval, zM]; try rfl); (case y9 => (have krq := hSq.at kr (fun h => h); have kp10q := hSq.at kp10 (fun h => h); go_simp; (try with_reducible rfl))); try simp only [Act.put, zL])
 (refine TD.val0 (v := ?v10) (by simp only [zK]; rfl) rfl (by rfl) (fun w1 => ?y10) ?n10; (case y10 => go_simp; try with_reducible rfl); try simp only [Act.put, zL])
 (refine TD.val0 (v := ?v11) (by simp only [zK]; rfl) rfl (by rfl) (fun w1 => ?y11) ?n11; (case y11 => go_simp; try with_reducible rfl); try simp only [Act.put, zL])
 (refine TD.val0 (v := ?v12) (by simp only [zK]; rfl) rfl (by rfl) (fun w1 => ?y12) ?n12; (case y12 => go_simp; try with_reducible rfl); try simp only [Act.put, zL])
 (refine TD.val0 (v := ?v13) (by simp only [zK]; rfl) rfl (by rfl) (fun w1 => ?y13) ?n13; (case y13 => go_simp; try with_reducible rfl); try simp only [Act.put, zL])
 (refine TD.load (v := ?v14) (p := ?p14) (Mod.refl _ _) (by simp only [zK]; rfl) rfl (by rfl) rfl ?hx14 (fun wq hSq => ?y14) ?n14; (case hx14 => simp only [Act.eval, zM]; try rfl); (case y14 => (have krq := hSq.at kr (fun h => h); have kp10q := hSq.at kp10 (fun h => h); go_simp; (try with_reducible rfl))); try simp only [Act.put, zL])
 (refine TD.val0 (v := ?v15) (by simp only [zK]; rfl) rfl (by rfl) (fun w1 => ?y15) ?n15; (case y15 => go_simp; try with_reducible rfl); try simp only [Act.put, zL])
 refine TD.nil (fun wt hr => ?_)
 have kr := hr.mod.at kr (fun h => h)
 have kp10 := hr.mod.at kp10 (fun h => h)
 have HRQ : Hid (SlOwn dqv 5 86 wt 0 (.slice aL nL cL) L ∧ L.length = nL ∧ T r ∧ (∀ g, (Value.slice aL nL cL).ownBlock = some g → T g) ∧ ∀ i, T i → i < wt.heap.size) := Lib.hid ⟨H.out.1.mod0 (m2.then0 hr.mod), H.out.2.1, H.out.2.2.1, H.out.2.2.2.1, fun i hi => Nat.lt_of_lt_of_le (H.out.2.2.2.2 i hi) (m2.then0 hr.mod).size⟩
 have HMT : Hid (Mod T w wt) := Lib.hid ((m2.then0 hr.mod).mono (fun _ _ e => e.elim))
 have HT1 : Hid (∀ i, T i → T i ∨ w.heap.size ≤ i) := Lib.hid (fun i h => .inl h)
 have HPG := Lib.hid gp10
 have HPL := Lib.hid (lt_size kp10)
 have HTR := Lib.hid H.out.2.2.1
 clear hr m2 hd hdN
 obtain ⟨wa, hwa⟩ : ∃ wa : World, wa = wt := ⟨_, rfl⟩
 subst hwa
 have hfl : f ≤ nL := by rw [← HRQ.out.2.1, HFR.out.2.1]; exact free_le HFR.out.1
 have hnl : nL ≤ 4096 := by rw [← HRQ.out.2.1, HFR.out.2.1]; exact docL_le HFR.out.2.2
 have HM0 := Lib.hid (Mod.refl (fun i => i = p10) wa)
 have HKR := Lib.hid kr
 have hrp : r ≠ p10 := fun e => by rw [e, kp10] at kr; cases kr
 clear kr
 go_wp2_with fail
 go_loopw [] (fun ws => ∃ k : Nat, k ≤ f ∧ ws.heap[p10]? = some (.cells (dqv ⟨k, num, prio, 0, false⟩) 86 (0, 0)) ∧ Hid (Mod (fun i => i = p10) wa ws)) (fun ws => f - boxI ws p10)
 case atStart => exact ⟨0, by omega, kp10, HM0⟩
 case round =>
  clear kp10
  obtain ⟨k, hk, kp10, HM⟩ := hrel
  have kr := HM.out.at HKR.out (fun e => hrp e)
  by_cases hkf : k < f
  ·obtain ⟨y, hy, hyk⟩ := free_id HFR.out.1 hkf
   rw [← HFR.out.2.1] at hy
   have hknl : k < nL := by omega
   have hlp := HRQ.out.1.mod HM.out (fun g hg e => HP10.out (by have h1 := HRQ.out.2.2.2.1 g hg; have h2 : g = p10 := e; rwa [h2] at h1))
   obtain ⟨a9, c9, hv9, hs9, _⟩ := hlp.at dqT
   rw [HRQ.out.2.1] at hv9
   injection hv9 with q1 _ q3
   subst q1
   subst q3
   obtain ⟨g, oo, C, U, fr, rfl, kl, he, hle⟩ := hs9.block hy
   obtain ⟨e0, _⟩ := dq_part he
   have hne : g ≠ p10 := fun e => HP10.out (by have h1 := HRQ.out.2.2.2.1 g rfl; rwa [e] at h1)
   rw [hyk] at e0
   have HB0 := Lib.hid (boxI_at kp10)
   have hw1 : IntKind.i64.wrap ((k : Int) + 1) = (k : Int) + 1 := by rw [IntKind.wrap_i64]; omega
   clear hy hyk hlp hs9 he
   go_upto_region 12 with fail
   have Lkr := lt_size kr
   have Lkp10 := lt_size kp10
   have Lkl := lt_size kl
   refine wp_pass (C := fun _ _ _ => False) (κ := fun i => [0, 1, 0, 0, 0, 1, 0, 0, 0, 0, 0, 0, 1, 0, 1, 0, 0, 1, 0, 1, 0, 0].getD i 0) [0, 1, 2, 3, 4, 5, 6, 7, 8, 9, 10, 11, 12, 13, 14, 15, 16, 17, 18, 19, 20, 21] (by kernel_rfl) (by kernel_rfl) (fun _ _ d _ _ h => by cases d <;> first | exact h | exact absurd h (hP _ _ _)) ?_
   (refine TD.val0 (v := ?v16) (by simp only [zK]; rfl) rfl (by rfl) (fun w1 => ?y16) ?n16; (case y16 => go_simp; try with_reducible rfl); try simp only [Act.put, zL])
   (refine TD.load (v := ?v17) (p := ?p17) (Mod.refl _ _) (by simp only [zK]; rfl) rfl (by rfl) rfl ?hx17 (fun wq hSq => ?y17) ?n17; (case hx17 => simp only [Act.eval, zM]; try rfl); (case y17 => (have krq := hSq.at kr (fun h => h); have kp10q := hSq.at kp10 (fun h => h); have klq := hSq.at kl (fun h => h); go_simp; (try with_reducible rfl))); try simp only [Act.put, zL])
   (refine TD.val0 (v := ?v18) (by simp only [zK]; rfl) rfl (by rfl) (fun w1 => ?y18) ?n18; (case y18 => go_simp; try with_reducible rfl); try simp only [Act.put, zL])
   (refine TD.val0 (v := ?v19) (by simp only [zK]; rfl) rfl (by rfl) (fun w1 => ?y19) ?n19; (case y19 => go_simp; try with_reducible rfl); try simp only [Act.put, zL])
   (refine TD.val0 (v := ?v20) (by simp only [zK]; rfl) rfl (by rfl) (fun w1 => ?y20) ?n20; (case y20 => go_simp; try with_reducible rfl); try simp only [Act.put, zL])
   (refine TD.load (v := ?v21) (p := ?p21) (Mod.refl _ _) (by simp only [zK]; rfl) rfl (by rfl) rfl ?hx21 (fun wq hSq => ?y21) ?n21; (case hx21 => simp only [Act.eval, zM]; try rfl); (case y21 => (have krq := hSq.at kr (fun h => h); have kp10q := hSq.at kp10 (fun h => h); have klq := hSq.at kl (fun h => h); go_simp; (try with_reducible rfl))); try simp only [Act.put, zL])
   (refine TD.val0 (v := ?v22) (by simp only [zK]; rfl) rfl (by rfl) (fun w1 => ?y22) ?n22; (case y22 => go_simp; try with_reducible rfl); try simp only [Act.put, zL])
   (refine TD.val0 (v := ?v23) (by simp only [zK]; rfl) rfl (by rfl) (fun w1 => ?y23) ?n23; (case y23 => go_simp; try with_reducible rfl); try simp only [Act.put, zL])
   (refine TD.val0 (v := ?v24) (by simp only [zK]; rfl) rfl (by rfl) (fun w1 => ?y24) ?n24; (case y24 => go_simp; try with_reducible rfl); try simp only [Act.put, zL])
   (refine TD.val0 (v := ?v25) (by simp only [zK]; rfl) rfl (by rfl) (fun w1 => ?y25) ?n25; (case y25 => go_simp; try with_reducible rfl); try simp only [Act.put, zL])
   (refine TD.val0 (v := ?v26) (by simp only [zK]; rfl) rfl (by rfl) (fun w1 => ?y26) ?n26; (case y26 => go_simp; try with_reducible rfl); try simp only [Act.put, zL])
   (refine TD.val0 (v := ?v27) (by simp only [zK]; rfl) rfl (by rfl) (fun w1 => ?y27) ?n27; (case y27 => go_simp; try with_reducible rfl); try simp only [Act.put, zL])
   (refine TD.load (v := ?v28) (p := ?p28) (Mod.refl _ _) (by simp only [zK]; rfl) rfl (by rfl) rfl ?hx28 (fun wq hSq => ?y28) ?n28; (case hx28 => simp only [Act.eval, zM]; try rfl); (case y28 => (have krq := hSq.at kr (fun h => h); have kp10q := hSq.at kp10 (fun h => h); have klq := hSq.at kl (fun h => h); go_simp; (try with_reducible rfl))); try simp only [Act.put, zL])
   (refine TD.val0 (v := ?v29) (by simp only [zK]; rfl) rfl (by rfl) (fun w1 => ?y29) ?n29; (case y29 => go_simp; try with_reducible rfl); try simp only [Act.put, zL])
   (refine TD.load (v := ?v30) (p := ?p30) (Mod.refl _ _) (by simp only [zK]; rfl) rfl (by rfl) rfl ?hx30 (fun wq hSq => ?y30) ?n30; (case hx30 => simp only [Act.eval, zM]; try rfl); (case y30 => (have krq := hSq.at kr (fun h => h); have kp10q := hSq.at kp10 (fun h => h); have klq := hSq.at kl (fun h => h); go_simp; (try with_reducible rfl))); try simp only [Act.put, zL])
   (refine TD.val0 (v := ?v31) (by simp only [zK]; rfl) rfl (by rfl) (fun w1 => ?y31) ?n31; (case y31 => go_simp; try with_reducible rfl); try simp only [Act.put, zL])
   (refine TD.val0 (v := ?v32) (by simp only [zK]; rfl) rfl (by rfl) (fun w1 => ?y32) ?n32; (case y32 => go_simp; try with_reducible rfl); try simp only [Act.put, zL])
   (refine TD.load (v := ?v33) (p := ?p33) (Mod.refl _ _) (by simp only [zK]; rfl) rfl (by rfl) rfl ?hx33 (fun wq hSq => ?y33) ?n33; (case hx33 => simp only [Act.eval, zM]; try rfl); (case y33 => (have krq := hSq.at kr (fun h => h); have kp10q := hSq.at kp10 (fun h => h); have klq := hSq.at kl (fun h => h); go_simp; (try with_reducible rfl))); try simp only [Act.put, zL])
   (refine TD.val0 (v := ?v34) (by simp only [zK]; rfl) rfl (by rfl) (fun w1 => ?y34) ?n34; (case y34 => go_simp; try with_reducible rfl); try simp only [Act.put, zL])
   (refine TD.load (v := ?v35) (p := ?p35) (Mod.refl _ _) (by simp only [zK]; rfl) rfl (by rfl) rfl ?hx35 (fun wq hSq => ?y35) ?n35; (case hx35 => simp only [Act.eval, zM]; try rfl); (case y35 => (have krq := hSq.at kr (fun h => h); have kp10q := hSq.at kp10 (fun h => h); have klq := hSq.at kl (fun h => h); go_simp; (try with_reducible rfl))); try simp only [Act.put, zL])
   (refine TD.val0 (v := ?v36) (by simp only [zK]; rfl) rfl (by rfl) (fun w1 => ?y36) ?n36; (case y36 => go_simp; try with_reducible rfl); try simp only [Act.put, zL])
   (refine TD.val0 (v := ?v37) (by simp only [zK]; rfl) rfl (by rfl) (fun w1 => ?y37) ?n37; (case y37 => go_simp; try with_reducible rfl); try simp only [Act.put, zL])
   refine TD.nil (fun w12 hr => ?_)
   have kr := hr.mod.at kr (fun h => h)
   have kp10 := hr.mod.at kp10 (fun h => h)
   have kl := hr.mod.at kl (fun h => h)
   have HM2 := Lib.hid (HM.out.trans (hr.mod.mono (fun _ _ e => e.elim)))
   clear hr
   go_upto_region 13 with fail
   have Lkp10 := lt_size kp10
   refine wp_pass0 (C := fun _ _ _ => False) (κ := fun i => [0, 1, 0, 0, 5].getD i 0) [0, 1, 2, 3, 4] (by kernel_rfl) (by kernel_rfl) (fun _ _ d _ _ h => by cases d <;> first | exact h | exact absurd h (hP _ _ _)) ?_
   (refine TD.val0 (v := ?v38) (by simp only [zK]; rfl) rfl (by rfl) (fun w1 => ?y38) ?n38; (case y38 => go_simp; try with_reducible rfl); try simp only [Act.put, zL])
   (refine TD.load (v := ?v39) (p := ?p39) (Mod.refl _ _) (by simp only [zK]; rfl) rfl (by rfl) rfl ?hx39 (fun wq hSq => ?y39) ?n39; (case hx39 => simp only [Act.eval, zM]; try rfl); (case y39 => (have kp10q := hSq.at kp10 (fun h => h); go_simp; (try with_reducible rfl))); try simp only [Act.put, zL])
   (refine TD.val0 (v := ?v40) (by simp only [zK]; rfl) rfl (by rfl) (fun w1 => ?y40) ?n40; (case y40 => go_simp; try with_reducible rfl); try simp only [Act.put, zL])
   (refine TD.val0 (v := ?v41) (by simp only [zK]; rfl) rfl (by rfl) (fun w1 => ?y41) ?n41; (case y41 => go_simp; try with_reducible rfl); try simp only [Act.put, zL])
   refine TD.eff (by simp only [zK]; rfl) rfl (fun wE hr => ?_)
   have kp10 := hr.mod.at0 kp10
   have mE := hr.mod
   (refine eff_store (X := ?X42) (Y := ?Y42) (w' := ?w42) (by simp only [zK]; rfl) (by rfl) rfl ?hx42 ?hz42 ?y42 ?n42; (case hx42 => simp only [Act.eval, zM]; try rfl); (case hz42 => simp only [Act.eval, zM]; try rfl); (case y42 => go_simp; try with_reducible rfl))
   (first | refine TE.nil_set kp10 (fun w13 kp10 mS => ?_) | refine TE.nil_setCell kp10 (fun w13 kp10 mS => ?_))
   (try simp only [Array.setIfInBounds, zL] at kp10)
   have HM3 := Lib.hid ((HM2.out.trans (mE.mono (fun _ _ e => e.elim))).trans mS)
   have e1 : ((dqv ⟨k, num, prio, 0, false⟩).setIfInBounds 0 (.int .i64 ((k : Int) + 1))) = dqv ⟨k + 1, num, prio, 0, false⟩ := by simp [dqv]
   replace kp10 : w13.heap[p10]? = some (.cells (dqv ⟨k + 1, num, prio, 0, false⟩) 86 (0, 0)) := by
    rw [← e1]
    exact kp10
   have hbx := boxI_at kp10
   clear e1
   clear mE mS
   go_wp2_with fail
   go_roundw
   case rel => exact ⟨k + 1, by omega, rfl⟩
   case measure =>
    have h0 := HB0.out
    omega
  ·obtain rfl : k = f := by omega
   have HLP := Lib.hid (HRQ.out.1.mod HM.out (fun g hg e => HP10.out (by have h1 := HRQ.out.2.2.2.1 g hg; have h2 : g = p10 := e; rwa [h2] at h1)))
   have hbd := bsD ⟨k, num, prio, 0, false⟩
   have hLn := HRQ.out.2.1
   by_cases hfn : k < nL
   ·obtain ⟨y, hy⟩ : ∃ y, L[k]? = some y := ⟨_, List.getElem?_eq_getElem (by rw [hLn]; exact hfn)⟩
    have hyk : y.id ≠ k := free_no HFR.out.1 (by rw [← HFR.out.2.1]; exact hy)
    obtain ⟨a9, c9, hv9, hs9, _⟩ := HLP.out.at dqT
    rw [hLn] at hv9
    injection hv9 with q1 _ q3
    subst q1
    subst q3
    obtain ⟨g, oo, C, U, fr, rfl, kl, he, hle⟩ := hs9.block hy
    obtain ⟨e0, _⟩ := dq_part he
    have hde : ((y.id : Int) == (k : Int)) = false := by rw [beq_eq_false_iff_ne]; omega
    have hdeN : (y.id == k) = false := by rw [beq_eq_false_iff_ne]; exact hyk
    clear hy hyk hs9 he
    go_upto_region 12 with fail
    have Lkr := lt_size kr
    have Lkp10 := lt_size kp10
    have Lkl := lt_size kl
    refine wp_pass (C := fun _ _ _ => False) (κ := fun i => [0, 1, 0, 0, 0, 1, 0, 0, 0, 0, 0, 0, 1, 0, 1, 0, 0, 1, 0, 1, 0, 0].getD i 0) [0, 1, 2, 3, 4, 5, 6, 7, 8, 9, 10, 11, 12, 13, 14, 15, 16, 17, 18, 19, 20, 21] (by kernel_rfl) (by kernel_rfl) (fun _ _ d _ _ h => by cases d <;> first | exact h | exact absurd h (hP _ _ _)) ?_
    (refine TD.val0 (v := ?v43) (by simp only [zK]; rfl) rfl (by rfl) (fun w1 => ?y43) ?n43; (case y43 => go_simp; try with_reducible rfl); try simp only [Act.put, zL])
    (refine TD.load (v := ?v44) (p := ?p44) (Mod.refl _ _) (by simp only [zK]; rfl) rfl (by rfl) rfl ?hx44 (fun wq hSq => ?y44) ?n44; (case hx44 => simp only [Act.eval, zM]; try rfl); (case y44 => (have krq := hSq.at kr (fun h => h); have kp10q := hSq.at kp10 (fun h => h); have klq := hSq.at kl (fun h => h); go_simp; (try with_reducible rfl))); try simp only [Act.put, zL])
    (refine TD.val0 (v := ?v45) (by simp only [zK]; rfl) rfl (by rfl) (fun w1 => ?y45) ?n45; (case y45 => go_simp; try with_reducible rfl); try simp only [Act.put, zL])
    (refine TD.val0 (v := ?v46) (by simp only [zK]; rfl) rfl (by rfl) (fun w1 => ?y46) ?n46; (case y46 => go_simp; try with_reducible rfl); try simp only [Act.put, zL])
    (refine TD.val0 (v := ?v47) (by simp only [zK]; rfl) rfl (by rfl) (fun w1 => ?y47) ?n47; (case y47 => go_simp; try with_reducible rfl); try simp only [Act.put, zL])
    (refine TD.load (v := ?v48) (p := ?p48) (Mod.refl _ _) (by simp only [zK]; rfl) rfl (by rfl) rfl ?hx48 (fun wq hSq => ?y48) ?n48; (case hx48 => simp only [Act.eval, zM]; try rfl); (case y48 => (have krq := hSq.at kr (fun h => h); have kp10q := hSq.at kp10 (fun h => h); have klq := hSq.at kl (fun h => h); go_simp; (try with_reducible rfl))); try simp only [Act.put, zL])
    (refine TD.val0 (v := ?v49) (by simp only [zK]; rfl) rfl (by rfl) (fun w1 => ?y49) ?n49; (case y49 => go_simp; try with_reducible rfl); try simp only [Act.put, zL])
    (refine TD.val0 (v := ?v50) (by simp only [zK]; rfl) rfl (by rfl) (fun w1 => ?y50) ?n50; (case y50 => go_simp; try with_reducible rfl); try simp only [Act.put, zL])
    (refine TD.val0 (v := ?v51) (by simp only [zK]; rfl) rfl (by rfl) (fun w1 => ?y51) ?n51; (case y51 => go_simp; try with_reducible rfl); try simp only [Act.put, zL])
    (refine TD.val0 (v := ?v52) (by simp only [zK]; rfl) rfl (by rfl) (fun w1 => ?y52) ?n52; (case y52 => go_simp; try with_reducible rfl); try simp only [Act.put, zL])
    (refine TD.val0 (v := ?v53) (by simp only [zK]; rfl) rfl (by rfl) (fun w1 => ?y53) ?n53; (case y53 => go_simp; try with_reducible rfl); try simp only [Act.put, zL])
    (refine TD.val0 (v := ?v54) (by simp only [zK]; rfl) rfl (by rfl) (fun w1 => ?y54) ?n54; (case y54 => go_simp; try with_reducible rfl); try simp only [Act.put, zL])
    (refine TD.load (v := ?v55) (p := ?p55) (Mod.refl _ _) (by simp only [zK]; rfl) rfl (by rfl) rfl ?hx55 (fun wq hSq => ?y55) ?n55; (case hx55 => simp only [Act.eval, zM]; try rfl); (case y55 => (have krq := hSq.at kr (fun h => h); have kp10q := hSq.at kp10 (fun h => h); have klq := hSq.at kl (fun h => h); go_simp; (try with_reducible rfl))); try simp only [Act.put, zL])
    (refine TD.val0 (v := ?v56) (by simp only [zK]; rfl) rfl (by rfl) (fun w1 => ?y56) ?n56; (case y56 => go_simp; try with_reducible rfl); try simp only [Act.put, zL])
    (refine TD.load (v := ?v57) (p := ?p57) (Mod.refl _ _) (by simp only [zK]; rfl) rfl (by rfl) rfl ?hx57 (fun wq hSq => ?y57) ?n57; (case hx57 => simp only [Act.eval, zM]; try rfl); (case y57 => (have krq := hSq.at kr (fun h => h); have kp10q := hSq.at kp10 (fun h => h); have klq := hSq.at kl (fun h => h); go_simp; (try with_reducible rfl))); try simp only [Act.put, zL])
    (refine TD.val0 (v := ?v58) (by simp only [zK]; rfl) rfl (by rfl) (fun w1 => ?y58) ?n58; (case y58 => go_simp; try with_reducible rfl); try simp only [Act.put, zL])
    (refine TD.val0 (v := ?v59) (by simp only [zK]; rfl) rfl (by rfl) (fun w1 => ?y59) ?n59; (case y59 => go_simp; try with_reducible rfl); try simp only [Act.put, zL])
    (refine TD.load (v := ?v60) (p := ?p60) (Mod.refl _ _) (by simp only [zK]; rfl) rfl (by rfl) rfl ?hx60 (fun wq hSq => ?y60) ?n60; (case hx60 => simp only [Act.eval, zM]; try rfl); (case y60 => (have krq := hSq.at kr (fun h => h); have kp10q := hSq.at kp10 (fun h => h); have klq := hSq.at kl (fun h => h); go_simp; (try with_reducible rfl))); try simp only [Act.put, zL])
    (refine TD.val0 (v := ?v61) (by simp only [zK]; rfl) rfl (by rfl) (fun w1 => ?y61) ?n61; (case y61 => go_simp; try with_reducible rfl); try simp only [Act.put, zL])
    (refine TD.load (v := ?v62) (p := ?p62) (Mod.refl _ _) (by simp only [zK]; rfl) rfl (by rfl) rfl ?hx62 (fun wq hSq => ?y62) ?n62; (case hx62 => simp only [Act.eval, zM]; try rfl); (case y62 => (have krq := hSq.at kr (fun h => h); have kp10q := hSq.at kp10 (fun h => h); have klq := hSq.at kl (fun h => h); go_simp; (try with_reducible rfl))); try simp only [Act.put, zL])
    (refine TD.val0 (v := ?v63) (by simp only [zK]; rfl) rfl (by rfl) (fun w1 => ?y63) ?n63; (case y63 => go_simp; try with_reducible rfl); try simp only [Act.put, zL])
    (refine TD.val0 (v := ?v64) (by simp only [zK]; rfl) rfl (by rfl) (fun w1 => ?y64) ?n64; (case y64 => go_simp; try with_reducible rfl); try simp only [Act.put, zL])
    refine TD.nil (fun w12 hr => ?_)
    have kr := hr.mod.at kr (fun h => h)
    have kp10 := hr.mod.at kp10 (fun h => h)
    have kl := hr.mod.at kl (fun h => h)
    have HM2 := Lib.hid (HM.out.trans (hr.mod.mono (fun _ _ e => e.elim)))
    have hlp := HLP.out.mod0 hr.mod
    obtain ⟨at1, ct1, hq1, hs1, _⟩ := own_takeR dqT hlp (k := k) (by rw [hLn]; exact hfl)
    obtain ⟨at2, ct2, hq2, hs2, hb2⟩ := own_dropR dqT hlp (k := k) (by rw [hLn]; exact hfl)
    have hkl : (L.take k).length = k := by rw [List.length_take]; omega
    have hdl : (L.drop k).length = nL - k := by rw [List.length_drop, hLn]
    rw [hdl] at hq2
    have HS := Lib.hid (And.intro hs1 (And.intro hs2 (And.intro hkl (And.intro hdl (fun b o e => HRQ.out.2.2.2.1 b (hb2 b o e))))))
    have sw := HM2.out.size
    clear hr hlp hs1 hs2 hb2 hkl hdl
    go_upto_region 14 with fail
    have Lkr := lt_size kr
    have Lkp10 := lt_size kp10
    refine wp_gpass (T0 := fun _ => False) (K := fun _ _ => True) (κ := fun i => [0, 0, 0, 0, 0, 0, 0, 6, 0].getD i 0) (υ := fun i => [[], [], [], [], [], [], [], [], []].getD i []) [0, 1, 2, 3, 4, 5, 6, 7, 8] (by kernel_rfl) (by kernel_rfl) (Good.true).cl (trivial) (fun _ h => h.elim) ?_
    have gK := Good.true
    (refine TG.v0 (v := ?v65) (by simp only [zK]; rfl) rfl (by rfl) (fun w1 => ?y65) ?n65; (case y65 => go_simp; try with_reducible rfl); try simp only [Act.put, zL])
    (refine TG.v0 (v := ?v66) (by simp only [zK]; rfl) rfl (by rfl) (fun w1 => ?y66) ?n66; (case y66 => go_simp; try with_reducible rfl); try simp only [Act.put, zL])
    (refine TG.v0 (v := ?v67) (by simp only [zK]; rfl) rfl (by rfl) (fun w1 => ?y67) ?n67; (case y67 => go_simp; try with_reducible rfl); try simp only [Act.put, zL])
    (refine TG.load (v := ?v68) (p := ?p68) (by simp only [zK]; rfl) rfl (by rfl) rfl ?hx68 (fun wq hSq => ?y68) ?n68; (case hx68 => simp only [Act.eval, zM]; try rfl); (case y68 => (have krq := hSq.at kr (fun h => h); have kp10q := hSq.at kp10 (fun h => h); go_simp; (try with_reducible rfl))); try simp only [Act.put, zL])
    (refine TG.v0 (v := ?v69) (by simp only [zK]; rfl) rfl (by rfl) (fun w1 => ?y69) ?n69; (case y69 => go_simp; try with_reducible rfl); try simp only [Act.put, zL])
    (refine TG.load (v := ?v70) (p := ?p70) (by simp only [zK]; rfl) rfl (by rfl) rfl ?hx70 (fun wq hSq => ?y70) ?n70; (case hx70 => simp only [Act.eval, zM]; try rfl); (case y70 => (have krq := hSq.at kr (fun h => h); have kp10q := hSq.at kp10 (fun h => h); go_simp; (try with_reducible rfl))); try simp only [Act.put, zL])
    (refine TG.slice (by simp only [zK]; rfl) rfl (by rfl) rfl ?hs71 ?hl71 ?hh71 ?hm71 hq1 ?n71; (case hs71 => simp only [Act.eval, zM]; try rfl); (case hl71 => first | rfl | (simp only [Option.map_some, Act.eval, zM]; (try rfl))); (case hh71 => first | rfl | (simp only [Option.map_some, Act.eval, zM]; (try rfl))); (case hm71 => rfl); try simp only [Act.put, zL])
    (refine TG.appK (X := ?X72) (Y := ?Y72) (OwnD wa.heap.size (L.take k)) (goodOwnD wa.heap.size (L.take k)) (by simp only [zK]; rfl) rfl (by rfl) rfl ?hx72 ?hz72 (fun T wq kq ltq hSq ub => ?y72) ?n72; (case hx72 => simp only [Act.eval, zM]; try rfl); (case hz72 => simp only [Act.eval, zM]; try rfl); (case y72 => (have krq := hSq.at kr (fun h => h); have kp10q := hSq.at kp10 (fun h => h); have hh := app_nilD (B0 := wa.heap.size) (c := ct1) (T := T) (HS.out.1.mod0 hSq) (by rw [HS.out.2.2.1]; omega) (Nat.le_trans sw hSq.size); rw [HS.out.2.2.1] at hh; exact hh)); rintro v72 ⟨wI, TI, hI⟩; replace gK := (goodOwnD wa.heap.size (L.take k)) v72; skip; (try clear hI TI wI); try simp only [Act.put, zL])
    (refine TG.v0 (v := ?v73) (by simp only [zK]; rfl) rfl (by rfl) (fun w1 => ?y73) ?n73; (case y73 => go_simp; try with_reducible rfl); try simp only [Act.put, zL])
    refine TG.nil (fun w14 ⟨TR, hr⟩ => ?_)
    have kr := hr.mod.at kr (fun h => h)
    have kp10 := hr.mod.at kp10 (fun h => h)
    clear gK
    have HM4 := Lib.hid (HM2.out.trans (hr.mod.mono (fun _ _ e => e.elim)))
    have hO5 := hr.k.1
    obtain ⟨a5, c5, hv5, _⟩ := hO5.at dqT
    rw [HS.out.2.2.1] at hv5
    subst hv5
    have HO5 := Lib.hid hO5
    have HS5 := Lib.hid (HS.out.2.1.mod0 hr.mod)
    clear hr hO5 hq1
    go_upto_region 15 with fail
    have Lkr := lt_size kr
    have Lkp10 := lt_size kp10
    refine wp_pass0 (C := fun _ _ _ => False) (κ := fun i => [0, 1, 3, 5, 0].getD i 0) [0, 1, 2, 3, 4] (by kernel_rfl) (by kernel_rfl) (fun _ _ d _ _ h => by cases d <;> first | exact h | exact absurd h (hP _ _ _)) ?_
    (refine TD.val0 (v := ?v74) (by simp only [zK]; rfl) rfl (by rfl) (fun w1 => ?y74) ?n74; (case y74 => go_simp; try with_reducible rfl); try simp only [Act.put, zL])
    (refine TD.load (v := ?v75) (p := ?p75) (Mod.refl _ _) (by simp only [zK]; rfl) rfl (by rfl) rfl ?hx75 (fun wq hSq => ?y75) ?n75; (case hx75 => simp only [Act.eval, zM]; try rfl); (case y75 => (have krq := hSq.at kr (fun h => h); have kp10q := hSq.at kp10 (fun h => h); go_simp; (try with_reducible rfl))); try simp only [Act.put, zL])
    (refine TD.bslice (by simp only [zK]; rfl) rfl (by rfl) rfl rfl ?hx76 hbd (fun p102 hp102 => ?n76); (case hx76 => (simp only [List.map_toArray, List.map_cons, List.map_nil, Act.eval, zM]; (try rfl))); try simp only [Act.put, zL])
    refine TD.eff (by simp only [zK]; rfl) rfl (fun w15 hr => ?_)
    have kr := hr.mod.at kr (fun h => h)
    have kp10 := hr.mod.at kp10 (fun h => h)
    have kp102 := hr.box p102 _ (by first | exact Bx.set_same _ _ _ | (simp only [Bx.set_same]; rfl)); dsimp only [Value.cells] at kp102; obtain ⟨gp102, kp102⟩ := kp102
    have hone : SlAt dqv 5 w15 (some ⟨p102, 0, none⟩) [(⟨k, num, prio, 0, false⟩ : Dq)] := SlAt.one kp102 _ rfl rfl
    have HM5 := Lib.hid (HM4.out.trans (hr.mod.mono (fun _ _ e => e.elim)))
    have hO6 := HO5.out.mod0 hr.mod
    have hlt7 := hO6.lt
    obtain ⟨v7, w7, hap, hO7, m7, hn7⟩ := SlOwn.append dqT (c := 1) hO6 hone (by rw [HS.out.2.2.1, List.length_singleton]; omega) (by decide) HM5.out.size 67
    rw [List.length_singleton] at hap
    have hfar : ∀ b, b < wa.heap.size → ¬ ((Value.slice a5 k c5).ownBlock = some b) := fun b hb e => by
     have := (hlt7 b e).1
     omega
    have hpl : p10 < wa.heap.size := HPL.out
    have hrl : r < wa.heap.size := HRQ.out.2.2.2.2 r HRQ.out.2.2.1
    have HS7 : Hid (SlAt dqv 5 w7 at2 (L.drop k)) := Lib.hid ((HS5.out.mod0 hr.mod).mod m7 (fun b o e h => hfar b (HRQ.out.2.2.2.2 b (HS.out.2.2.2.2 b o e)) h))
    have HM7 : Hid (Mod (fun i => i = p10) wa w7) := Lib.hid (HM5.out.then m7 (fun i hi e => (hfar i hi e).elim))
    have kr7 := m7.at kr (fun e => hfar r hrl e)
    have kp7 := m7.at kp10 (fun e => hfar p10 hpl e)
    obtain ⟨a7, c7, hv7, _⟩ := hO7.at dqT
    obtain ⟨k1, hk1⟩ : ∃ k1, (L.take k ++ [(⟨k, num, prio, 0, false⟩ : Dq)]).length = k1 := ⟨_, rfl⟩
    rw [hk1] at hv7
    have hk1e : k1 = k + 1 := by rw [← hk1, List.length_append, HS.out.2.2.1]; rfl
    have HO7 := Lib.hid (And.intro hO7 (And.intro hk1 hk1e))
    subst hv7
    clear hr hbd hone hO6 hlt7 hn7 hfar m7 kr kp10 kp102 hO7 hk1 hk1e HS5 HO5
    (refine eff_append (by simp only [zK]; rfl) (by rfl) rfl ?hx78 ?hz78 hap ?n78; (case hx78 => simp only [Act.eval, zM]; try rfl); (case hz78 => simp only [Act.eval, zM]; try rfl); try simp only [Act.put, zL])
    (refine TE.val0 (v := ?v79) (by simp only [zK]; rfl) (by rfl) (fun w1 => ?y79) ?n79; (case y79 => go_simp; try with_reducible rfl); try simp only [Act.put, zL])
    refine TE.nil ?_
    clear hap
    have hfar7 : ∀ b, b < wa.heap.size → ¬ ((Value.slice a7 k1 c7).ownBlock = some b) := fun b hb e => by
     have := (HO7.out.1.lt b e).1
     omega
    have nr7 : ¬ ((Value.slice a7 k1 c7).ownBlock = some r) := hfar7 r hrl
    have np7 : ¬ ((Value.slice a7 k1 c7).ownBlock = some p10) := hfar7 p10 hpl
    have HF7 := Lib.hid hfar7
    have sw7 := HM7.out.size
    clear hfar7
    go_upto_region 16 with fail
    have Lkr7 := lt_size kr7
    have Lkp7 := lt_size kp7
    refine wp_epass (T0 := fun i => (Value.slice a7 k1 c7).ownBlock = some i) (K := OwnD wa.heap.size (L.take k ++ [(⟨k, num, prio, 0, false⟩ : Dq)]) (.slice a7 k1 c7)) (κ := fun i => [0, 0, 0, 0, 0, 0, 0, 0, 0, 6, 0, 0, 6].getD i 0) (υ := fun i => [[], [], [], [], [], [], [], [], [], [], [], [], []].getD i []) [0, 1, 2, 3, 4, 5, 6, 7, 8, 9, 10, 11] [12] (by kernel_rfl) (by kernel_rfl) (goodOwnD wa.heap.size (L.take k ++ [(⟨k, num, prio, 0, false⟩ : Dq)]) (.slice a7 k1 c7)).cl (⟨HO7.out.1, fun g hg => hg⟩) (fun i hi => (HO7.out.1.lt i hi).2) ?_
    have gK := goodOwnD wa.heap.size (L.take k ++ [(⟨k, num, prio, 0, false⟩ : Dq)]) (.slice a7 k1 c7)
    (refine TG.v0 (v := ?v80) (by simp only [zK]; rfl) rfl (by rfl) (fun w1 => ?y80) ?n80; (case y80 => go_simp; try with_reducible rfl); try simp only [Act.put, zL])
    (refine TG.v0 (v := ?v81) (by simp only [zK]; rfl) rfl (by rfl) (fun w1 => ?y81) ?n81; (case y81 => go_simp; try with_reducible rfl); try simp only [Act.put, zL])
    (refine TG.v0 (v := ?v82) (by simp only [zK]; rfl) rfl (by rfl) (fun w1 => ?y82) ?n82; (case y82 => go_simp; try with_reducible rfl); try simp only [Act.put, zL])
    (refine TG.v0 (v := ?v83) (by simp only [zK]; rfl) rfl (by rfl) (fun w1 => ?y83) ?n83; (case y83 => go_simp; try with_reducible rfl); try simp only [Act.put, zL])
    (refine TG.v0 (v := ?v84) (by simp only [zK]; rfl) rfl (by rfl) (fun w1 => ?y84) ?n84; (case y84 => go_simp; try with_reducible rfl); try simp only [Act.put, zL])
    (refine TG.load (v := ?v85) (p := ?p85) (by simp only [zK]; rfl) rfl (by rfl) rfl ?hx85 (fun wq hSq => ?y85) ?n85; (case hx85 => simp only [Act.eval, zM]; try rfl); (case y85 => (have kr7q := hSq.at kr7 (by intro hT; first | exact hT | exact absurd hT (by assumption) | omega | (simp only at hT; omega)); have kp7q := hSq.at kp7 (by intro hT; first | exact hT | exact absurd hT (by assumption) | omega | (simp only at hT; omega)); go_simp; (try with_reducible rfl))); try simp only [Act.put, zL])
    (refine TG.v0 (v := ?v86) (by simp only [zK]; rfl) rfl (by rfl) (fun w1 => ?y86) ?n86; (case y86 => go_simp; try with_reducible rfl); try simp only [Act.put, zL])
    (refine TG.load (v := ?v87) (p := ?p87) (by simp only [zK]; rfl) rfl (by rfl) rfl ?hx87 (fun wq hSq => ?y87) ?n87; (case hx87 => simp only [Act.eval, zM]; try rfl); (case y87 => (have kr7q := hSq.at kr7 (by intro hT; first | exact hT | exact absurd hT (by assumption) | omega | (simp only at hT; omega)); have kp7q := hSq.at kp7 (by intro hT; first | exact hT | exact absurd hT (by assumption) | omega | (simp only at hT; omega)); go_simp; (try with_reducible rfl))); try simp only [Act.put, zL])
    (refine TG.slice (by simp only [zK]; rfl) rfl (by rfl) rfl ?hs88 ?hl88 ?hh88 ?hm88 hq2 ?n88; (case hs88 => simp only [Act.eval, zM]; try rfl); (case hl88 => first | rfl | (simp only [Option.map_some, Act.eval, zM]; (try rfl))); (case hh88 => first | rfl | (simp only [Option.map_some, Act.eval, zM]; (try rfl))); (case hm88 => rfl); try simp only [Act.put, zL])
    (refine TG.appK (X := ?X89) (Y := ?Y89) (OwnD wa.heap.size (L.take k ++ [(⟨k, num, prio, 0, false⟩ : Dq)] ++ L.drop k)) (goodOwnD wa.heap.size (L.take k ++ [(⟨k, num, prio, 0, false⟩ : Dq)] ++ L.drop k)) (by simp only [zK]; rfl) rfl (by rfl) rfl ?hx89 ?hz89 (fun T wq kq ltq hSq ub => ?y89) ?n89; (case hx89 => simp only [Act.eval, zM]; try rfl); (case hz89 => simp only [Act.eval, zM]; try rfl); (case y89 => (have kr7q := hSq.at kr7 (by intro hT; first | exact hT | exact absurd hT (by assumption) | omega | (simp only at hT; omega)); have kp7q := hSq.at kp7 (by intro hT; first | exact hT | exact absurd hT (by assumption) | omega | (simp only at hT; omega)); have hh := app_ownD (c := ct2) kq (HS7.out.mod hSq (fun b o e h => HF7.out b (HRQ.out.2.2.2.2 b (HS.out.2.2.2.2 b o e)) h)) (by rw [HO7.out.2.1, HO7.out.2.2, HS.out.2.2.2.1]; omega) (Nat.le_trans sw7 hSq.size); rw [HS.out.2.2.2.1] at hh; exact hh)); rintro v89 ⟨wI, TI, hI⟩; replace gK := (goodOwnD wa.heap.size (L.take k ++ [(⟨k, num, prio, 0, false⟩ : Dq)] ++ L.drop k)) v89; skip; (try clear hI TI wI); try simp only [Act.put, zL])
    (refine TG.v0 (v := ?v90) (by simp only [zK]; rfl) rfl (by rfl) (fun w1 => ?y90) ?n90; (case y90 => go_simp; try with_reducible rfl); try simp only [Act.put, zL])
    (refine TG.v0 (v := ?v91) (by simp only [zK]; rfl) rfl (by rfl) (fun w1 => ?y91) ?n91; (case y91 => go_simp; try with_reducible rfl); try simp only [Act.put, zL])
    refine TG.nil (fun w16 ⟨TR, hr⟩ => ?_)
    have kr7 := hr.mod.at kr7 (by intro hT; first | exact hT | exact absurd hT (by assumption) | omega | (simp only at hT; omega))
    have kp7 := hr.mod.at kp7 (by intro hT; first | exact hT | exact absurd hT (by assumption) | omega | (simp only at hT; omega))
    clear gK
    have hO9 := hr.k.1
    have HM8 : Hid (Mod (fun i => i = p10) wa w16) := Lib.hid (HM7.out.then hr.mod (fun i hi e => (HF7.out i hi e).elim))
    obtain ⟨a9, c9, hv9, _⟩ := hO9.at dqT
    obtain ⟨n9, hn9⟩ : ∃ n9, (L.take k ++ [(⟨k, num, prio, 0, false⟩ : Dq)] ++ L.drop k).length = n9 := ⟨_, rfl⟩
    rw [hn9] at hv9
    have HO9 := Lib.hid (And.intro hO9 hO9.lt)
    subst hv9
    clear hr hO9 hn9 hq2 nr7 np7
    refine TE.step (by simp only [zK]; rfl) rfl ?_
    (refine eff_store (X := ?X92) (Y := ?Y92) (w' := ?w92) (by simp only [zK]; rfl) (by rfl) rfl ?hx92 ?hz92 ?y92 ?n92; (case hx92 => simp only [Act.eval, zM]; try rfl); (case hz92 => simp only [Act.eval, zM]; try rfl); (case y92 => go_simp; try with_reducible rfl))
    (first | refine TE.nil_set kr7 (fun wn kr7 mS => ?_) | refine TE.nil_setCell kr7 (fun wn kr7 mS => ?_))
    (try simp only [Array.setIfInBounds, zL] at kr7)
    (try simp only [Act.put, zL])
    replace kr7 : wn.heap[r]? = some (.cells #[.int .i64 (n : Int), .slice a9 n9 c9] 69 (0, 0)) := kr7
    replace kp7 := mS.at_ne kp7 (Ne.symm hrp)
    have HM9 : Hid (Mod (fun i => i = p10 ∨ i = r) wa wn) := Lib.hid ((HM8.out.mono (fun _ _ e => .inl e)).trans (mS.mono (fun _ _ e => .inr e)))
    have HO10 := Lib.hid (HO9.out.1.mod mS (fun g hg e => by have := (HO9.out.2 g hg).1; omega))
    have HFIN : Hid (QT r n (docL 0 ((S).set k (some x))) T w wn) := Lib.hid (by
     have hsz := HM9.out.size
     have hsw := HMT.out.size
     have hlt9 := HO10.out.lt
     have hid : docL 0 ((S).set k (some x)) = L.take k ++ [(⟨k, num, prio, 0, false⟩ : Dq)] ++ L.drop k := by
      rw [docL_ins HFR.out.1, HX.out, ← HFR.out.2.1]
      simp
     rw [hid]
     exact ⟨fun j => T j ∨ (wa.heap.size ≤ j ∧ j < wn.heap.size), ⟨_, kr7, HO10.out.low (Nat.zero_le _), .inl HRQ.out.2.2.1, fun g hg => .inr (hlt9 g hg)⟩, HMT.out.then HM9.out (fun i hi e => e.elim (fun h => by have := HPG.out; omega) (fun h => h ▸ HTR.out)), fun j hj => hj.elim (HT1.out j) (fun h => .inr (Nat.le_trans hsw h.1)), fun j hj => hj.elim (fun h => Nat.lt_of_lt_of_le (HRQ.out.2.2.2.2 j h) hsz) (fun h => h.2)⟩)
    clear mS kr7 HO9 HO7 HS7
    go_wp2_with fail
    exact bodyPost_ret (results_tmp3 rfl _ _ _) rfl ⟨rfl,HFIN.out⟩
   ·have hfe : k = nL := by omega
    subst hfe
    have hnl2 : ¬ k < k := by omega
    go_upto_region 12 with fail
    have Lkr := lt_size kr
    have Lkp10 := lt_size kp10
    refine wp_pass (C := fun _ _ _ => False) (κ := fun i => [0, 1, 0, 0, 0, 1, 0, 0, 0, 0, 0, 0, 0, 0, 0, 0, 0, 0, 0, 0, 0, 0].getD i 0) [0, 1, 2, 3, 4, 5, 6, 7, 8, 9, 10, 11, 12, 13, 14, 15, 16, 17, 18, 19, 20, 21] (by kernel_rfl) (by kernel_rfl) (fun _ _ d _ _ h => by cases d <;> first | exact h | exact absurd h (hP _ _ _)) ?_
    (refine TD.val0 (v := ?v93) (by simp only [zK]; rfl) rfl (by rfl) (fun w1 => ?y93) ?n93; (case y93 => go_simp; try with_reducible rfl); try simp only [Act.put, zL])
    (refine TD.load (v := ?v94) (p := ?p94) (Mod.refl _ _) (by simp only [zK]; rfl) rfl (by rfl) rfl ?hx94 (fun wq hSq => ?y94) ?n94; (case hx94 => simp only [Act.eval, zM]; try rfl); (case y94 => (have krq := hSq.at kr (fun h => h); have kp10q := hSq.at kp10 (fun h => h); go_simp; (try with_reducible rfl))); try simp only [Act.put, zL])
    (refine TD.val0 (v := ?v95) (by simp only [zK]; rfl) rfl (by rfl) (fun w1 => ?y95) ?n95; (case y95 => go_simp; try with_reducible rfl); try simp only [Act.put, zL])
    (refine TD.val0 (v := ?v96) (by simp only [zK]; rfl) rfl (by rfl) (fun w1 => ?y96) ?n96; (case y96 => go_simp; try with_reducible rfl); try simp only [Act.put, zL])
    (refine TD.val0 (v := ?v97) (by simp only [zK]; rfl) rfl (by rfl) (fun w1 => ?y97) ?n97; (case y97 => go_simp; try with_reducible rfl); try simp only [Act.put, zL])
    (refine TD.load (v := ?v98) (p := ?p98) (Mod.refl _ _) (by simp only [zK]; rfl) rfl (by rfl) rfl ?hx98 (fun wq hSq => ?y98) ?n98; (case hx98 => simp only [Act.eval, zM]; try rfl); (case y98 => (have krq := hSq.at kr (fun h => h); have kp10q := hSq.at kp10 (fun h => h); go_simp; (try with_reducible rfl))); try simp only [Act.put, zL])
    (refine TD.val0 (v := ?v99) (by simp only [zK]; rfl) rfl (by rfl) (fun w1 => ?y99) ?n99; (case y99 => go_simp; try with_reducible rfl); try simp only [Act.put, zL])
    (refine TD.val0 (v := ?v100) (by simp only [zK]; rfl) rfl (by rfl) (fun w1 => ?y100) ?n100; (case y100 => go_simp; try with_reducible rfl); try simp only [Act.put, zL])
    (refine TD.val0 (v := ?v101) (by simp only [zK]; rfl) rfl (by rfl) (fun w1 => ?y101) ?n101; (case y101 => go_simp; try with_reducible rfl); try simp only [Act.put, zL])
    (refine TD.pass (by simp only [zK]; rfl) rfl (by rfl) ?n102; try simp only [Act.put, zL])
    (refine TD.pass (by simp only [zK]; rfl) rfl (by rfl) ?n103; try simp only [Act.put, zL])
    (refine TD.pass (by simp only [zK]; rfl) rfl (by rfl) ?n104; try simp only [Act.put, zL])
    (refine TD.pass (by simp only [zK]; rfl) rfl (by rfl) ?n105; try simp only [Act.put, zL])
    (refine TD.pass (by simp only [zK]; rfl) rfl (by rfl) ?n106; try simp only [Act.put, zL])
    (refine TD.pass (by simp only [zK]; rfl) rfl (by rfl) ?n107; try simp only [Act.put, zL])
    (refine TD.pass (by simp only [zK]; rfl) rfl (by rfl) ?n108; try simp only [Act.put, zL])
    (refine TD.pass (by simp only [zK]; rfl) rfl (by rfl) ?n109; try simp only [Act.put, zL])
    (refine TD.pass (by simp only [zK]; rfl) rfl (by rfl) ?n110; try simp only [Act.put, zL])
    (refine TD.pass (by simp only [zK]; rfl) rfl (by rfl) ?n111; try simp only [Act.put, zL])
    (refine TD.pass (by simp only [zK]; rfl) rfl (by rfl) ?n112; try simp only [Act.put, zL])
    (refine TD.pass (by simp only [zK]; rfl) rfl (by rfl) ?n113; try simp only [Act.put, zL])
    (refine TD.val0 (v := ?v114) (by simp only [zK]; rfl) rfl (by rfl) (fun w1 => ?y114) ?n114; (case y114 => go_simp; try with_reducible rfl); try simp only [Act.put, zL])
    refine TD.nil (fun w12 hr => ?_)
    have kr := hr.mod.at kr (fun h => h)
    have kp10 := hr.mod.at kp10 (fun h => h)
    have HM2 := Lib.hid (HM.out.trans (hr.mod.mono (fun _ _ e => e.elim)))
    have hlp := HLP.out.mod0 hr.mod
    obtain ⟨at1, ct1, hq1, hs1, _⟩ := own_takeR dqT hlp (k := k) (by rw [hLn]; exact hfl)
    obtain ⟨at2, ct2, hq2, hs2, hb2⟩ := own_dropR dqT hlp (k := k) (by rw [hLn]; exact hfl)
    have hkl : (L.take k).length = k := by rw [List.length_take]; omega
    have hdl : (L.drop k).length = k - k := by rw [List.length_drop, hLn]
    rw [hdl] at hq2
    have HS := Lib.hid (And.intro hs1 (And.intro hs2 (And.intro hkl (And.intro hdl (fun b o e => HRQ.out.2.2.2.1 b (hb2 b o e))))))
    have sw := HM2.out.size
    clear hr hlp hs1 hs2 hb2 hkl hdl
    go_upto_region 14 with fail
    have Lkr := lt_size kr
    have Lkp10 := lt_size kp10
    refine wp_gpass (T0 := fun _ => False) (K := fun _ _ => True) (κ := fun i => [0, 0, 0, 0, 0, 0, 0, 6, 0].getD i 0) (υ := fun i => [[], [], [], [], [], [], [], [], []].getD i []) [0, 1, 2, 3, 4, 5, 6, 7, 8] (by kernel_rfl) (by kernel_rfl) (Good.true).cl (trivial) (fun _ h => h.elim) ?_
    have gK := Good.true
    (refine TG.v0 (v := ?v115) (by simp only [zK]; rfl) rfl (by rfl) (fun w1 => ?y115) ?n115; (case y115 => go_simp; try with_reducible rfl); try simp only [Act.put, zL])
    (refine TG.v0 (v := ?v116) (by simp only [zK]; rfl) rfl (by rfl) (fun w1 => ?y116) ?n116; (case y116 => go_simp; try with_reducible rfl); try simp only [Act.put, zL])
    (refine TG.v0 (v := ?v117) (by simp only [zK]; rfl) rfl (by rfl) (fun w1 => ?y117) ?n117; (case y117 => go_simp; try with_reducible rfl); try simp only [Act.put, zL])
    (refine TG.load (v := ?v118) (p := ?p118) (by simp only [zK]; rfl) rfl (by rfl) rfl ?hx118 (fun wq hSq => ?y118) ?n118; (case hx118 => simp only [Act.eval, zM]; try rfl); (case y118 => (have krq := hSq.at kr (fun h => h); have kp10q := hSq.at kp10 (fun h => h); go_simp; (try with_reducible rfl))); try simp only [Act.put, zL])
    (refine TG.v0 (v := ?v119) (by simp only [zK]; rfl) rfl (by rfl) (fun w1 => ?y119) ?n119; (case y119 => go_simp; try with_reducible rfl); try simp only [Act.put, zL])
    (refine TG.load (v := ?v120) (p := ?p120) (by simp only [zK]; rfl) rfl (by rfl) rfl ?hx120 (fun wq hSq => ?y120) ?n120; (case hx120 => simp only [Act.eval, zM]; try rfl); (case y120 => (have krq := hSq.at kr (fun h => h); have kp10q := hSq.at kp10 (fun h => h); go_simp; (try with_reducible rfl))); try simp only [Act.put, zL])
    (refine TG.slice (by simp only [zK]; rfl) rfl (by rfl) rfl ?hs121 ?hl121 ?hh121 ?hm121 hq1 ?n121; (case hs121 => simp only [Act.eval, zM]; try rfl); (case hl121 => first | rfl | (simp only [Option.map_some, Act.eval, zM]; (try rfl))); (case hh121 => first | rfl | (simp only [Option.map_some, Act.eval, zM]; (try rfl))); (case hm121 => rfl); try simp only [Act.put, zL])
    (refine TG.appK (X := ?X122) (Y := ?Y122) (OwnD wa.heap.size (L.take k)) (goodOwnD wa.heap.size (L.take k)) (by simp only [zK]; rfl) rfl (by rfl) rfl ?hx122 ?hz122 (fun T wq kq ltq hSq ub => ?y122) ?n122; (case hx122 => simp only [Act.eval, zM]; try rfl); (case hz122 => simp only [Act.eval, zM]; try rfl); (case y122 => (have krq := hSq.at kr (fun h => h); have kp10q := hSq.at kp10 (fun h => h); have hh := app_nilD (B0 := wa.heap.size) (c := ct1) (T := T) (HS.out.1.mod0 hSq) (by rw [HS.out.2.2.1]; omega) (Nat.le_trans sw hSq.size); rw [HS.out.2.2.1] at hh; exact hh)); rintro v122 ⟨wI, TI, hI⟩; replace gK := (goodOwnD wa.heap.size (L.take k)) v122; skip; (try clear hI TI wI); try simp only [Act.put, zL])
    (refine TG.v0 (v := ?v123) (by simp only [zK]; rfl) rfl (by rfl) (fun w1 => ?y123) ?n123; (case y123 => go_simp; try with_reducible rfl); try simp only [Act.put, zL])
    refine TG.nil (fun w14 ⟨TR, hr⟩ => ?_)
    have kr := hr.mod.at kr (fun h => h)
    have kp10 := hr.mod.at kp10 (fun h => h)
    clear gK
    have HM4 := Lib.hid (HM2.out.trans (hr.mod.mono (fun _ _ e => e.elim)))
    have hO5 := hr.k.1
    obtain ⟨a5, c5, hv5, _⟩ := hO5.at dqT
    rw [HS.out.2.2.1] at hv5
    subst hv5
    have HO5 := Lib.hid hO5
    have HS5 := Lib.hid (HS.out.2.1.mod0 hr.mod)
    clear hr hO5 hq1
    go_upto_region 15 with fail
    have Lkr := lt_size kr
    have Lkp10 := lt_size kp10
    refine wp_pass0 (C := fun _ _ _ => False) (κ := fun i => [0, 1, 3, 5, 0].getD i 0) [0, 1, 2, 3, 4] (by kernel_rfl) (by kernel_rfl) (fun _ _ d _ _ h => by cases d <;> first | exact h | exact absurd h (hP _ _ _)) ?_
    (refine TD.val0 (v := ?v124) (by simp only [zK]; rfl) rfl (by rfl) (fun w1 => ?y124) ?n124; (case y124 => go_simp; try with_reducible rfl); try simp only [Act.put, zL])
    (refine TD.load (v := ?v125) (p := ?p125) (Mod.refl _ _) (by simp only [zK]; rfl) rfl (by rfl) rfl ?hx125 (fun wq hSq => ?y125) ?n125; (case hx125 => simp only [Act.eval, zM]; try rfl); (case y125 => (have krq := hSq.at kr (fun h => h); have kp10q := hSq.at kp10 (fun h => h); go_simp; (try with_reducible rfl))); try simp only [Act.put, zL])
    (refine TD.bslice (by simp only [zK]; rfl) rfl (by rfl) rfl rfl ?hx126 hbd (fun p102 hp102 => ?n126); (case hx126 => (simp only [List.map_toArray, List.map_cons, List.map_nil, Act.eval, zM]; (try rfl))); try simp only [Act.put, zL])
    refine TD.eff (by simp only [zK]; rfl) rfl (fun w15 hr => ?_)
    have kr := hr.mod.at kr (fun h => h)
    have kp10 := hr.mod.at kp10 (fun h => h)
    have kp102 := hr.box p102 _ (by first | exact Bx.set_same _ _ _ | (simp only [Bx.set_same]; rfl)); dsimp only [Value.cells] at kp102; obtain ⟨gp102, kp102⟩ := kp102
    have hone : SlAt dqv 5 w15 (some ⟨p102, 0, none⟩) [(⟨k, num, prio, 0, false⟩ : Dq)] := SlAt.one kp102 _ rfl rfl
    have HM5 := Lib.hid (HM4.out.trans (hr.mod.mono (fun _ _ e => e.elim)))
    have hO6 := HO5.out.mod0 hr.mod
    have hlt7 := hO6.lt
    obtain ⟨v7, w7, hap, hO7, m7, hn7⟩ := SlOwn.append dqT (c := 1) hO6 hone (by rw [HS.out.2.2.1, List.length_singleton]; omega) (by decide) HM5.out.size 67
    rw [List.length_singleton] at hap
    have hfar : ∀ b, b < wa.heap.size → ¬ ((Value.slice a5 k c5).ownBlock = some b) := fun b hb e => by
     have := (hlt7 b e).1
     omega
    have hpl : p10 < wa.heap.size := HPL.out
    have hrl : r < wa.heap.size := HRQ.out.2.2.2.2 r HRQ.out.2.2.1
    have HS7 : Hid (SlAt dqv 5 w7 at2 (L.drop k)) := Lib.hid ((HS5.out.mod0 hr.mod).mod m7 (fun b o e h => hfar b (HRQ.out.2.2.2.2 b (HS.out.2.2.2.2 b o e)) h))
    have HM7 : Hid (Mod (fun i => i = p10) wa w7) := Lib.hid (HM5.out.then m7 (fun i hi e => (hfar i hi e).elim))
    have kr7 := m7.at kr (fun e => hfar r hrl e)
    have kp7 := m7.at kp10 (fun e => hfar p10 hpl e)
    obtain ⟨a7, c7, hv7, _⟩ := hO7.at dqT
    obtain ⟨k1, hk1⟩ : ∃ k1, (L.take k ++ [(⟨k, num, prio, 0, false⟩ : Dq)]).length = k1 := ⟨_, rfl⟩
    rw [hk1] at hv7
    have hk1e : k1 = k + 1 := by rw [← hk1, List.length_append, HS.out.2.2.1]; rfl
    have HO7 := Lib.hid (And.intro hO7 (And.intro hk1 hk1e))
    subst hv7
    clear hr hbd hone hO6 hlt7 hn7 hfar m7 kr kp10 kp102 hO7 hk1 hk1e HS5 HO5
    (refine eff_append (by simp only [zK]; rfl) (by rfl) rfl ?hx128 ?hz128 hap ?n128; (case hx128 => simp only [Act.eval, zM]; try rfl); (case hz128 => simp only [Act.eval, zM]; try rfl); try simp only [Act.put, zL])
    (refine TE.val0 (v := ?v129) (by simp only [zK]; rfl) (by rfl) (fun w1 => ?y129) ?n129; (case y129 => go_simp; try with_reducible rfl); try simp only [Act.put, zL])
    refine TE.nil ?_
    clear hap
    have hfar7 : ∀ b, b < wa.heap.size → ¬ ((Value.slice a7 k1 c7).ownBlock = some b) := fun b hb e => by
     have := (HO7.out.1.lt b e).1
     omega
    have nr7 : ¬ ((Value.slice a7 k1 c7).ownBlock = some r) := hfar7 r hrl
    have np7 : ¬ ((Value.slice a7 k1 c7).ownBlock = some p10) := hfar7 p10 hpl
    have HF7 := Lib.hid hfar7
    have sw7 := HM7.out.size
    clear hfar7
    go_upto_region 16 with fail
    have Lkr7 := lt_size kr7
    have Lkp7 := lt_size kp7
    refine wp_epass (T0 := fun i => (Value.slice a7 k1 c7).ownBlock = some i) (K := OwnD wa.heap.size (L.take k ++ [(⟨k, num, prio, 0, false⟩ : Dq)]) (.slice a7 k1 c7)) (κ := fun i => [0, 0, 0, 0, 0, 0, 0, 0, 0, 6, 0, 0, 6].getD i 0) (υ := fun i => [[], [], [], [], [], [], [], [], [], [], [], [], []].getD i []) [0, 1, 2, 3, 4, 5, 6, 7, 8, 9, 10, 11] [12] (by kernel_rfl) (by kernel_rfl) (goodOwnD wa.heap.size (L.take k ++ [(⟨k, num, prio, 0, false⟩ : Dq)]) (.slice a7 k1 c7)).cl (⟨HO7.out.1, fun g hg => hg⟩) (fun i hi => (HO7.out.1.lt i hi).2) ?_
    have gK := goodOwnD wa.heap.size (L.take k ++ [(⟨k, num, prio, 0, false⟩ : Dq)]) (.slice a7 k1 c7)
    (refine TG.v0 (v := ?v130) (by simp only [zK]; rfl) rfl (by rfl) (fun w1 => ?y130) ?n130; (case y130 => go_simp; try with_reducible rfl); try simp only [Act.put, zL])
    (refine TG.v0 (v := ?v131) (by simp only [zK]; rfl) rfl (by rfl) (fun w1 => ?y131) ?n131; (case y131 => go_simp; try with_reducible rfl); try simp only [Act.put, zL])
    (refine TG.v0 (v := ?v132) (by simp only [zK]; rfl) rfl (by rfl) (fun w1 => ?y132) ?n132; (case y132 => go_simp; try with_reducible rfl); try simp only [Act.put, zL])
    (refine TG.v0 (v := ?v133) (by simp only [zK]; rfl) rfl (by rfl) (fun w1 => ?y133) ?n133; (case y133 => go_simp; try with_reducible rfl); try simp only [Act.put, zL])
    (refine TG.v0 (v := ?v134) (by simp only [zK]; rfl) rfl (by rfl) (fun w1 => ?y134) ?n134; (case y134 => go_simp; try with_reducible rfl); try simp only [Act.put, zL])
    (refine TG.load (v := ?v135) (p := ?p135) (by simp only [zK]; rfl) rfl (by rfl) rfl ?hx135 (fun wq hSq => ?y135) ?n135; (case hx135 => simp only [Act.eval, zM]; try rfl); (case y135 => (have kr7q := hSq.at kr7 (by intro hT; first | exact hT | exact absurd hT (by assumption) | omega | (simp only at hT; omega)); have kp7q := hSq.at kp7 (by intro hT; first | exact hT | exact absurd hT (by assumption) | omega | (simp only at hT; omega)); go_simp; (try with_reducible rfl))); try simp only [Act.put, zL])
    (refine TG.v0 (v := ?v136) (by simp only [zK]; rfl) rfl (by rfl) (fun w1 => ?y136) ?n136; (case y136 => go_simp; try with_reducible rfl); try simp only [Act.put, zL])
    (refine TG.load (v := ?v137) (p := ?p137) (by simp only [zK]; rfl) rfl (by rfl) rfl ?hx137 (fun wq hSq => ?y137) ?n137; (case hx137 => simp only [Act.eval, zM]; try rfl); (case y137 => (have kr7q := hSq.at kr7 (by intro hT; first | exact hT | exact absurd hT (by assumption) | omega | (simp only at hT; omega)); have kp7q := hSq.at kp7 (by intro hT; first | exact hT | exact absurd hT (by assumption) | omega | (simp only at hT; omega)); go_simp; (try with_reducible rfl))); try simp only [Act.put, zL])
    (refine TG.slice (by simp only [zK]; rfl) rfl (by rfl) rfl ?hs138 ?hl138 ?hh138 ?hm138 hq2 ?n138; (case hs138 => simp only [Act.eval, zM]; try rfl); (case hl138 => first | rfl | (simp only [Option.map_some, Act.eval, zM]; (try rfl))); (case hh138 => first | rfl | (simp only [Option.map_some, Act.eval, zM]; (try rfl))); (case hm138 => rfl); try simp only [Act.put, zL])
    (refine TG.appK (X := ?X139) (Y := ?Y139) (OwnD wa.heap.size (L.take k ++ [(⟨k, num, prio, 0, false⟩ : Dq)] ++ L.drop k)) (goodOwnD wa.heap.size (L.take k ++ [(⟨k, num, prio, 0, false⟩ : Dq)] ++ L.drop k)) (by simp only [zK]; rfl) rfl (by rfl) rfl ?hx139 ?hz139 (fun T wq kq ltq hSq ub => ?y139) ?n139; (case hx139 => simp only [Act.eval, zM]; try rfl); (case hz139 => simp only [Act.eval, zM]; try rfl); (case y139 => (have kr7q := hSq.at kr7 (by intro hT; first | exact hT | exact absurd hT (by assumption) | omega | (simp only at hT; omega)); have kp7q := hSq.at kp7 (by intro hT; first | exact hT | exact absurd hT (by assumption) | omega | (simp only at hT; omega)); have hh := app_ownD (c := ct2) kq (HS7.out.mod hSq (fun b o e h => HF7.out b (HRQ.out.2.2.2.2 b (HS.out.2.2.2.2 b o e)) h)) (by rw [HO7.out.2.1, HO7.out.2.2, HS.out.2.2.2.1]; omega) (Nat.le_trans sw7 hSq.size); rw [HS.out.2.2.2.1] at hh; exact hh)); rintro v139 ⟨wI, TI, hI⟩; replace gK := (goodOwnD wa.heap.size (L.take k ++ [(⟨k, num, prio, 0, false⟩ : Dq)] ++ L.drop k)) v139; skip; (try clear hI TI wI); try simp only [Act.put, zL])
    (refine TG.v0 (v := ?v140) (by simp only [zK]; rfl) rfl (by rfl) (fun w1 => ?y140) ?n140; (case y140 => go_simp; try with_reducible rfl); try simp only [Act.put, zL])
    (refine TG.v0 (v := ?v141) (by simp only [zK]; rfl) rfl (by rfl) (fun w1 => ?y141) ?n141; (case y141 => go_simp; try with_reducible rfl); try simp only [Act.put, zL])
    refine TG.nil (fun w16 ⟨TR, hr⟩ => ?_)
    have kr7 := hr.mod.at kr7 (by intro hT; first | exact hT | exact absurd hT (by assumption) | omega | (simp only at hT; omega))
    have kp7 := hr.mod.at kp7 (by intro hT; first | exact hT | exact absurd hT (by assumption) | omega | (simp only at hT; omega))
    clear gK
    have hO9 := hr.k.1
    have HM8 : Hid (Mod (fun i => i = p10) wa w16) := Lib.hid (HM7.out.then hr.mod (fun i hi e => (HF7.out i hi e).elim))
    obtain ⟨a9, c9, hv9, _⟩ := hO9.at dqT
    obtain ⟨n9, hn9⟩ : ∃ n9, (L.take k ++ [(⟨k, num, prio, 0, false⟩ : Dq)] ++ L.drop k).length = n9 := ⟨_, rfl⟩
    rw [hn9] at hv9
    have HO9 := Lib.hid (And.intro hO9 hO9.lt)
    subst hv9
    clear hr hO9 hn9 hq2 nr7 np7
    refine TE.step (by simp only [zK]; rfl) rfl ?_
    (refine eff_store (X := ?X142) (Y := ?Y142) (w' := ?w142) (by simp only [zK]; rfl) (by rfl) rfl ?hx142 ?hz142 ?y142 ?n142; (case hx142 => simp only [Act.eval, zM]; try rfl); (case hz142 => simp only [Act.eval, zM]; try rfl); (case y142 => go_simp; try with_reducible rfl))
    (first | refine TE.nil_set kr7 (fun wn kr7 mS => ?_) | refine TE.nil_setCell kr7 (fun wn kr7 mS => ?_))
    (try simp only [Array.setIfInBounds, zL] at kr7)
    (try simp only [Act.put, zL])
    replace kr7 : wn.heap[r]? = some (.cells #[.int .i64 (n : Int), .slice a9 n9 c9] 69 (0, 0)) := kr7
    replace kp7 := mS.at_ne kp7 (Ne.symm hrp)
    have HM9 : Hid (Mod (fun i => i = p10 ∨ i = r) wa wn) := Lib.hid ((HM8.out.mono (fun _ _ e => .inl e)).trans (mS.mono (fun _ _ e => .inr e)))
    have HO10 := Lib.hid (HO9.out.1.mod mS (fun g hg e => by have := (HO9.out.2 g hg).1; omega))
    have HFIN : Hid (QT r n (docL 0 ((S).set k (some x))) T w wn) := Lib.hid (by
     have hsz := HM9.out.size
     have hsw := HMT.out.size
     have hlt9 := HO10.out.lt
     have hid : docL 0 ((S).set k (some x)) = L.take k ++ [(⟨k, num, prio, 0, false⟩ : Dq)] ++ L.drop k := by
      rw [docL_ins HFR.out.1, HX.out, ← HFR.out.2.1]
      simp
     rw [hid]
     exact ⟨fun j => T j ∨ (wa.heap.size ≤ j ∧ j < wn.heap.size), ⟨_, kr7, HO10.out.low (Nat.zero_le _), .inl HRQ.out.2.2.1, fun g hg => .inr (hlt9 g hg)⟩, HMT.out.then HM9.out (fun i hi e => e.elim (fun h => by have := HPG.out; omega) (fun h => h ▸ HTR.out)), fun j hj => hj.elim (HT1.out j) (fun h => .inr (Nat.le_trans hsw h.1)), fun j hj => hj.elim (fun h => Nat.lt_of_lt_of_le (HRQ.out.2.2.2.2 j h) hsz) (fun h => h.2)⟩)
    clear mS kr7 HO9 HO7 HS7
    go_wp2_with fail
    exact bodyPost_ret (results_tmp3 rfl _ _ _) rfl ⟨rfl,HFIN.out⟩
set_option maxHeartbeats 3200000 in
theorem qaddN_c (h : RQ r n (docL 0 S) T w) (hT : ∀ i, T i → i < w.heap.size) (hS : S.length ≤ 4096) (hfull : n ≤ (docL 0 S).length) (hD : wtg 0 S = []) (num prio : UInt64) :
  Calls Tryz.prog 20 #[ptrV r, u64v num, u64v prio] w fun e w' => e = .returned (.tuple #[.int .i64 0, .slice none 0 0, .int .i64 3]) ∧ Mod (fun _ => False) w w' := by
 have HD := Lib.hid hD
 clear hD
 obtain ⟨L, hL⟩ : ∃ L, L = docL 0 S := ⟨_, rfl⟩
 have H0 := Lib.hid h
 rw [← hL] at h
 obtain ⟨v, kr, hO, hTr, hTv⟩ := h
 obtain ⟨aL, cL, rfl, _⟩ := hO.at dqT
 obtain ⟨nL, hnL⟩ : ∃ nL, L.length = nL := ⟨_, rfl⟩
 have hn : n ≤ nL := by rw [← hnL, hL]; exact hfull
 rw [hnL] at kr hO hTv
 have hd := decide_eq_true (show (n : Int) ≤ (nL : Int) by omega)
 have hdN := decide_eq_true hn
 have hb := bldDq num prio
 have H := Lib.hid (And.intro hO (And.intro hnL (And.intro hTr (And.intro hTv hT))))
 have HL := Lib.hid (And.intro hL hS)
 clear hO hnL hTr hTv hT hL hS hn hfull
 go_enter Tryz.func20, Tryz.ntmps20
 go_upto_region 2 with fail
 have Lkr := lt_size kr
 refine wp_pass0 (C := fun _ _ _ => False) (κ := fun i => [0, 0, 0, 3, 4].getD i 0) [0, 1, 2, 3, 4] (by kernel_rfl) (by kernel_rfl) (fun _ _ d _ _ h => by cases d <;> first | exact h | exact absurd h (hP _ _ _)) ?_
 (refine TD.val0 (v := ?v143) (by simp only [zK]; rfl) rfl (by rfl) (fun w1 => ?y143) ?n143; (case y143 => go_simp; try with_reducible rfl); try simp only [Act.put, zL])
 (refine TD.val0 (v := ?v144) (by simp only [zK]; rfl) rfl (by rfl) (fun w1 => ?y144) ?n144; (case y144 => go_simp; try with_reducible rfl); try simp only [Act.put, zL])
 (refine TD.build (v := ?v145) (ps := ?p145) (by simp only [zK]; rfl) rfl (by rfl) rfl ?hx145 (fun w1 => ?y145) ?n145; (case hx145 => (simp only [List.map_toArray, List.map_cons, List.map_nil, Act.eval, zM]; (try rfl))); (case y145 => (rw [hb]; (try with_reducible rfl))); try simp only [Act.put, zL])
 (refine TD.allocB (by simp only [zK]; rfl) rfl (by rfl) rfl rfl alDq (fun p10 hp10 => ?n146); try simp only [Act.put, zL])
 (refine TD.storeB (d := ?d147) (T := ?T147) (y := ?y147) (p := ?p147) (b := ?b147) (v := ?v147) (by simp only [zK]; rfl) rfl (by rfl) ?hd147 ?hop147 ?hev147 ?hx147 ?hb147 ?htag147 (fun w1 hb1 => ?hy147) ?hn147; (case hd147 => rfl); (case hop147 => rfl); (case hev147 => (simp only [Act.eval, zM]; (try rfl))); (case hx147 => simp only [Act.eval, zM]; try rfl); (case hb147 => first | exact Bx.set_same _ _ _ | (simp only [Bx.set_same]; rfl)); (case hy147 => (go_simp; (try first | with_reducible rfl | (rw [setCell_blk hb1]; rfl)))); try simp only [Act.put, zL])
 refine TD.nil (fun w2 hr => ?_)
 have kr := hr.mod.at kr (fun h => h)
 have kp10 := hr.box p10 _ (by first | exact Bx.set_same _ _ _ | (simp only [Bx.set_same]; rfl)); dsimp only [Value.cells] at kp10; obtain ⟨gp10, kp10⟩ := kp10
 have m2 := hr.mod
 have HP10 : Hid (¬ T p10) := Lib.hid (fun e => by have := H.out.2.2.2.2 _ e; omega)
 clear hr hb
 go_upto_region 3 with fail
 have Lkr := lt_size kr
 have Lkp10 := lt_size kp10
 refine wp_pass (C := fun _ _ _ => False) (κ := fun i => [0, 0, 0, 1, 0, 0, 0, 0, 1, 0].getD i 0) [0, 1, 2, 3, 4, 5, 6, 7, 8, 9] (by kernel_rfl) (by kernel_rfl) (fun _ _ d _ _ h => by cases d <;> first | exact h | exact absurd h (hP _ _ _)) ?_
 (refine TD.val0 (v := ?v148) (by simp only [zK]; rfl) rfl (by rfl) (fun w1 => ?y148) ?n148; (case y148 => go_simp; try with_reducible rfl); try simp only [Act.put, zL])
 (refine TD.val0 (v := ?v149) (by simp only [zK]; rfl) rfl (by rfl) (fun w1 => ?y149) ?n149; (case y149 => go_simp; try with_reducible rfl); try simp only [Act.put, zL])
 (refine TD.val0 (v := ?v150) (by simp only [zK]; rfl) rfl (by rfl) (fun w1 => ?y150) ?n150; (case y150 => go_simp; try with_reducible rfl); try simp only [Act.put, zL])
 (refine TD.load (v := ?v151) (p := ?p151) (Mod.refl _ _) (by simp only [zK]; rfl) rfl (by rfl) rfl ?hx151 (fun wq hSq => ?y151) ?n151; (case hx151 => simp only [Act.eval, zM]; try rfl); (case y151 => (have krq := hSq.at kr (fun h => h); have kp10q := hSq.at kp10 (fun h => h); go_simp; (try with_reducible rfl))); try simp only [Act.put, zL])
 (refine TD.val0 (v := ?v152) (by simp only [zK]; rfl) rfl (by rfl) (fun w1 => ?y152) ?n152; (case y152 => go_simp; try with_reducible rfl); try simp only [Act.put, zL])
 (refine TD.val0 (v := ?v153) (by simp only [zK]; rfl) rfl (by rfl) (fun w1 => ?y153) ?n153; (case y153 => go_simp; try with_reducible rfl); try simp only [Act.put, zL])
 (refine TD.val0 (v := ?v154) (by simp only [zK]; rfl) rfl (by rfl) (fun w1 => ?y154) ?n154; (case y154 => go_simp; try with_reducible rfl); try simp only [Act.put, zL])
 (refine TD.val0 (v := ?v155) (by simp only [zK]; rfl) rfl (by rfl) (fun w1 => ?y155) ?n155; (case y155 => go_simp; try with_reducible rfl); try simp only [Act.put, zL])
 (refine TD.load (v := ?v156) (p := ?p156) (Mod.refl _ _) (by simp only [zK]; rfl) rfl (by rfl) rfl ?hx156 (fun wq hSq => ?y156) ?n156; (case hx156 => simp only [Act.eval, zM]; try rfl); (case y156 => (have krq := hSq.at kr (fun h => h); have kp10q := hSq.at kp10 (fun h => h); go_simp; (try with_reducible rfl))); try simp only [Act.put, zL])
 (refine TD.val0 (v := ?v157) (by simp only [zK]; rfl) rfl (by rfl) (fun w1 => ?y157) ?n157; (case y157 => go_simp; try with_reducible rfl); try simp only [Act.put, zL])
 refine TD.nil (fun w3 hr => ?_)
 have kr := hr.mod.at kr (fun h => h)
 have kp10 := hr.mod.at kp10 (fun h => h)
 have m3 := m2.then0 hr.mod
 clear hr m2 hd hdN
 go_wp2_with fail
 go_at_call 53
 refine (qendN (H0.out.mod0 m3) true HL.out.2 HD.out).mono ?_
 rintro e w4 ⟨rfl, m4⟩
 go_wp2_with fail
 exact bodyPost_ret (results_tmp3 rfl _ _ _) rfl ⟨rfl, m3.then0 m4⟩
set_option maxRecDepth 20000 in
set_option maxHeartbeats 3200000 in
theorem qaddL_c (h : RQ r n (docL 0 S) T w) (hT : ∀ i, T i → i < w.heap.size) (hS : S.length ≤ 4096) (hfull : n ≤ (docL 0 S).length) {D : List Nd} (hD : D.Perm (wtg 0 S)) (hSr : Srt D) {f : Nat} {x' : It} (hx' : S[f]? = some (some x')) (hl : D.getLast? = some ⟨x'.rk, idn f⟩) (num prio : UInt64) (hA : Ahead ⟨prio, num⟩ x'.rk = false) :
  Calls Tryz.prog 20 #[ptrV r, u64v num, u64v prio] w fun e w' => e = .returned (.tuple #[.int .i64 0, .slice none 0 0, .int .i64 3]) ∧ Mod (fun _ => False) w w' := by
 have HA := Lib.hid hA
 clear hA
 have HD := Lib.hid (And.intro hD (And.intro hSr (And.intro hx' (And.intro hl (docL_at hx')))))
 clear hD hSr hx' hl
 obtain ⟨q, hq⟩ : ∃ q, posD S f = q := ⟨_, rfl⟩
 have HQ := Lib.hid hq
 clear hq
 obtain ⟨L, hL⟩ : ∃ L, L = docL 0 S := ⟨_, rfl⟩
 have H0 := Lib.hid h
 rw [← hL] at h
 obtain ⟨v, kr, hO, hTr, hTv⟩ := h
 obtain ⟨aL, cL, rfl, _⟩ := hO.at dqT
 obtain ⟨nL, hnL⟩ : ∃ nL, L.length = nL := ⟨_, rfl⟩
 have hn : n ≤ nL := by rw [← hnL, hL]; exact hfull
 rw [hnL] at kr hO hTv
 have hd := decide_eq_true (show (n : Int) ≤ (nL : Int) by omega)
 have hdN := decide_eq_true hn
 have hb := bldDq num prio
 have H := Lib.hid (And.intro hO (And.intro hnL (And.intro hTr (And.intro hTv hT))))
 have HL := Lib.hid (And.intro hL hS)
 clear hO hnL hTr hTv hT hL hS hn hfull
 go_enter Tryz.func20, Tryz.ntmps20
 go_upto_region 2 with fail
 have Lkr := lt_size kr
 refine wp_pass0 (C := fun _ _ _ => False) (κ := fun i => [0, 0, 0, 3, 4].getD i 0) [0, 1, 2, 3, 4] (by kernel_rfl) (by kernel_rfl) (fun _ _ d _ _ h => by cases d <;> first | exact h | exact absurd h (hP _ _ _)) ?_
 (refine TD.val0 (v := ?v158) (by simp only [zK]; rfl) rfl (by rfl) (fun w1 => ?y158) ?n158; (case y158 => go_simp; try with_reducible rfl); try simp only [Act.put, zL])
 (refine TD.val0 (v := ?v159) (by simp only [zK]; rfl) rfl (by rfl) (fun w1 => ?y159) ?n159; (case y159 => go_simp; try with_reducible rfl); try simp only [Act.put, zL])
 (refine TD.build (v := ?v160) (ps := ?p160) (by simp only [zK]; rfl) rfl (by rfl) rfl ?hx160 (fun w1 => ?y160) ?n160; (case hx160 => (simp only [List.map_toArray, List.map_cons, List.map_nil, Act.eval, zM]; (try rfl))); (case y160 => (rw [hb]; (try with_reducible rfl))); try simp only [Act.put, zL])
 (refine TD.allocB (by simp only [zK]; rfl) rfl (by rfl) rfl rfl alDq (fun p10 hp10 => ?n161); try simp only [Act.put, zL])
 (refine TD.storeB (d := ?d162) (T := ?T162) (y := ?y162) (p := ?p162) (b := ?b162) (v := ?v162) (by simp only [zK]; rfl) rfl (by rfl) ?hd162 ?hop162 ?hev162 ?hx162 ?hb162 ?htag162 (fun w1 hb1 => ?hy162) ?hn162; (case hd162 => rfl); (case hop162 => rfl); (case hev162 => (simp only [Act.eval, zM]; (try rfl))); (case hx162 => simp only [Act.eval, zM]; try rfl); (case hb162 => first | exact Bx.set_same _ _ _ | (simp only [Bx.set_same]; rfl)); (case hy162 => (go_simp; (try first | with_reducible rfl | (rw [setCell_blk hb1]; rfl)))); try simp only [Act.put, zL])
 refine TD.nil (fun w2 hr => ?_)
 have kr := hr.mod.at kr (fun h => h)
 have kp10 := hr.box p10 _ (by first | exact Bx.set_same _ _ _ | (simp only [Bx.set_same]; rfl)); dsimp only [Value.cells] at kp10; obtain ⟨gp10, kp10⟩ := kp10
 have m2 := hr.mod
 have HP10 : Hid (¬ T p10) := Lib.hid (fun e => by have := H.out.2.2.2.2 _ e; omega)
 clear hr hb
 go_upto_region 3 with fail
 have Lkr := lt_size kr
 have Lkp10 := lt_size kp10
 refine wp_pass (C := fun _ _ _ => False) (κ := fun i => [0, 0, 0, 1, 0, 0, 0, 0, 1, 0].getD i 0) [0, 1, 2, 3, 4, 5, 6, 7, 8, 9] (by kernel_rfl) (by kernel_rfl) (fun _ _ d _ _ h => by cases d <;> first | exact h | exact absurd h (hP _ _ _)) ?_
 (refine TD.val0 (v := ?v163) (by simp only [zK]; rfl) rfl (by rfl) (fun w1 => ?y163) ?n163; (case y163 => go_simp; try with_reducible rfl); try simp only [Act.put, zL])
 (refine TD.val0 (v := ?v164) (by simp only [zK]; rfl) rfl (by rfl) (fun w1 => ?y164) ?n164; (case y164 => go_simp; try with_reducible rfl); try simp only [Act.put, zL])
 (refine TD.val0 (v := ?v165) (by simp only [zK]; rfl) rfl (by rfl) (fun w1 => ?y165) ?n165; (case y165 => go_simp; try with_reducible rfl); try simp only [Act.put, zL])
 (refine TD.load (v := ?v166) (p := ?p166) (Mod.refl _ _) (by simp only [zK]; rfl) rfl (by rfl) rfl ?hx166 (fun wq hSq => ?y166) ?n166; (case hx166 => simp only [Act.eval, zM]; try rfl); (case y166 => (have krq := hSq.at kr (fun h => h); have kp10q := hSq.at kp10 (fun h => h); go_simp; (try with_reducible rfl))); try simp only [Act.put, zL])
 (refine TD.val0 (v := ?v167) (by simp only [zK]; rfl) rfl (by rfl) (fun w1 => ?y167) ?n167; (case y167 => go_simp; try with_reducible rfl); try simp only [Act.put, zL])
 (refine TD.val0 (v := ?v168) (by simp only [zK]; rfl) rfl (by rfl) (fun w1 => ?y168) ?n168; (case y168 => go_simp; try with_reducible rfl); try simp only [Act.put, zL])
 (refine TD.val0 (v := ?v169) (by simp only [zK]; rfl) rfl (by rfl) (fun w1 => ?y169) ?n169; (case y169 => go_simp; try with_reducible rfl); try simp only [Act.put, zL])
 (refine TD.val0 (v := ?v170) (by simp only [zK]; rfl) rfl (by rfl) (fun w1 => ?y170) ?n170; (case y170 => go_simp; try with_reducible rfl); try simp only [Act.put, zL])
 (refine TD.load (v := ?v171) (p := ?p171) (Mod.refl _ _) (by simp only [zK]; rfl) rfl (by rfl) rfl ?hx171 (fun wq hSq => ?y171) ?n171; (case hx171 => simp only [Act.eval, zM]; try rfl); (case y171 => (have krq := hSq.at kr (fun h => h); have kp10q := hSq.at kp10 (fun h => h); go_simp; (try with_reducible rfl))); try simp only [Act.put, zL])
 (refine TD.val0 (v := ?v172) (by simp only [zK]; rfl) rfl (by rfl) (fun w1 => ?y172) ?n172; (case y172 => go_simp; try with_reducible rfl); try simp only [Act.put, zL])
 refine TD.nil (fun w3 hr => ?_)
 have kr := hr.mod.at kr (fun h => h)
 have kp10 := hr.mod.at kp10 (fun h => h)
 have m3 := m2.then0 hr.mod
 clear hr m2 hd hdN
 have hb1 : ∀ w, (Instr.build 109 #[(0, u64v x'.r.prio), (1, u64v x'.n)]).run Tryz.prog w = .ok (.agg (rkc x'.rk)) w := fun w => by kernel_rfl
 have hb2 : ∀ w, (Instr.build 109 #[(0, u64v prio), (1, u64v num)]).run Tryz.prog w = .ok (.agg (rkc ⟨prio, num⟩)) w := fun w => by kernel_rfl
 go_wp2_with fail
 go_at_call 53
 refine (qendY (H0.out.mod0 m3) true HL.out.2 HD.out.1 HD.out.2.1 HD.out.2.2.1 HD.out.2.2.2.1).mono ?_
 rintro e w4 ⟨rfl, m4⟩
 rw [HQ.out]
 have m34 := m3.then0 m4
 replace kr := m4.at0 kr
 replace kp10 := m4.at0 kp10
 have hq0 : L[q]? = some (dOf f x') := by rw [HL.out.1, ← HQ.out]; exact HD.out.2.2.2.2
 have hqn : q < nL := by rw [← H.out.2.1]; exact (List.getElem?_eq_some_iff.1 hq0).1
 obtain ⟨g, cap, C, hv9, _, kl, he, hle⟩ := (H.out.1.mod0 m34).row1 dqT hq0
 rw [H.out.2.1] at hv9
 injection hv9 with q1 _ q3
 subst q1
 subst q3
 obtain ⟨_, e1, e2, _, _⟩ := dq_part he
 have hneg : ¬ ((q : Int) < 0) := by omega
 replace e1 : C[q * 5 + 1]? = some (u64v x'.n) := e1
 replace e2 : C[q * 5 + 2]? = some (u64v x'.r.prio) := e2
 have HLP := Lib.hid (lt_size kp10)
 clear he hq0 m3 m4
 go_upto_region 7 with fail
 have Lkr := lt_size kr
 have Lkl := lt_size kl
 have Lkp10 := lt_size kp10
 refine wp_pass (C := fun _ _ _ => False) (κ := fun i => [0, 0, 0, 1, 0, 0, 0, 1, 0, 0, 0, 1, 0, 0, 0, 1, 0, 3, 4].getD i 0) [0, 1, 2, 3, 4, 5, 6, 7, 8, 9, 10, 11, 12, 13, 14, 15, 16, 17, 18] (by kernel_rfl) (by kernel_rfl) (fun _ _ d _ _ h => by cases d <;> first | exact h | exact absurd h (hP _ _ _)) ?_
 (refine TD.val0 (v := ?v173) (by simp only [zK]; rfl) rfl (by rfl) (fun w1 => ?y173) ?n173; (case y173 => go_simp; try with_reducible rfl); try simp only [Act.put, zL])
 (refine TD.val0 (v := ?v174) (by simp only [zK]; rfl) rfl (by rfl) (fun w1 => ?y174) ?n174; (case y174 => go_simp; try with_reducible rfl); try simp only [Act.put, zL])
 (refine TD.val0 (v := ?v175) (by simp only [zK]; rfl) rfl (by rfl) (fun w1 => ?y175) ?n175; (case y175 => go_simp; try with_reducible rfl); try simp only [Act.put, zL])
 (refine TD.load (v := ?v176) (p := ?p176) (Mod.refl _ _) (by simp only [zK]; rfl) rfl (by rfl) rfl ?hx176 (fun wq hSq => ?y176) ?n176; (case hx176 => simp only [Act.eval, zM]; try rfl); (case y176 => (have krq := hSq.at kr (fun h => h); have klq := hSq.at kl (fun h => h); have kp10q := hSq.at kp10 (fun h => h); go_simp; (try with_reducible rfl))); try simp only [Act.put, zL])
 (refine TD.val0 (v := ?v177) (by simp only [zK]; rfl) rfl (by rfl) (fun w1 => ?y177) ?n177; (case y177 => go_simp; try with_reducible rfl); try simp only [Act.put, zL])
 (refine TD.val0 (v := ?v178) (by simp only [zK]; rfl) rfl (by rfl) (fun w1 => ?y178) ?n178; (case y178 => go_simp; try with_reducible rfl); try simp only [Act.put, zL])
 (refine TD.val0 (v := ?v179) (by simp only [zK]; rfl) rfl (by rfl) (fun w1 => ?y179) ?n179; (case y179 => go_simp; try with_reducible rfl); try simp only [Act.put, zL])
 (refine TD.load (v := ?v180) (p := ?p180) (Mod.refl _ _) (by simp only [zK]; rfl) rfl (by rfl) rfl ?hx180 (fun wq hSq => ?y180) ?n180; (case hx180 => simp only [Act.eval, zM]; try rfl); (case y180 => (have krq := hSq.at kr (fun h => h); have klq := hSq.at kl (fun h => h); have kp10q := hSq.at kp10 (fun h => h); go_simp; (try with_reducible rfl))); try simp only [Act.put, zL])
 (refine TD.val0 (v := ?v181) (by simp only [zK]; rfl) rfl (by rfl) (fun w1 => ?y181) ?n181; (case y181 => go_simp; try with_reducible rfl); try simp only [Act.put, zL])
 (refine TD.val0 (v := ?v182) (by simp only [zK]; rfl) rfl (by rfl) (fun w1 => ?y182) ?n182; (case y182 => go_simp; try with_reducible rfl); try simp only [Act.put, zL])
 (refine TD.val0 (v := ?v183) (by simp only [zK]; rfl) rfl (by rfl) (fun w1 => ?y183) ?n183; (case y183 => go_simp; try with_reducible rfl); try simp only [Act.put, zL])
 (refine TD.load (v := ?v184) (p := ?p184) (Mod.refl _ _) (by simp only [zK]; rfl) rfl (by rfl) rfl ?hx184 (fun wq hSq => ?y184) ?n184; (case hx184 => simp only [Act.eval, zM]; try rfl); (case y184 => (have krq := hSq.at kr (fun h => h); have klq := hSq.at kl (fun h => h); have kp10q := hSq.at kp10 (fun h => h); go_simp; (try with_reducible rfl))); try simp only [Act.put, zL])
 (refine TD.val0 (v := ?v185) (by simp only [zK]; rfl) rfl (by rfl) (fun w1 => ?y185) ?n185; (case y185 => go_simp; try with_reducible rfl); try simp only [Act.put, zL])
 (refine TD.val0 (v := ?v186) (by simp only [zK]; rfl) rfl (by rfl) (fun w1 => ?y186) ?n186; (case y186 => go_simp; try with_reducible rfl); try simp only [Act.put, zL])
 (refine TD.val0 (v := ?v187) (by simp only [zK]; rfl) rfl (by rfl) (fun w1 => ?y187) ?n187; (case y187 => go_simp; try with_reducible rfl); try simp only [Act.put, zL])
 (refine TD.load (v := ?v188) (p := ?p188) (Mod.refl _ _) (by simp only [zK]; rfl) rfl (by rfl) rfl ?hx188 (fun wq hSq => ?y188) ?n188; (case hx188 => simp only [Act.eval, zM]; try rfl); (case y188 => (have krq := hSq.at kr (fun h => h); have klq := hSq.at kl (fun h => h); have kp10q := hSq.at kp10 (fun h => h); go_simp; (try with_reducible rfl))); try simp only [Act.put, zL])
 (refine TD.build (v := ?v189) (ps := ?p189) (by simp only [zK]; rfl) rfl (by rfl) rfl ?hx189 (fun w1 => ?y189) ?n189; (case hx189 => (simp only [List.map_toArray, List.map_cons, List.map_nil, Act.eval, zM]; (try rfl))); (case y189 => (rw [hb1]; (try with_reducible rfl))); try simp only [Act.put, zL])
 (refine TD.allocB (by simp only [zK]; rfl) rfl (by rfl) rfl rfl alRk (fun p12 hp12 => ?n190); try simp only [Act.put, zL])
 (refine TD.storeB (d := ?d191) (T := ?T191) (y := ?y191) (p := ?p191) (b := ?b191) (v := ?v191) (by simp only [zK]; rfl) rfl (by rfl) ?hd191 ?hop191 ?hev191 ?hx191 ?hb191 ?htag191 (fun w1 hb1 => ?hy191) ?hn191; (case hd191 => rfl); (case hop191 => rfl); (case hev191 => (simp only [Act.eval, zM]; (try rfl))); (case hx191 => simp only [Act.eval, zM]; try rfl); (case hb191 => first | exact Bx.set_same _ _ _ | (simp only [Bx.set_same]; rfl)); (case hy191 => (go_simp; (try first | with_reducible rfl | (rw [setCell_blk hb1]; rfl)))); try simp only [Act.put, zL])
 refine TD.nil (fun w7 hr => ?_)
 have kr := hr.mod.at kr (fun h => h)
 have kl := hr.mod.at kl (fun h => h)
 have kp10 := hr.mod.at kp10 (fun h => h)
 have kp12 := hr.box p12 _ (by first | exact Bx.set_same _ _ _ | (simp only [Bx.set_same]; rfl)); dsimp only [Value.cells] at kp12; obtain ⟨gp12, kp12⟩ := kp12
 have m7 := m34.then0 hr.mod
 clear hr hb1
 go_upto_region 8 with fail
 have Lkp12 := lt_size kp12
 refine wp_pass0 (C := fun _ _ v => v = .bool false) (κ := fun i => [0, 0, 0, 1, 2, 0].getD i 0) [0, 1, 2, 3, 4, 5] (by kernel_rfl) (by kernel_rfl) (fun _ _ d _ _ h => by cases d <;> first | exact h | exact absurd h (hP _ _ _)) ?_
 (refine TD.val0 (v := ?v192) (by simp only [zK]; rfl) rfl (by rfl) (fun w1 => ?y192) ?n192; (case y192 => go_simp; try with_reducible rfl); try simp only [Act.put, zL])
 (refine TD.val0 (v := ?v193) (by simp only [zK]; rfl) rfl (by rfl) (fun w1 => ?y193) ?n193; (case y193 => go_simp; try with_reducible rfl); try simp only [Act.put, zL])
 (refine TD.build (v := ?v194) (ps := ?p194) (by simp only [zK]; rfl) rfl (by rfl) rfl ?hx194 (fun w1 => ?y194) ?n194; (case hx194 => (simp only [List.map_toArray, List.map_cons, List.map_nil, Act.eval, zM]; (try rfl))); (case y194 => (rw [hb2]; (try with_reducible rfl))); try simp only [Act.put, zL])
 (refine TD.load (v := ?v195) (p := ?p195) (Mod.refl _ _) (by simp only [zK]; rfl) rfl (by rfl) rfl ?hx195 (fun wq hSq => ?y195) ?n195; (case hx195 => simp only [Act.eval, zM]; try rfl); (case y195 => (have kp12q := hSq.at kp12 (fun h => h); go_simp; (try with_reducible rfl))); try simp only [Act.put, zL])
 (refine TD.call (f := ?f196) (args := ?r196) (Mod.refl _ _) (by simp only [zK]; rfl) rfl (by rfl) (fun w1 => ?y196) ?hsp196 ?n196; (case y196 => (go_simp; (first | with_reducible rfl | (constructor <;> with_reducible rfl)))); (case hsp196 => (intro wq hSq; have kp12q := hSq.at kp12 (fun h => h); exact (rAhead_c ⟨prio, num⟩ x'.rk wq).mono (fun e w' h => ⟨_, h.1, by rw [HA.out], h.2⟩))); rintro _ rfl; try simp only [Act.put, zL])
 (refine TD.val0 (v := ?v197) (by simp only [zK]; rfl) rfl (by rfl) (fun w1 => ?y197) ?n197; (case y197 => go_simp; try with_reducible rfl); try simp only [Act.put, zL])
 refine TD.nil (fun w8 hr => ?_)
 have kp12 := hr.mod.at kp12 (fun h => h)
 have m8 := m7.then0 hr.mod
 clear hr
 go_wp2_with fail
 exact bodyPost_ret (results_tmp3 rfl _ _ _) rfl ⟨rfl, m8⟩
set_option maxRecDepth 20000 in
set_option maxHeartbeats 12800000 in
theorem qaddO_c (h : RQ r n (docL 0 S) T w) (hT : ∀ i, T i → i < w.heap.size) (hS : S.length ≤ 4096) (hfull : n ≤ (docL 0 S).length) (hall : S.countP Option.isSome = S.length) {D : List Nd} (hD : D.Perm (wtg 0 S)) (hSr : Srt D) {f : Nat} {x' : It} (hx' : S[f]? = some (some x')) (hl : D.getLast? = some ⟨x'.rk, idn f⟩) (num prio : UInt64) (hA : Ahead ⟨prio, num⟩ x'.rk = true) {x : It} (hx : dOf f x = ⟨f, num, prio, 0, false⟩) :
  Calls Tryz.prog 20 #[ptrV r, u64v num, u64v prio] w fun e w' => ∃ p, e = .returned (.tuple #[.int .i64 (f : Int), .slice (some ⟨p, 0, none⟩) 1 1, .int .i64 0]) ∧ SlAt nc 1 w' (some ⟨p, 0, none⟩) [x'.n] ∧ QT r n (docL 0 (S.set f (some x))) T w w' := by
 have HA := Lib.hid (And.intro hA hall)
 have HX := Lib.hid hx
 clear hA hx hall
 have HD := Lib.hid (And.intro hD (And.intro hSr (And.intro hx' (And.intro hl (docL_at hx')))))
 clear hD hSr hx' hl
 obtain ⟨q, hq⟩ : ∃ q, posD S f = q := ⟨_, rfl⟩
 have HQ := Lib.hid hq
 clear hq
 obtain ⟨L, hL⟩ : ∃ L, L = docL 0 S := ⟨_, rfl⟩
 have H0 := Lib.hid h
 rw [← hL] at h
 obtain ⟨v, kr, hO, hTr, hTv⟩ := h
 obtain ⟨aL, cL, rfl, _⟩ := hO.at dqT
 obtain ⟨nL, hnL⟩ : ∃ nL, L.length = nL := ⟨_, rfl⟩
 have hn : n ≤ nL := by rw [← hnL, hL]; exact hfull
 rw [hnL] at kr hO hTv
 have hd := decide_eq_true (show (n : Int) ≤ (nL : Int) by omega)
 have hdN := decide_eq_true hn
 have hb := bldDq num prio
 have H := Lib.hid (And.intro hO (And.intro hnL (And.intro hTr (And.intro hTv hT))))
 have HL := Lib.hid (And.intro hL hS)
 clear hO hnL hTr hTv hT hL hS hn hfull
 go_enter Tryz.func20, Tryz.ntmps20
 go_upto_region 2 with fail
 have Lkr := lt_size kr
 refine wp_pass0 (C := fun _ _ _ => False) (κ := fun i => [0, 0, 0, 3, 4].getD i 0) [0, 1, 2, 3, 4] (by kernel_rfl) (by kernel_rfl) (fun _ _ d _ _ h => by cases d <;> first | exact h | exact absurd h (hP _ _ _)) ?_
 (refine TD.val0 (v := ?v198) (by simp only [zK]; rfl) rfl (by rfl) (fun w1 => ?y198) ?n198; (case y198 => go_simp; try with_reducible rfl); try simp only [Act.put, zL])
 (refine TD.val0 (v := ?v199) (by simp only [zK]; rfl) rfl (by rfl) (fun w1 => ?y199) ?n199; (case y199 => go_simp; try with_reducible rfl); try simp only [Act.put, zL])
 (refine TD.build (v := ?v200) (ps := ?p200) (by simp only [zK]; rfl) rfl (by rfl) rfl ?hx200 (fun w1 => ?y200) ?n200; (case hx200 => (simp only [List.map_toArray, List.map_cons, List.map_nil, Act.eval, zM]; (try rfl))); (case y200 => (rw [hb]; (try with_reducible rfl))); try simp only [Act.put, zL])
 (refine TD.allocB (by simp only [zK]; rfl) rfl (by rfl) rfl rfl alDq (fun p10 hp10 => ?n201); try simp only [Act.put, zL])
 (refine TD.storeB (d := ?d202) (T := ?T202) (y := ?y202) (p := ?p202) (b := ?b202) (v := ?v202) (by simp only [zK]; rfl) rfl (by rfl) ?hd202 ?hop202 ?hev202 ?hx202 ?hb202 ?htag202 (fun w1 hb1 => ?hy202) ?hn202; (case hd202 => rfl); (case hop202 => rfl); (case hev202 => (simp only [Act.eval, zM]; (try rfl))); (case hx202 => simp only [Act.eval, zM]; try rfl); (case hb202 => first | exact Bx.set_same _ _ _ | (simp only [Bx.set_same]; rfl)); (case hy202 => (go_simp; (try first | with_reducible rfl | (rw [setCell_blk hb1]; rfl)))); try simp only [Act.put, zL])
 refine TD.nil (fun w2 hr => ?_)
 have kr := hr.mod.at kr (fun h => h)
 have kp10 := hr.box p10 _ (by first | exact Bx.set_same _ _ _ | (simp only [Bx.set_same]; rfl)); dsimp only [Value.cells] at kp10; obtain ⟨gp10, kp10⟩ := kp10
 have m2 := hr.mod
 have HP10 : Hid (¬ T p10) := Lib.hid (fun e => by have := H.out.2.2.2.2 _ e; omega)
 clear hr hb
 go_upto_region 3 with fail
 have Lkr := lt_size kr
 have Lkp10 := lt_size kp10
 refine wp_pass (C := fun _ _ _ => False) (κ := fun i => [0, 0, 0, 1, 0, 0, 0, 0, 1, 0].getD i 0) [0, 1, 2, 3, 4, 5, 6, 7, 8, 9] (by kernel_rfl) (by kernel_rfl) (fun _ _ d _ _ h => by cases d <;> first | exact h | exact absurd h (hP _ _ _)) ?_
 (refine TD.val0 (v := ?v203) (by simp only [zK]; rfl) rfl (by rfl) (fun w1 => ?y203) ?n203; (case y203 => go_simp; try with_reducible rfl); try simp only [Act.put, zL])
 (refine TD.val0 (v := ?v204) (by simp only [zK]; rfl) rfl (by rfl) (fun w1 => ?y204) ?n204; (case y204 => go_simp; try with_reducible rfl); try simp only [Act.put, zL])
 (refine TD.val0 (v := ?v205) (by simp only [zK]; rfl) rfl (by rfl) (fun w1 => ?y205) ?n205; (case y205 => go_simp; try with_reducible rfl); try simp only [Act.put, zL])
 (refine TD.load (v := ?v206) (p := ?p206) (Mod.refl _ _) (by simp only [zK]; rfl) rfl (by rfl) rfl ?hx206 (fun wq hSq => ?y206) ?n206; (case hx206 => simp only [Act.eval, zM]; try rfl); (case y206 => (have krq := hSq.at kr (fun h => h); have kp10q := hSq.at kp10 (fun h => h); go_simp; (try with_reducible rfl))); try simp only [Act.put, zL])
 (refine TD.val0 (v := ?v207) (by simp only [zK]; rfl) rfl (by rfl) (fun w1 => ?y207) ?n207; (case y207 => go_simp; try with_reducible rfl); try simp only [Act.put, zL])
 (refine TD.val0 (v := ?v208) (by simp only [zK]; rfl) rfl (by rfl) (fun w1 => ?y208) ?n208; (case y208 => go_simp; try with_reducible rfl); try simp only [Act.put, zL])
 (refine TD.val0 (v := ?v209) (by simp only [zK]; rfl) rfl (by rfl) (fun w1 => ?y209) ?n209; (case y209 => go_simp; try with_reducible rfl); try simp only [Act.put, zL])
 (refine TD.val0 (v := ?v210) (by simp only [zK]; rfl) rfl (by rfl) (fun w1 => ?y210) ?n210; (case y210 => go_simp; try with_reducible rfl); try simp only [Act.put, zL])
 (refine TD.load (v := ?v211) (p := ?p211) (Mod.refl _ _) (by simp only [zK]; rfl) rfl (by rfl) rfl ?hx211 (fun wq hSq => ?y211) ?n211; (case hx211 => simp only [Act.eval, zM]; try rfl); (case y211 => (have krq := hSq.at kr (fun h => h); have kp10q := hSq.at kp10 (fun h => h); go_simp; (try with_reducible rfl))); try simp only [Act.put, zL])
 (refine TD.val0 (v := ?v212) (by simp only [zK]; rfl) rfl (by rfl) (fun w1 => ?y212) ?n212; (case y212 => go_simp; try with_reducible rfl); try simp only [Act.put, zL])
 refine TD.nil (fun w3 hr => ?_)
 have kr := hr.mod.at kr (fun h => h)
 have kp10 := hr.mod.at kp10 (fun h => h)
 have m3 := m2.then0 hr.mod
 clear hr m2 hd hdN
 have hb1 : ∀ w, (Instr.build 109 #[(0, u64v x'.r.prio), (1, u64v x'.n)]).run Tryz.prog w = .ok (.agg (rkc x'.rk)) w := fun w => by kernel_rfl
 have hb2 : ∀ w, (Instr.build 109 #[(0, u64v prio), (1, u64v num)]).run Tryz.prog w = .ok (.agg (rkc ⟨prio, num⟩)) w := fun w => by kernel_rfl
 go_wp2_with fail
 go_at_call 53
 refine (qendY (H0.out.mod0 m3) true HL.out.2 HD.out.1 HD.out.2.1 HD.out.2.2.1 HD.out.2.2.2.1).mono ?_
 rintro e w4 ⟨rfl, m4⟩
 rw [HQ.out]
 have m34 := m3.then0 m4
 replace kr := m4.at0 kr
 replace kp10 := m4.at0 kp10
 have hq0 : L[q]? = some (dOf f x') := by rw [HL.out.1, ← HQ.out]; exact HD.out.2.2.2.2
 have hqn : q < nL := by rw [← H.out.2.1]; exact (List.getElem?_eq_some_iff.1 hq0).1
 obtain ⟨g, cap, C, hv9, _, kl, he, hle⟩ := (H.out.1.mod0 m34).row1 dqT hq0
 rw [H.out.2.1] at hv9
 injection hv9 with q1 _ q3
 subst q1
 subst q3
 obtain ⟨_, e1, e2, _, _⟩ := dq_part he
 have hneg : ¬ ((q : Int) < 0) := by omega
 replace e1 : C[q * 5 + 1]? = some (u64v x'.n) := e1
 replace e2 : C[q * 5 + 2]? = some (u64v x'.r.prio) := e2
 have HLP := Lib.hid (lt_size kp10)
 clear he hq0 m3 m4
 go_upto_region 7 with fail
 have Lkr := lt_size kr
 have Lkl := lt_size kl
 have Lkp10 := lt_size kp10
 refine wp_pass (C := fun _ _ _ => False) (κ := fun i => [0, 0, 0, 1, 0, 0, 0, 1, 0, 0, 0, 1, 0, 0, 0, 1, 0, 3, 4].getD i 0) [0, 1, 2, 3, 4, 5, 6, 7, 8, 9, 10, 11, 12, 13, 14, 15, 16, 17, 18] (by kernel_rfl) (by kernel_rfl) (fun _ _ d _ _ h => by cases d <;> first | exact h | exact absurd h (hP _ _ _)) ?_
 (refine TD.val0 (v := ?v213) (by simp only [zK]; rfl) rfl (by rfl) (fun w1 => ?y213) ?n213; (case y213 => go_simp; try with_reducible rfl); try simp only [Act.put, zL])
 (refine TD.val0 (v := ?v214) (by simp only [zK]; rfl) rfl (by rfl) (fun w1 => ?y214) ?n214; (case y214 => go_simp; try with_reducible rfl); try simp only [Act.put, zL])
 (refine TD.val0 (v := ?v215) (by simp only [zK]; rfl) rfl (by rfl) (fun w1 => ?y215) ?n215; (case y215 => go_simp; try with_reducible rfl); try simp only [Act.put, zL])
 (refine TD.load (v := ?v216) (p := ?p216) (Mod.refl _ _) (by simp only [zK]; rfl) rfl (by rfl) rfl ?hx216 (fun wq hSq => ?y216) ?n216; (case hx216 => simp only [Act.eval, zM]; try rfl); (case y216 => (have krq := hSq.at kr (fun h => h); have klq := hSq.at kl (fun h => h); have kp10q := hSq.at kp10 (fun h => h); go_simp; (try with_reducible rfl))); try simp only [Act.put, zL])
 (refine TD.val0 (v := ?v217) (by simp only [zK]; rfl) rfl (by rfl) (fun w1 => ?y217) ?n217; (case y217 => go_simp; try with_reducible rfl); try simp only [Act.put, zL])
 (refine TD.val0 (v := ?v218) (by simp only [zK]; rfl) rfl (by rfl) (fun w1 => ?y218) ?n218; (case y218 => go_simp; try with_reducible rfl); try simp only [Act.put, zL])
 (refine TD.val0 (v := ?v219) (by simp only [zK]; rfl) rfl (by rfl) (fun w1 => ?y219) ?n219; (case y219 => go_simp; try with_reducible rfl); try simp only [Act.put, zL])
 (refine TD.load (v := ?v220) (p := ?p220) (Mod.refl _ _) (by simp only [zK]; rfl) rfl (by rfl) rfl ?hx220 (fun wq hSq => ?y220) ?n220; (case hx220 => simp only [Act.eval, zM]; try rfl); (case y220 => (have krq := hSq.at kr (fun h => h); have klq := hSq.at kl (fun h => h); have kp10q := hSq.at kp10 (fun h => h); go_simp; (try with_reducible rfl))); try simp only [Act.put, zL])
 (refine TD.val0 (v := ?v221) (by simp only [zK]; rfl) rfl (by rfl) (fun w1 => ?y221) ?n221; (case y221 => go_simp; try with_reducible rfl); try simp only [Act.put, zL])
 (refine TD.val0 (v := ?v222) (by simp only [zK]; rfl) rfl (by rfl) (fun w1 => ?y222) ?n222; (case y222 => go_simp; try with_reducible rfl); try simp only [Act.put, zL])
 (refine TD.val0 (v := ?v223) (by simp only [zK]; rfl) rfl (by rfl) (fun w1 => ?y223) ?n223; (case y223 => go_simp; try with_reducible rfl); try simp only [Act.put, zL])
 (refine TD.load (v := ?v224) (p := ?p224) (Mod.refl _ _) (by simp only [zK]; rfl) rfl (by rfl) rfl ?hx224 (fun wq hSq => ?y224) ?n224; (case hx224 => simp only [Act.eval, zM]; try rfl); (case y224 => (have krq := hSq.at kr (fun h => h); have klq := hSq.at kl (fun h => h); have kp10q := hSq.at kp10 (fun h => h); go_simp; (try with_reducible rfl))); try simp only [Act.put, zL])
 (refine TD.val0 (v := ?v225) (by simp only [zK]; rfl) rfl (by rfl) (fun w1 => ?y225) ?n225; (case y225 => go_simp; try with_reducible rfl); try simp only [Act.put, zL])
 (refine TD.val0 (v := ?v226) (by simp only [zK]; rfl) rfl (by rfl) (fun w1 => ?y226) ?n226; (case y226 => go_simp; try with_reducible rfl); try simp only [Act.put, zL])
 (refine TD.val0 (v := ?v227) (by simp only [zK]; rfl) rfl (by rfl) (fun w1 => ?y227) ?n227; (case y227 => go_simp; try with_reducible rfl); try simp only [Act.put, zL])
 (refine TD.load (v := ?v228) (p := ?p228) (Mod.refl _ _) (by simp only [zK]; rfl) rfl (by rfl) rfl ?hx228 (fun wq hSq => ?y228) ?n228; (case hx228 => simp only [Act.eval, zM]; try rfl); (case y228 => (have krq := hSq.at kr (fun h => h); have klq := hSq.at kl (fun h => h); have kp10q := hSq.at kp10 (fun h => h); go_simp; (try with_reducible rfl))); try simp only [Act.put, zL])
 (refine TD.build (v := ?v229) (ps := ?p229) (by simp only [zK]; rfl) rfl (by rfl) rfl ?hx229 (fun w1 => ?y229) ?n229; (case hx229 => (simp only [List.map_toArray, List.map_cons, List.map_nil, Act.eval, zM]; (try rfl))); (case y229 => (rw [hb1]; (try with_reducible rfl))); try simp only [Act.put, zL])
 (refine TD.allocB (by simp only [zK]; rfl) rfl (by rfl) rfl rfl alRk (fun p12 hp12 => ?n230); try simp only [Act.put, zL])
 (refine TD.storeB (d := ?d231) (T := ?T231) (y := ?y231) (p := ?p231) (b := ?b231) (v := ?v231) (by simp only [zK]; rfl) rfl (by rfl) ?hd231 ?hop231 ?hev231 ?hx231 ?hb231 ?htag231 (fun w1 hb1 => ?hy231) ?hn231; (case hd231 => rfl); (case hop231 => rfl); (case hev231 => (simp only [Act.eval, zM]; (try rfl))); (case hx231 => simp only [Act.eval, zM]; try rfl); (case hb231 => first | exact Bx.set_same _ _ _ | (simp only [Bx.set_same]; rfl)); (case hy231 => (go_simp; (try first | with_reducible rfl | (rw [setCell_blk hb1]; rfl)))); try simp only [Act.put, zL])
 refine TD.nil (fun w7 hr => ?_)
 have kr := hr.mod.at kr (fun h => h)
 have kl := hr.mod.at kl (fun h => h)
 have kp10 := hr.mod.at kp10 (fun h => h)
 have kp12 := hr.box p12 _ (by first | exact Bx.set_same _ _ _ | (simp only [Bx.set_same]; rfl)); dsimp only [Value.cells] at kp12; obtain ⟨gp12, kp12⟩ := kp12
 have m7 := m34.then0 hr.mod
 clear hr hb1
 go_upto_region 8 with fail
 have Lkr := lt_size kr
 have Lkl := lt_size kl
 have Lkp10 := lt_size kp10
 have Lkp12 := lt_size kp12
 refine wp_pass0 (C := fun _ _ v => v = .bool true) (κ := fun i => [0, 0, 0, 1, 2, 0].getD i 0) [0, 1, 2, 3, 4, 5] (by kernel_rfl) (by kernel_rfl) (fun _ _ d _ _ h => by cases d <;> first | exact h | exact absurd h (hP _ _ _)) ?_
 (refine TD.val0 (v := ?v232) (by simp only [zK]; rfl) rfl (by rfl) (fun w1 => ?y232) ?n232; (case y232 => go_simp; try with_reducible rfl); try simp only [Act.put, zL])
 (refine TD.val0 (v := ?v233) (by simp only [zK]; rfl) rfl (by rfl) (fun w1 => ?y233) ?n233; (case y233 => go_simp; try with_reducible rfl); try simp only [Act.put, zL])
 (refine TD.build (v := ?v234) (ps := ?p234) (by simp only [zK]; rfl) rfl (by rfl) rfl ?hx234 (fun w1 => ?y234) ?n234; (case hx234 => (simp only [List.map_toArray, List.map_cons, List.map_nil, Act.eval, zM]; (try rfl))); (case y234 => (rw [hb2]; (try with_reducible rfl))); try simp only [Act.put, zL])
 (refine TD.load (v := ?v235) (p := ?p235) (Mod.refl _ _) (by simp only [zK]; rfl) rfl (by rfl) rfl ?hx235 (fun wq hSq => ?y235) ?n235; (case hx235 => simp only [Act.eval, zM]; try rfl); (case y235 => (have krq := hSq.at kr (fun h => h); have klq := hSq.at kl (fun h => h); have kp10q := hSq.at kp10 (fun h => h); have kp12q := hSq.at kp12 (fun h => h); go_simp; (try with_reducible rfl))); try simp only [Act.put, zL])
 (refine TD.call (f := ?f236) (args := ?r236) (Mod.refl _ _) (by simp only [zK]; rfl) rfl (by rfl) (fun w1 => ?y236) ?hsp236 ?n236; (case y236 => (go_simp; (first | with_reducible rfl | (constructor <;> with_reducible rfl)))); (case hsp236 => (intro wq hSq; have krq := hSq.at kr (fun h => h); have klq := hSq.at kl (fun h => h); have kp10q := hSq.at kp10 (fun h => h); have kp12q := hSq.at kp12 (fun h => h); exact (rAhead_c ⟨prio, num⟩ x'.rk wq).mono (fun e w' h => ⟨_, h.1, by rw [HA.out.1], h.2⟩))); rintro _ rfl; try simp only [Act.put, zL])
 (refine TD.val0 (v := ?v237) (by simp only [zK]; rfl) rfl (by rfl) (fun w1 => ?y237) ?n237; (case y237 => go_simp; try with_reducible rfl); try simp only [Act.put, zL])
 refine TD.nil (fun w8 hr => ?_)
 have kr := hr.mod.at kr (fun h => h)
 have kl := hr.mod.at kl (fun h => h)
 have kp10 := hr.mod.at kp10 (fun h => h)
 have kp12 := hr.mod.at kp12 (fun h => h)
 have m8 := m7.then0 hr.mod
 have hbu := bsU64 x'.n
 clear hr m7 hb2
 go_upto_region 10 with fail
 have Lkr := lt_size kr
 have Lkp10 := lt_size kp10
 have Lkl := lt_size kl
 refine wp_pass0 (C := fun _ _ _ => False) (κ := fun i => [0, 0, 0, 1, 0, 0, 0, 1, 3, 0].getD i 0) [0, 1, 2, 3, 4, 5, 6, 7, 8, 9] (by kernel_rfl) (by kernel_rfl) (fun _ _ d _ _ h => by cases d <;> first | exact h | exact absurd h (hP _ _ _)) ?_
 (refine TD.val0 (v := ?v238) (by simp only [zK]; rfl) rfl (by rfl) (fun w1 => ?y238) ?n238; (case y238 => go_simp; try with_reducible rfl); try simp only [Act.put, zL])
 (refine TD.val0 (v := ?v239) (by simp only [zK]; rfl) rfl (by rfl) (fun w1 => ?y239) ?n239; (case y239 => go_simp; try with_reducible rfl); try simp only [Act.put, zL])
 (refine TD.val0 (v := ?v240) (by simp only [zK]; rfl) rfl (by rfl) (fun w1 => ?y240) ?n240; (case y240 => go_simp; try with_reducible rfl); try simp only [Act.put, zL])
 (refine TD.load (v := ?v241) (p := ?p241) (Mod.refl _ _) (by simp only [zK]; rfl) rfl (by rfl) rfl ?hx241 (fun wq hSq => ?y241) ?n241; (case hx241 => simp only [Act.eval, zM]; try rfl); (case y241 => (have krq := hSq.at kr (fun h => h); have kp10q := hSq.at kp10 (fun h => h); have klq := hSq.at kl (fun h => h); go_simp; (try with_reducible rfl))); try simp only [Act.put, zL])
 (refine TD.val0 (v := ?v242) (by simp only [zK]; rfl) rfl (by rfl) (fun w1 => ?y242) ?n242; (case y242 => go_simp; try with_reducible rfl); try simp only [Act.put, zL])
 (refine TD.val0 (v := ?v243) (by simp only [zK]; rfl) rfl (by rfl) (fun w1 => ?y243) ?n243; (case y243 => go_simp; try with_reducible rfl); try simp only [Act.put, zL])
 (refine TD.val0 (v := ?v244) (by simp only [zK]; rfl) rfl (by rfl) (fun w1 => ?y244) ?n244; (case y244 => go_simp; try with_reducible rfl); try simp only [Act.put, zL])
 (refine TD.load (v := ?v245) (p := ?p245) (Mod.refl _ _) (by simp only [zK]; rfl) rfl (by rfl) rfl ?hx245 (fun wq hSq => ?y245) ?n245; (case hx245 => simp only [Act.eval, zM]; try rfl); (case y245 => (have krq := hSq.at kr (fun h => h); have kp10q := hSq.at kp10 (fun h => h); have klq := hSq.at kl (fun h => h); go_simp; (try with_reducible rfl))); try simp only [Act.put, zL])
 (refine TD.bslice (by simp only [zK]; rfl) rfl (by rfl) rfl rfl ?hx246 hbu (fun p62 hp62 => ?n246); (case hx246 => (simp only [List.map_toArray, List.map_cons, List.map_nil, Act.eval, zM]; (try rfl))); try simp only [Act.put, zL])
 (refine TD.val0 (v := ?v247) (by simp only [zK]; rfl) rfl (by rfl) (fun w1 => ?y247) ?n247; (case y247 => go_simp; try with_reducible rfl); try simp only [Act.put, zL])
 refine TD.nil (fun w10 hr => ?_)
 have kr := hr.mod.at kr (fun h => h)
 have kp10 := hr.mod.at kp10 (fun h => h)
 have kl := hr.mod.at kl (fun h => h)
 have kp62 := hr.box p62 _ (by first | exact Bx.set_same _ _ _ | (simp only [Bx.set_same]; rfl)); dsimp only [Value.cells] at kp62; obtain ⟨gp62, kp62⟩ := kp62
 have m10 := m8.then0 hr.mod
 have HP62 : Hid (w.heap.size ≤ p62 ∧ p10 < p62 ∧ ¬ T p62) := Lib.hid ⟨Nat.le_trans m8.size gp62, by omega, fun e => by have := H.out.2.2.2.2 _ e; have := m8.size; omega⟩
 have HK62 := Lib.hid kp62
 have HL10 := Lib.hid (lt_size kp62)
 clear hr hbu m8 kl e1 e2 hle
 go_wp2_with fail
 go_at_call 55
 refine (qwith_c ((H0.out.mod0 m10)) (fun j hj => Nat.lt_of_lt_of_le (H.out.2.2.2.2 j hj) m10.size) (docL_le HL.out.2) (i := q) (by rw [← HL.out.1, H.out.2.1]; exact hqn)).mono ?_
 rintro e wt ⟨rfl, T1, hR1, hm1, hT1, hlt1⟩
 have hdel : (docL 0 S).take q ++ (docL 0 S).drop (q + 1) = docL 0 (S.set f none) := by rw [docL_del HD.out.2.2.1, HQ.out]
 rw [hdel] at hR1
 have hfS := (List.getElem?_eq_some_iff.1 HD.out.2.2.1).1
 have HFR0 : Hid (FreeS (S.set f none) f ∧ (S.set f none).length ≤ 4096) := Lib.hid ⟨full_free HA.out.2 hfS, by rw [List.length_set]; exact HL.out.2⟩
 have HMT : Hid (Mod T w wt) := Lib.hid ((m10.mono (fun _ _ e => e.elim)).trans hm1)
 have HT1 : Hid (∀ i, T1 i → T i ∨ w.heap.size ≤ i) := Lib.hid (fun i h => (hT1 i h).imp id (fun h => Nat.le_trans m10.size h))
 have HPG := Lib.hid gp10
 have HTR := Lib.hid H.out.2.2.1
 have kp10 := hm1.at kp10 HP10.out
 have HPL := Lib.hid (lt_size kp10)
 have hlp10 : p10 < w10.heap.size := by
  have h1 := HP62.out.2.1
  have h2 := HL10.out
  omega
 have HP10 : Hid (¬ T1 p10) := Lib.hid (fun e => (hT1 p10 e).elim HP10.out (fun h => by omega))
 have hk62 := hm1.at HK62.out HP62.out.2.2
 have hr62 : p62 ≠ r := fun e => by have h1 := HP62.out.2.2; rw [e] at h1; exact h1 H.out.2.2.1
 have HZ62 : Hid (∀ w', Mod (fun i => i = p10 ∨ i = r) wt w' → SlAt nc 1 w' (some ⟨p62, 0, none⟩) [x'.n]) := Lib.hid (fun w' m => SlAt.one (m.at hk62 (fun e => e.elim (fun h => by have := HP62.out.2.1; omega) hr62)) x'.n rfl rfl)
 clear hdel hfS hm1 hT1 hlp10 hk62 hr62 HK62 HL10 HLP kr m10 hqn kp62 gp62
 clear H H0 HL HD HA HQ
 obtain ⟨L, hL⟩ : ∃ L, L = docL 0 (S.set f none) := ⟨_, rfl⟩
 rw [← hL] at hR1
 obtain ⟨v2, kr, hO2, hTr2, hTv2⟩ := hR1
 obtain ⟨aM, cM, rfl, _⟩ := hO2.at dqT
 obtain ⟨nL, hnL⟩ : ∃ nL, L.length = nL := ⟨_, rfl⟩
 rw [hnL] at kr hO2 hTv2
 have HRQ : Hid (SlOwn dqv 5 86 wt 0 (.slice aM nL cM) L ∧ L.length = nL ∧ T1 r ∧ (∀ g, (Value.slice aM nL cM).ownBlock = some g → T1 g) ∧ ∀ i, T1 i → i < wt.heap.size) := Lib.hid ⟨hO2, hnL, hTr2, hTv2, hlt1⟩
 have HFR : Hid (FreeS (S.set f none) f ∧ L = docL 0 (S.set f none) ∧ (S.set f none).length ≤ 4096) := Lib.hid ⟨HFR0.out.1, hL, HFR0.out.2⟩
 clear hO2 hnL hTr2 hTv2 hlt1 hL HFR0
 obtain ⟨wa, hwa⟩ : ∃ wa : World, wa = wt := ⟨_, rfl⟩
 subst hwa
 have hfl : f ≤ nL := by rw [← HRQ.out.2.1, HFR.out.2.1]; exact free_le HFR.out.1
 have hnl : nL ≤ 4096 := by rw [← HRQ.out.2.1, HFR.out.2.1]; exact docL_le HFR.out.2.2
 have HM0 := Lib.hid (Mod.refl (fun i => i = p10) wa)
 have HKR := Lib.hid kr
 have hrp : r ≠ p10 := fun e => by rw [e, kp10] at kr; cases kr
 clear kr
 go_wp2_with fail
 go_loopw [] (fun ws => ∃ k : Nat, k ≤ f ∧ ws.heap[p10]? = some (.cells (dqv ⟨k, num, prio, 0, false⟩) 86 (0, 0)) ∧ Hid (Mod (fun i => i = p10) wa ws)) (fun ws => f - boxI ws p10)
 case atStart => exact ⟨0, by omega, kp10, HM0⟩
 case round =>
  clear kp10
  obtain ⟨k, hk, kp10, HM⟩ := hrel
  have kr := HM.out.at HKR.out (fun e => hrp e)
  by_cases hkf : k < f
  ·obtain ⟨y, hy, hyk⟩ := free_id HFR.out.1 hkf
   rw [← HFR.out.2.1] at hy
   have hknl : k < nL := by omega
   have hlp := HRQ.out.1.mod HM.out (fun g hg e => HP10.out (by have h1 := HRQ.out.2.2.2.1 g hg; have h2 : g = p10 := e; rwa [h2] at h1))
   obtain ⟨a9, c9, hv9, hs9, _⟩ := hlp.at dqT
   rw [HRQ.out.2.1] at hv9
   injection hv9 with q1 _ q3
   subst q1
   subst q3
   obtain ⟨g, oo, C, U, fr, rfl, kl, he, hle⟩ := hs9.block hy
   obtain ⟨e0, _⟩ := dq_part he
   have hne : g ≠ p10 := fun e => HP10.out (by have h1 := HRQ.out.2.2.2.1 g rfl; rwa [e] at h1)
   rw [hyk] at e0
   have HB0 := Lib.hid (boxI_at kp10)
   have hw1 : IntKind.i64.wrap ((k : Int) + 1) = (k : Int) + 1 := by rw [IntKind.wrap_i64]; omega
   clear hy hyk hlp hs9 he
   go_upto_region 12 with fail
   have Lkr := lt_size kr
   have Lkp10 := lt_size kp10
   have Lkl := lt_size kl
   refine wp_pass (C := fun _ _ _ => False) (κ := fun i => [0, 1, 0, 0, 0, 1, 0, 0, 0, 0, 0, 0, 1, 0, 1, 0, 0, 1, 0, 1, 0, 0].getD i 0) [0, 1, 2, 3, 4, 5, 6, 7, 8, 9, 10, 11, 12, 13, 14, 15, 16, 17, 18, 19, 20, 21] (by kernel_rfl) (by kernel_rfl) (fun _ _ d _ _ h => by cases d <;> first | exact h | exact absurd h (hP _ _ _)) ?_
   (refine TD.val0 (v := ?v248) (by simp only [zK]; rfl) rfl (by rfl) (fun w1 => ?y248) ?n248; (case y248 => go_simp; try with_reducible rfl); try simp only [Act.put, zL])
   (refine TD.load (v := ?v249) (p := ?p249) (Mod.refl _ _) (by simp only [zK]; rfl) rfl (by rfl) rfl ?hx249 (fun wq hSq => ?y249) ?n249; (case hx249 => simp only [Act.eval, zM]; try rfl); (case y249 => (have krq := hSq.at kr (fun h => h); have kp10q := hSq.at kp10 (fun h => h); have klq := hSq.at kl (fun h => h); go_simp; (try with_reducible rfl))); try simp only [Act.put, zL])
   (refine TD.val0 (v := ?v250) (by simp only [zK]; rfl) rfl (by rfl) (fun w1 => ?y250) ?n250; (case y250 => go_simp; try with_reducible rfl); try simp only [Act.put, zL])
   (refine TD.val0 (v := ?v251) (by simp only [zK]; rfl) rfl (by rfl) (fun w1 => ?y251) ?n251; (case y251 => go_simp; try with_reducible rfl); try simp only [Act.put, zL])
   (refine TD.val0 (v := ?v252) (by simp only [zK]; rfl) rfl (by rfl) (fun w1 => ?y252) ?n252; (case y252 => go_simp; try with_reducible rfl); try simp only [Act.put, zL])
   (refine TD.load (v := ?v253) (p := ?p253) (Mod.refl _ _) (by simp only [zK]; rfl) rfl (by rfl) rfl ?hx253 (fun wq hSq => ?y253) ?n253; (case hx253 => simp only [Act.eval, zM]; try rfl); (case y253 => (have krq := hSq.at kr (fun h => h); have kp10q := hSq.at kp10 (fun h => h); have klq := hSq.at kl (fun h => h); go_simp; (try with_reducible rfl))); try simp only [Act.put, zL])
   (refine TD.val0 (v := ?v254) (by simp only [zK]; rfl) rfl (by rfl) (fun w1 => ?y254) ?n254; (case y254 => go_simp; try with_reducible rfl); try simp only [Act.put, zL])
   (refine TD.val0 (v := ?v255) (by simp only [zK]; rfl) rfl (by rfl) (fun w1 => ?y255) ?n255; (case y255 => go_simp; try with_reducible rfl); try simp only [Act.put, zL])
   (refine TD.val0 (v := ?v256) (by simp only [zK]; rfl) rfl (by rfl) (fun w1 => ?y256) ?n256; (case y256 => go_simp; try with_reducible rfl); try simp only [Act.put, zL])
   (refine TD.val0 (v := ?v257) (by simp only [zK]; rfl) rfl (by rfl) (fun w1 => ?y257) ?n257; (case y257 => go_simp; try with_reducible rfl); try simp only [Act.put, zL])
   (refine TD.val0 (v := ?v258) (by simp only [zK]; rfl) rfl (by rfl) (fun w1 => ?y258) ?n258; (case y258 => go_simp; try with_reducible rfl); try simp only [Act.put, zL])
   (refine TD.val0 (v := ?v259) (by simp only [zK]; rfl) rfl (by rfl) (fun w1 => ?y259) ?n259; (case y259 => go_simp; try with_reducible rfl); try simp only [Act.put, zL])
   (refine TD.load (v := ?v260) (p := ?p260) (Mod.refl _ _) (by simp only [zK]; rfl) rfl (by rfl) rfl ?hx260 (fun wq hSq => ?y260) ?n260; (case hx260 => simp only [Act.eval, zM]; try rfl); (case y260 => (have krq := hSq.at kr (fun h => h); have kp10q := hSq.at kp10 (fun h => h); have klq := hSq.at kl (fun h => h); go_simp; (try with_reducible rfl))); try simp only [Act.put, zL])
   (refine TD.val0 (v := ?v261) (by simp only [zK]; rfl) rfl (by rfl) (fun w1 => ?y261) ?n261; (case y261 => go_simp; try with_reducible rfl); try simp only [Act.put, zL])
   (refine TD.load (v := ?v262) (p := ?p262) (Mod.refl _ _) (by simp only [zK]; rfl) rfl (by rfl) rfl ?hx262 (fun wq hSq => ?y262) ?n262; (case hx262 => simp only [Act.eval, zM]; try rfl); (case y262 => (have krq := hSq.at kr (fun h => h); have kp10q := hSq.at kp10 (fun h => h); have klq := hSq.at kl (fun h => h); go_simp; (try with_reducible rfl))); try simp only [Act.put, zL])
   (refine TD.val0 (v := ?v263) (by simp only [zK]; rfl) rfl (by rfl) (fun w1 => ?y263) ?n263; (case y263 => go_simp; try with_reducible rfl); try simp only [Act.put, zL])
   (refine TD.val0 (v := ?v264) (by simp only [zK]; rfl) rfl (by rfl) (fun w1 => ?y264) ?n264; (case y264 => go_simp; try with_reducible rfl); try simp only [Act.put, zL])
   (refine TD.load (v := ?v265) (p := ?p265) (Mod.refl _ _) (by simp only [zK]; rfl) rfl (by rfl) rfl ?hx265 (fun wq hSq => ?y265) ?n265; (case hx265 => simp only [Act.eval, zM]; try rfl); (case y265 => (have krq := hSq.at kr (fun h => h); have kp10q := hSq.at kp10 (fun h => h); have klq := hSq.at kl (fun h => h); go_simp; (try with_reducible rfl))); try simp only [Act.put, zL])
   (refine TD.val0 (v := ?v266) (by simp only [zK]; rfl) rfl (by rfl) (fun w1 => ?y266) ?n266; (case y266 => go_simp; try with_reducible rfl); try simp only [Act.put, zL])
   (refine TD.load (v := ?v267) (p := ?p267) (Mod.refl _ _) (by simp only [zK]; rfl) rfl (by rfl) rfl ?hx267 (fun wq hSq => ?y267) ?n267; (case hx267 => simp only [Act.eval, zM]; try rfl); (case y267 => (have krq := hSq.at kr (fun h => h); have kp10q := hSq.at kp10 (fun h => h); have klq := hSq.at kl (fun h => h); go_simp; (try with_reducible rfl))); try simp only [Act.put, zL])
   (refine TD.val0 (v := ?v268) (by simp only [zK]; rfl) rfl (by rfl) (fun w1 => ?y268) ?n268; (case y268 => go_simp; try with_reducible rfl); try simp only [Act.put, zL])
   (refine TD.val0 (v := ?v269) (by simp only [zK]; rfl) rfl (by rfl) (fun w1 => ?y269) ?n269; (case y269 => go_simp; try with_reducible rfl); try simp only [Act.put, zL])
   refine TD.nil (fun w12 hr => ?_)
   have kr := hr.mod.at kr (fun h => h)
   have kp10 := hr.mod.at kp10 (fun h => h)
   have kl := hr.mod.at kl (fun h => h)
   have HM2 := Lib.hid (HM.out.trans (hr.mod.mono (fun _ _ e => e.elim)))
   clear hr
   go_upto_region 13 with fail
   have Lkp10 := lt_size kp10
   refine wp_pass0 (C := fun _ _ _ => False) (κ := fun i => [0, 1, 0, 0, 5].getD i 0) [0, 1, 2, 3, 4] (by kernel_rfl) (by kernel_rfl) (fun _ _ d _ _ h => by cases d <;> first | exact h | exact absurd h (hP _ _ _)) ?_
   (refine TD.val0 (v := ?v270) (by simp only [zK]; rfl) rfl (by rfl) (fun w1 => ?y270) ?n270; (case y270 => go_simp; try with_reducible rfl); try simp only [Act.put, zL])
   (refine TD.load (v := ?v271) (p := ?p271) (Mod.refl _ _) (by simp only [zK]; rfl) rfl (by rfl) rfl ?hx271 (fun wq hSq => ?y271) ?n271; (case hx271 => simp only [Act.eval, zM]; try rfl); (case y271 => (have kp10q := hSq.at kp10 (fun h => h); go_simp; (try with_reducible rfl))); try simp only [Act.put, zL])
   (refine TD.val0 (v := ?v272) (by simp only [zK]; rfl) rfl (by rfl) (fun w1 => ?y272) ?n272; (case y272 => go_simp; try with_reducible rfl); try simp only [Act.put, zL])
   (refine TD.val0 (v := ?v273) (by simp only [zK]; rfl) rfl (by rfl) (fun w1 => ?y273) ?n273; (case y273 => go_simp; try with_reducible rfl); try simp only [Act.put, zL])
   refine TD.eff (by simp only [zK]; rfl) rfl (fun wE hr => ?_)
   have kp10 := hr.mod.at0 kp10
   have mE := hr.mod
   (refine eff_store (X := ?X274) (Y := ?Y274) (w' := ?w274) (by simp only [zK]; rfl) (by rfl) rfl ?hx274 ?hz274 ?y274 ?n274; (case hx274 => simp only [Act.eval, zM]; try rfl); (case hz274 => simp only [Act.eval, zM]; try rfl); (case y274 => go_simp; try with_reducible rfl))
   (first | refine TE.nil_set kp10 (fun w13 kp10 mS => ?_) | refine TE.nil_setCell kp10 (fun w13 kp10 mS => ?_))
   (try simp only [Array.setIfInBounds, zL] at kp10)
   have HM3 := Lib.hid ((HM2.out.trans (mE.mono (fun _ _ e => e.elim))).trans mS)
   have e1 : ((dqv ⟨k, num, prio, 0, false⟩).setIfInBounds 0 (.int .i64 ((k : Int) + 1))) = dqv ⟨k + 1, num, prio, 0, false⟩ := by simp [dqv]
   replace kp10 : w13.heap[p10]? = some (.cells (dqv ⟨k + 1, num, prio, 0, false⟩) 86 (0, 0)) := by
    rw [← e1]
    exact kp10
   have hbx := boxI_at kp10
   clear e1
   clear mE mS
   go_wp2_with fail
   go_roundw
   case rel => exact ⟨k + 1, by omega, rfl⟩
   case measure =>
    have h0 := HB0.out
    omega
  ·obtain rfl : k = f := by omega
   have HLP := Lib.hid (HRQ.out.1.mod HM.out (fun g hg e => HP10.out (by have h1 := HRQ.out.2.2.2.1 g hg; have h2 : g = p10 := e; rwa [h2] at h1)))
   have hbd := bsD ⟨k, num, prio, 0, false⟩
   have hLn := HRQ.out.2.1
   by_cases hfn : k < nL
   ·obtain ⟨y, hy⟩ : ∃ y, L[k]? = some y := ⟨_, List.getElem?_eq_getElem (by rw [hLn]; exact hfn)⟩
    have hyk : y.id ≠ k := free_no HFR.out.1 (by rw [← HFR.out.2.1]; exact hy)
    obtain ⟨a9, c9, hv9, hs9, _⟩ := HLP.out.at dqT
    rw [hLn] at hv9
    injection hv9 with q1 _ q3
    subst q1
    subst q3
    obtain ⟨g, oo, C, U, fr, rfl, kl, he, hle⟩ := hs9.block hy
    obtain ⟨e0, _⟩ := dq_part he
    have hde : ((y.id : Int) == (k : Int)) = false := by rw [beq_eq_false_iff_ne]; omega
    have hdeN : (y.id == k) = false := by rw [beq_eq_false_iff_ne]; exact hyk
    clear hy hyk hs9 he
    go_upto_region 12 with fail
    have Lkr := lt_size kr
    have Lkp10 := lt_size kp10
    have Lkl := lt_size kl
    refine wp_pass (C := fun _ _ _ => False) (κ := fun i => [0, 1, 0, 0, 0, 1, 0, 0, 0, 0, 0, 0, 1, 0, 1, 0, 0, 1, 0, 1, 0, 0].getD i 0) [0, 1, 2, 3, 4, 5, 6, 7, 8, 9, 10, 11, 12, 13, 14, 15, 16, 17, 18, 19, 20, 21] (by kernel_rfl) (by kernel_rfl) (fun _ _ d _ _ h => by cases d <;> first | exact h | exact absurd h (hP _ _ _)) ?_
    (refine TD.val0 (v := ?v275) (by simp only [zK]; rfl) rfl (by rfl) (fun w1 => ?y275) ?n275; (case y275 => go_simp; try with_reducible rfl); try simp only [Act.put, zL])
    (refine TD.load (v := ?v276) (p := ?p276) (Mod.refl _ _) (by simp only [zK]; rfl) rfl (by rfl) rfl ?hx276 (fun wq hSq => ?y276) ?n276; (case hx276 => simp only [Act.eval, zM]; try rfl); (case y276 => (have krq := hSq.at kr (fun h => h); have kp10q := hSq.at kp10 (fun h => h); have klq := hSq.at kl (fun h => h); go_simp; (try with_reducible rfl))); try simp only [Act.put, zL])
    (refine TD.val0 (v := ?v277) (by simp only [zK]; rfl) rfl (by rfl) (fun w1 => ?y277) ?n277; (case y277 => go_simp; try with_reducible rfl); try simp only [Act.put, zL])
    (refine TD.val0 (v := ?v278) (by simp only [zK]; rfl) rfl (by rfl) (fun w1 => ?y278) ?n278; (case y278 => go_simp; try with_reducible rfl); try simp only [Act.put, zL])
    (refine TD.val0 (v := ?v279) (by simp only [zK]; rfl) rfl (by rfl) (fun w1 => ?y279) ?n279; (case y279 => go_simp; try with_reducible rfl); try simp only [Act.put, zL])
    (refine TD.load (v := ?v280) (p := ?p280) (Mod.refl _ _) (by simp only [zK]; rfl) rfl (by rfl) rfl ?hx280 (fun wq hSq => ?y280) ?n280; (case hx280 => simp only [Act.eval, zM]; try rfl); (case y280 => (have krq := hSq.at kr (fun h => h); have kp10q := hSq.at kp10 (fun h => h); have klq := hSq.at kl (fun h => h); go_simp; (try with_reducible rfl))); try simp only [Act.put, zL])
    (refine TD.val0 (v := ?v281) (by simp only [zK]; rfl) rfl (by rfl) (fun w1 => ?y281) ?n281; (case y281 => go_simp; try with_reducible rfl); try simp only [Act.put, zL])
    (refine TD.val0 (v := ?v282) (by simp only [zK]; rfl) rfl (by rfl) (fun w1 => ?y282) ?n282; (case y282 => go_simp; try with_reducible rfl); try simp only [Act.put, zL])
    (refine TD.val0 (v := ?v283) (by simp only [zK]; rfl) rfl (by rfl) (fun w1 => ?y283) ?n283; (case y283 => go_simp; try with_reducible rfl); try simp only [Act.put, zL])
    (refine TD.val0 (v := ?v284) (by simp only [zK]; rfl) rfl (by rfl) (fun w1 => ?y284) ?n284; (case y284 => go_simp; try with_reducible rfl); try simp only [Act.put, zL])
    (refine TD.val0 (v := ?v285) (by simp only [zK]; rfl) rfl (by rfl) (fun w1 => ?y285) ?n285; (case y285 => go_simp; try with_reducible rfl); try simp only [Act.put, zL])
    (refine TD.val0 (v := ?v286) (by simp only [zK]; rfl) rfl (by rfl) (fun w1 => ?y286) ?n286; (case y286 => go_simp; try with_reducible rfl); try simp only [Act.put, zL])
    (refine TD.load (v := ?v287) (p := ?p287) (Mod.refl _ _) (by simp only [zK]; rfl) rfl (by rfl) rfl ?hx287 (fun wq hSq => ?y287) ?n287; (case hx287 => simp only [Act.eval, zM]; try rfl); (case y287 => (have krq := hSq.at kr (fun h => h); have kp10q := hSq.at kp10 (fun h => h); have klq := hSq.at kl (fun h => h); go_simp; (try with_reducible rfl))); try simp only [Act.put, zL])
    (refine TD.val0 (v := ?v288) (by simp only [zK]; rfl) rfl (by rfl) (fun w1 => ?y288) ?n288; (case y288 => go_simp; try with_reducible rfl); try simp only [Act.put, zL])
    (refine TD.load (v := ?v289) (p := ?p289) (Mod.refl _ _) (by simp only [zK]; rfl) rfl (by rfl) rfl ?hx289 (fun wq hSq => ?y289) ?n289; (case hx289 => simp only [Act.eval, zM]; try rfl); (case y289 => (have krq := hSq.at kr (fun h => h); have kp10q := hSq.at kp10 (fun h => h); have klq := hSq.at kl (fun h => h); go_simp; (try with_reducible rfl))); try simp only [Act.put, zL])
    (refine TD.val0 (v := ?v290) (by simp only [zK]; rfl) rfl (by rfl) (fun w1 => ?y290) ?n290; (case y290 => go_simp; try with_reducible rfl); try simp only [Act.put, zL])
    (refine TD.val0 (v := ?v291) (by simp only [zK]; rfl) rfl (by rfl) (fun w1 => ?y291) ?n291; (case y291 => go_simp; try with_reducible rfl); try simp only [Act.put, zL])
    (refine TD.load (v := ?v292) (p := ?p292) (Mod.refl _ _) (by simp only [zK]; rfl) rfl (by rfl) rfl ?hx292 (fun wq hSq => ?y292) ?n292; (case hx292 => simp only [Act.eval, zM]; try rfl); (case y292 => (have krq := hSq.at kr (fun h => h); have kp10q := hSq.at kp10 (fun h => h); have klq := hSq.at kl (fun h => h); go_simp; (try with_reducible rfl))); try simp only [Act.put, zL])
    (refine TD.val0 (v := ?v293) (by simp only [zK]; rfl) rfl (by rfl) (fun w1 => ?y293) ?n293; (case y293 => go_simp; try with_reducible rfl); try simp only [Act.put, zL])
    (refine TD.load (v := ?v294) (p := ?p294) (Mod.refl _ _) (by simp only [zK]; rfl) rfl (by rfl) rfl ?hx294 (fun wq hSq => ?y294) ?n294; (case hx294 => simp only [Act.eval, zM]; try rfl); (case y294 => (have krq := hSq.at kr (fun h => h); have kp10q := hSq.at kp10 (fun h => h); have klq := hSq.at kl (fun h => h); go_simp; (try with_reducible rfl))); try simp only [Act.put, zL])
    (refine TD.val0 (v := ?v295) (by simp only [zK]; rfl) rfl (by rfl) (fun w1 => ?y295) ?n295; (case y295 => go_simp; try with_reducible rfl); try simp only [Act.put, zL])
    (refine TD.val0 (v := ?v296) (by simp only [zK]; rfl) rfl (by rfl) (fun w1 => ?y296) ?n296; (case y296 => go_simp; try with_reducible rfl); try simp only [Act.put, zL])
    refine TD.nil (fun w12 hr => ?_)
    have kr := hr.mod.at kr (fun h => h)
    have kp10 := hr.mod.at kp10 (fun h => h)
    have kl := hr.mod.at kl (fun h => h)
    have HM2 := Lib.hid (HM.out.trans (hr.mod.mono (fun _ _ e => e.elim)))
    have hlp := HLP.out.mod0 hr.mod
    obtain ⟨at1, ct1, hq1, hs1, _⟩ := own_takeR dqT hlp (k := k) (by rw [hLn]; exact hfl)
    obtain ⟨at2, ct2, hq2, hs2, hb2⟩ := own_dropR dqT hlp (k := k) (by rw [hLn]; exact hfl)
    have hkl : (L.take k).length = k := by rw [List.length_take]; omega
    have hdl : (L.drop k).length = nL - k := by rw [List.length_drop, hLn]
    rw [hdl] at hq2
    have HS := Lib.hid (And.intro hs1 (And.intro hs2 (And.intro hkl (And.intro hdl (fun b o e => HRQ.out.2.2.2.1 b (hb2 b o e))))))
    have sw := HM2.out.size
    clear hr hlp hs1 hs2 hb2 hkl hdl
    go_upto_region 14 with fail
    have Lkr := lt_size kr
    have Lkp10 := lt_size kp10
    refine wp_gpass (T0 := fun _ => False) (K := fun _ _ => True) (κ := fun i => [0, 0, 0, 0, 0, 0, 0, 6, 0].getD i 0) (υ := fun i => [[], [], [], [], [], [], [], [], []].getD i []) [0, 1, 2, 3, 4, 5, 6, 7, 8] (by kernel_rfl) (by kernel_rfl) (Good.true).cl (trivial) (fun _ h => h.elim) ?_
    have gK := Good.true
    (refine TG.v0 (v := ?v297) (by simp only [zK]; rfl) rfl (by rfl) (fun w1 => ?y297) ?n297; (case y297 => go_simp; try with_reducible rfl); try simp only [Act.put, zL])
    (refine TG.v0 (v := ?v298) (by simp only [zK]; rfl) rfl (by rfl) (fun w1 => ?y298) ?n298; (case y298 => go_simp; try with_reducible rfl); try simp only [Act.put, zL])
    (refine TG.v0 (v := ?v299) (by simp only [zK]; rfl) rfl (by rfl) (fun w1 => ?y299) ?n299; (case y299 => go_simp; try with_reducible rfl); try simp only [Act.put, zL])
    (refine TG.load (v := ?v300) (p := ?p300) (by simp only [zK]; rfl) rfl (by rfl) rfl ?hx300 (fun wq hSq => ?y300) ?n300; (case hx300 => simp only [Act.eval, zM]; try rfl); (case y300 => (have krq := hSq.at kr (fun h => h); have kp10q := hSq.at kp10 (fun h => h); go_simp; (try with_reducible rfl))); try simp only [Act.put, zL])
    (refine TG.v0 (v := ?v301) (by simp only [zK]; rfl) rfl (by rfl) (fun w1 => ?y301) ?n301; (case y301 => go_simp; try with_reducible rfl); try simp only [Act.put, zL])
    (refine TG.load (v := ?v302) (p := ?p302) (by simp only [zK]; rfl) rfl (by rfl) rfl ?hx302 (fun wq hSq => ?y302) ?n302; (case hx302 => simp only [Act.eval, zM]; try rfl); (case y302 => (have krq := hSq.at kr (fun h => h); have kp10q := hSq.at kp10 (fun h => h); go_simp; (try with_reducible rfl))); try simp only [Act.put, zL])
    (refine TG.slice (by simp only [zK]; rfl) rfl (by rfl) rfl ?hs303 ?hl303 ?hh303 ?hm303 hq1 ?n303; (case hs303 => simp only [Act.eval, zM]; try rfl); (case hl303 => first | rfl | (simp only [Option.map_some, Act.eval, zM]; (try rfl))); (case hh303 => first | rfl | (simp only [Option.map_some, Act.eval, zM]; (try rfl))); (case hm303 => rfl); try simp only [Act.put, zL])
    (refine TG.appK (X := ?X304) (Y := ?Y304) (OwnD wa.heap.size (L.take k)) (goodOwnD wa.heap.size (L.take k)) (by simp only [zK]; rfl) rfl (by rfl) rfl ?hx304 ?hz304 (fun T wq kq ltq hSq ub => ?y304) ?n304; (case hx304 => simp only [Act.eval, zM]; try rfl); (case hz304 => simp only [Act.eval, zM]; try rfl); (case y304 => (have krq := hSq.at kr (fun h => h); have kp10q := hSq.at kp10 (fun h => h); have hh := app_nilD (B0 := wa.heap.size) (c := ct1) (T := T) (HS.out.1.mod0 hSq) (by rw [HS.out.2.2.1]; omega) (Nat.le_trans sw hSq.size); rw [HS.out.2.2.1] at hh; exact hh)); rintro v304 ⟨wI, TI, hI⟩; replace gK := (goodOwnD wa.heap.size (L.take k)) v304; skip; (try clear hI TI wI); try simp only [Act.put, zL])
    (refine TG.v0 (v := ?v305) (by simp only [zK]; rfl) rfl (by rfl) (fun w1 => ?y305) ?n305; (case y305 => go_simp; try with_reducible rfl); try simp only [Act.put, zL])
    refine TG.nil (fun w14 ⟨TR, hr⟩ => ?_)
    have kr := hr.mod.at kr (fun h => h)
    have kp10 := hr.mod.at kp10 (fun h => h)
    clear gK
    have HM4 := Lib.hid (HM2.out.trans (hr.mod.mono (fun _ _ e => e.elim)))
    have hO5 := hr.k.1
    obtain ⟨a5, c5, hv5, _⟩ := hO5.at dqT
    rw [HS.out.2.2.1] at hv5
    subst hv5
    have HO5 := Lib.hid hO5
    have HS5 := Lib.hid (HS.out.2.1.mod0 hr.mod)
    clear hr hO5 hq1
    go_upto_region 15 with fail
    have Lkr := lt_size kr
    have Lkp10 := lt_size kp10
    refine wp_pass0 (C := fun _ _ _ => False) (κ := fun i => [0, 1, 3, 5, 0].getD i 0) [0, 1, 2, 3, 4] (by kernel_rfl) (by kernel_rfl) (fun _ _ d _ _ h => by cases d <;> first | exact h | exact absurd h (hP _ _ _)) ?_
    (refine TD.val0 (v := ?v306) (by simp only [zK]; rfl) rfl (by rfl) (fun w1 => ?y306) ?n306; (case y306 => go_simp; try with_reducible rfl); try simp only [Act.put, zL])
    (refine TD.load (v := ?v307) (p := ?p307) (Mod.refl _ _) (by simp only [zK]; rfl) rfl (by rfl) rfl ?hx307 (fun wq hSq => ?y307) ?n307; (case hx307 => simp only [Act.eval, zM]; try rfl); (case y307 => (have krq := hSq.at kr (fun h => h); have kp10q := hSq.at kp10 (fun h => h); go_simp; (try with_reducible rfl))); try simp only [Act.put, zL])
    (refine TD.bslice (by simp only [zK]; rfl) rfl (by rfl) rfl rfl ?hx308 hbd (fun p102 hp102 => ?n308); (case hx308 => (simp only [List.map_toArray, List.map_cons, List.map_nil, Act.eval, zM]; (try rfl))); try simp only [Act.put, zL])
    refine TD.eff (by simp only [zK]; rfl) rfl (fun w15 hr => ?_)
    have kr := hr.mod.at kr (fun h => h)
    have kp10 := hr.mod.at kp10 (fun h => h)
    have kp102 := hr.box p102 _ (by first | exact Bx.set_same _ _ _ | (simp only [Bx.set_same]; rfl)); dsimp only [Value.cells] at kp102; obtain ⟨gp102, kp102⟩ := kp102
    have hone : SlAt dqv 5 w15 (some ⟨p102, 0, none⟩) [(⟨k, num, prio, 0, false⟩ : Dq)] := SlAt.one kp102 _ rfl rfl
    have HM5 := Lib.hid (HM4.out.trans (hr.mod.mono (fun _ _ e => e.elim)))
    have hO6 := HO5.out.mod0 hr.mod
    have hlt7 := hO6.lt
    obtain ⟨v7, w7, hap, hO7, m7, hn7⟩ := SlOwn.append dqT (c := 1) hO6 hone (by rw [HS.out.2.2.1, List.length_singleton]; omega) (by decide) HM5.out.size 67
    rw [List.length_singleton] at hap
    have hfar : ∀ b, b < wa.heap.size → ¬ ((Value.slice a5 k c5).ownBlock = some b) := fun b hb e => by
     have := (hlt7 b e).1
     omega
    have hpl : p10 < wa.heap.size := HPL.out
    have hrl : r < wa.heap.size := HRQ.out.2.2.2.2 r HRQ.out.2.2.1
    have HS7 : Hid (SlAt dqv 5 w7 at2 (L.drop k)) := Lib.hid ((HS5.out.mod0 hr.mod).mod m7 (fun b o e h => hfar b (HRQ.out.2.2.2.2 b (HS.out.2.2.2.2 b o e)) h))
    have HM7 : Hid (Mod (fun i => i = p10) wa w7) := Lib.hid (HM5.out.then m7 (fun i hi e => (hfar i hi e).elim))
    have kr7 := m7.at kr (fun e => hfar r hrl e)
    have kp7 := m7.at kp10 (fun e => hfar p10 hpl e)
    obtain ⟨a7, c7, hv7, _⟩ := hO7.at dqT
    obtain ⟨k1, hk1⟩ : ∃ k1, (L.take k ++ [(⟨k, num, prio, 0, false⟩ : Dq)]).length = k1 := ⟨_, rfl⟩
    rw [hk1] at hv7
    have hk1e : k1 = k + 1 := by rw [← hk1, List.length_append, HS.out.2.2.1]; rfl
    have HO7 := Lib.hid (And.intro hO7 (And.intro hk1 hk1e))
    subst hv7
    clear hr hbd hone hO6 hlt7 hn7 hfar m7 kr kp10 kp102 hO7 hk1 hk1e HS5 HO5
    (refine eff_append (by simp only [zK]; rfl) (by rfl) rfl ?hx310 ?hz310 hap ?n310; (case hx310 => simp only [Act.eval, zM]; try rfl); (case hz310 => simp only [Act.eval, zM]; try rfl); try simp only [Act.put, zL])
    (refine TE.val0 (v := ?v311) (by simp only [zK]; rfl) (by rfl) (fun w1 => ?y311) ?n311; (case y311 => go_simp; try with_reducible rfl); try simp only [Act.put, zL])
    refine TE.nil ?_
    clear hap
    have hfar7 : ∀ b, b < wa.heap.size → ¬ ((Value.slice a7 k1 c7).ownBlock = some b) := fun b hb e => by
     have := (HO7.out.1.lt b e).1
     omega
    have nr7 : ¬ ((Value.slice a7 k1 c7).ownBlock = some r) := hfar7 r hrl
    have np7 : ¬ ((Value.slice a7 k1 c7).ownBlock = some p10) := hfar7 p10 hpl
    have HF7 := Lib.hid hfar7
    have sw7 := HM7.out.size
    clear hfar7
    go_upto_region 16 with fail
    have Lkr7 := lt_size kr7
    have Lkp7 := lt_size kp7
    refine wp_epass (T0 := fun i => (Value.slice a7 k1 c7).ownBlock = some i) (K := OwnD wa.heap.size (L.take k ++ [(⟨k, num, prio, 0, false⟩ : Dq)]) (.slice a7 k1 c7)) (κ := fun i => [0, 0, 0, 0, 0, 0, 0, 0, 0, 6, 0, 0, 6].getD i 0) (υ := fun i => [[], [], [], [], [], [], [], [], [], [], [], [], []].getD i []) [0, 1, 2, 3, 4, 5, 6, 7, 8, 9, 10, 11] [12] (by kernel_rfl) (by kernel_rfl) (goodOwnD wa.heap.size (L.take k ++ [(⟨k, num, prio, 0, false⟩ : Dq)]) (.slice a7 k1 c7)).cl (⟨HO7.out.1, fun g hg => hg⟩) (fun i hi => (HO7.out.1.lt i hi).2) ?_
    have gK := goodOwnD wa.heap.size (L.take k ++ [(⟨k, num, prio, 0, false⟩ : Dq)]) (.slice a7 k1 c7)
    (refine TG.v0 (v := ?v312) (by simp only [zK]; rfl) rfl (by rfl) (fun w1 => ?y312) ?n312; (case y312 => go_simp; try with_reducible rfl); try simp only [Act.put, zL])
    (refine TG.v0 (v := ?v313) (by simp only [zK]; rfl) rfl (by rfl) (fun w1 => ?y313) ?n313; (case y313 => go_simp; try with_reducible rfl); try simp only [Act.put, zL])
    (refine TG.v0 (v := ?v314) (by simp only [zK]; rfl) rfl (by rfl) (fun w1 => ?y314) ?n314; (case y314 => go_simp; try with_reducible rfl); try simp only [Act.put, zL])
    (refine TG.v0 (v := ?v315) (by simp only [zK]; rfl) rfl (by rfl) (fun w1 => ?y315) ?n315; (case y315 => go_simp; try with_reducible rfl); try simp only [Act.put, zL])
    (refine TG.v0 (v := ?v316) (by simp only [zK]; rfl) rfl (by rfl) (fun w1 => ?y316) ?n316; (case y316 => go_simp; try with_reducible rfl); try simp only [Act.put, zL])
    (refine TG.load (v := ?v317) (p := ?p317) (by simp only [zK]; rfl) rfl (by rfl) rfl ?hx317 (fun wq hSq => ?y317) ?n317; (case hx317 => simp only [Act.eval, zM]; try rfl); (case y317 => (have kr7q := hSq.at kr7 (by intro hT; first | exact hT | exact absurd hT (by assumption) | omega | (simp only at hT; omega)); have kp7q := hSq.at kp7 (by intro hT; first | exact hT | exact absurd hT (by assumption) | omega | (simp only at hT; omega)); go_simp; (try with_reducible rfl))); try simp only [Act.put, zL])
    (refine TG.v0 (v := ?v318) (by simp only [zK]; rfl) rfl (by rfl) (fun w1 => ?y318) ?n318; (case y318 => go_simp; try with_reducible rfl); try simp only [Act.put, zL])
    (refine TG.load (v := ?v319) (p := ?p319) (by simp only [zK]; rfl) rfl (by rfl) rfl ?hx319 (fun wq hSq => ?y319) ?n319; (case hx319 => simp only [Act.eval, zM]; try rfl); (case y319 => (have kr7q := hSq.at kr7 (by intro hT; first | exact hT | exact absurd hT (by assumption) | omega | (simp only at hT; omega)); have kp7q := hSq.at kp7 (by intro hT; first | exact hT | exact absurd hT (by assumption) | omega | (simp only at hT; omega)); go_simp; (try with_reducible rfl))); try simp only [Act.put, zL])
    (refine TG.slice (by simp only [zK]; rfl) rfl (by rfl) rfl ?hs320 ?hl320 ?hh320 ?hm320 hq2 ?n320; (case hs320 => simp only [Act.eval, zM]; try rfl); (case hl320 => first | rfl | (simp only [Option.map_some, Act.eval, zM]; (try rfl))); (case hh320 => first | rfl | (simp only [Option.map_some, Act.eval, zM]; (try rfl))); (case hm320 => rfl); try simp only [Act.put, zL])
    (refine TG.appK (X := ?X321) (Y := ?Y321) (OwnD wa.heap.size (L.take k ++ [(⟨k, num, prio, 0, false⟩ : Dq)] ++ L.drop k)) (goodOwnD wa.heap.size (L.take k ++ [(⟨k, num, prio, 0, false⟩ : Dq)] ++ L.drop k)) (by simp only [zK]; rfl) rfl (by rfl) rfl ?hx321 ?hz321 (fun T wq kq ltq hSq ub => ?y321) ?n321; (case hx321 => simp only [Act.eval, zM]; try rfl); (case hz321 => simp only [Act.eval, zM]; try rfl); (case y321 => (have kr7q := hSq.at kr7 (by intro hT; first | exact hT | exact absurd hT (by assumption) | omega | (simp only at hT; omega)); have kp7q := hSq.at kp7 (by intro hT; first | exact hT | exact absurd hT (by assumption) | omega | (simp only at hT; omega)); have hh := app_ownD (c := ct2) kq (HS7.out.mod hSq (fun b o e h => HF7.out b (HRQ.out.2.2.2.2 b (HS.out.2.2.2.2 b o e)) h)) (by rw [HO7.out.2.1, HO7.out.2.2, HS.out.2.2.2.1]; omega) (Nat.le_trans sw7 hSq.size); rw [HS.out.2.2.2.1] at hh; exact hh)); rintro v321 ⟨wI, TI, hI⟩; replace gK := (goodOwnD wa.heap.size (L.take k ++ [(⟨k, num, prio, 0, false⟩ : Dq)] ++ L.drop k)) v321; skip; (try clear hI TI wI); try simp only [Act.put, zL])
    (refine TG.v0 (v := ?v322) (by simp only [zK]; rfl) rfl (by rfl) (fun w1 => ?y322) ?n322; (case y322 => go_simp; try with_reducible rfl); try simp only [Act.put, zL])
    (refine TG.v0 (v := ?v323) (by simp only [zK]; rfl) rfl (by rfl) (fun w1 => ?y323) ?n323; (case y323 => go_simp; try with_reducible rfl); try simp only [Act.put, zL])
    refine TG.nil (fun w16 ⟨TR, hr⟩ => ?_)
    have kr7 := hr.mod.at kr7 (by intro hT; first | exact hT | exact absurd hT (by assumption) | omega | (simp only at hT; omega))
    have kp7 := hr.mod.at kp7 (by intro hT; first | exact hT | exact absurd hT (by assumption) | omega | (simp only at hT; omega))
    clear gK
    have hO9 := hr.k.1
    have HM8 : Hid (Mod (fun i => i = p10) wa w16) := Lib.hid (HM7.out.then hr.mod (fun i hi e => (HF7.out i hi e).elim))
    obtain ⟨a9, c9, hv9, _⟩ := hO9.at dqT
    obtain ⟨n9, hn9⟩ : ∃ n9, (L.take k ++ [(⟨k, num, prio, 0, false⟩ : Dq)] ++ L.drop k).length = n9 := ⟨_, rfl⟩
    rw [hn9] at hv9
    have HO9 := Lib.hid (And.intro hO9 hO9.lt)
    subst hv9
    clear hr hO9 hn9 hq2 nr7 np7
    refine TE.step (by simp only [zK]; rfl) rfl ?_
    (refine eff_store (X := ?X324) (Y := ?Y324) (w' := ?w324) (by simp only [zK]; rfl) (by rfl) rfl ?hx324 ?hz324 ?y324 ?n324; (case hx324 => simp only [Act.eval, zM]; try rfl); (case hz324 => simp only [Act.eval, zM]; try rfl); (case y324 => go_simp; try with_reducible rfl))
    (first | refine TE.nil_set kr7 (fun wn kr7 mS => ?_) | refine TE.nil_setCell kr7 (fun wn kr7 mS => ?_))
    (try simp only [Array.setIfInBounds, zL] at kr7)
    (try simp only [Act.put, zL])
    replace kr7 : wn.heap[r]? = some (.cells #[.int .i64 (n : Int), .slice a9 n9 c9] 69 (0, 0)) := kr7
    replace kp7 := mS.at_ne kp7 (Ne.symm hrp)
    have HM9 : Hid (Mod (fun i => i = p10 ∨ i = r) wa wn) := Lib.hid ((HM8.out.mono (fun _ _ e => .inl e)).trans (mS.mono (fun _ _ e => .inr e)))
    have HO10 := Lib.hid (HO9.out.1.mod mS (fun g hg e => by have := (HO9.out.2 g hg).1; omega))
    have HFIN : Hid (QT r n (docL 0 ((S.set k none).set k (some x))) T w wn) := Lib.hid (by
     have hsz := HM9.out.size
     have hsw := HMT.out.size
     have hlt9 := HO10.out.lt
     have hid : docL 0 ((S.set k none).set k (some x)) = L.take k ++ [(⟨k, num, prio, 0, false⟩ : Dq)] ++ L.drop k := by
      rw [docL_ins HFR.out.1, HX.out, ← HFR.out.2.1]
      simp
     rw [hid]
     exact ⟨fun j => T1 j ∨ (wa.heap.size ≤ j ∧ j < wn.heap.size), ⟨_, kr7, HO10.out.low (Nat.zero_le _), .inl HRQ.out.2.2.1, fun g hg => .inr (hlt9 g hg)⟩, HMT.out.then HM9.out (fun i hi e => e.elim (fun h => by have := HPG.out; omega) (fun h => h ▸ HTR.out)), fun j hj => hj.elim (HT1.out j) (fun h => .inr (Nat.le_trans hsw h.1)), fun j hj => hj.elim (fun h => Nat.lt_of_lt_of_le (HRQ.out.2.2.2.2 j h) hsz) (fun h => h.2)⟩)
    clear mS kr7 HO9 HO7 HS7
    go_wp2_with fail
    exact bodyPost_ret (results_tmp3 rfl _ _ _) rfl ⟨p62, rfl, HZ62.out _ HM9.out, (by have h := HFIN.out; rwa [List.set_set] at h)⟩
   ·have hfe : k = nL := by omega
    subst hfe
    have hnl2 : ¬ k < k := by omega
    go_upto_region 12 with fail
    have Lkr := lt_size kr
    have Lkp10 := lt_size kp10
    refine wp_pass (C := fun _ _ _ => False) (κ := fun i => [0, 1, 0, 0, 0, 1, 0, 0, 0, 0, 0, 0, 0, 0, 0, 0, 0, 0, 0, 0, 0, 0].getD i 0) [0, 1, 2, 3, 4, 5, 6, 7, 8, 9, 10, 11, 12, 13, 14, 15, 16, 17, 18, 19, 20, 21] (by kernel_rfl) (by kernel_rfl) (fun _ _ d _ _ h => by cases d <;> first | exact h | exact absurd h (hP _ _ _)) ?_
    (refine TD.val0 (v := ?v325) (by simp only [zK]; rfl) rfl (by rfl) (fun w1 => ?y325) ?n325; (case y325 => go_simp; try with_reducible rfl); try simp only [Act.put, zL])
    (refine TD.load (v := ?v326) (p := ?p326) (Mod.refl _ _) (by simp only [zK]; rfl) rfl (by rfl) rfl ?hx326 (fun wq hSq => ?y326) ?n326; (case hx326 => simp only [Act.eval, zM]; try rfl); (case y326 => (have krq := hSq.at kr (fun h => h); have kp10q := hSq.at kp10 (fun h => h); go_simp; (try with_reducible rfl))); try simp only [Act.put, zL])
    (refine TD.val0 (v := ?v327) (by simp only [zK]; rfl) rfl (by rfl) (fun w1 => ?y327) ?n327; (case y327 => go_simp; try with_reducible rfl); try simp only [Act.put, zL])
    (refine TD.val0 (v := ?v328) (by simp only [zK]; rfl) rfl (by rfl) (fun w1 => ?y328) ?n328; (case y328 => go_simp; try with_reducible rfl); try simp only [Act.put, zL])
    (refine TD.val0 (v := ?v329) (by simp only [zK]; rfl) rfl (by rfl) (fun w1 => ?y329) ?n329; (case y329 => go_simp; try with_reducible rfl); try simp only [Act.put, zL])
    (refine TD.load (v := ?v330) (p := ?p330) (Mod.refl _ _) (by simp only [zK]; rfl) rfl (by rfl) rfl ?hx330 (fun wq hSq => ?y330) ?n330; (case hx330 => simp only [Act.eval, zM]; try rfl); (case y330 => (have krq := hSq.at kr (fun h => h); have kp10q := hSq.at kp10 (fun h => h); go_simp; (try with_reducible rfl))); try simp only [Act.put, zL])
    (refine TD.val0 (v := ?v331) (by simp only [zK]; rfl) rfl (by rfl) (fun w1 => ?y331) ?n331; (case y331 => go_simp; try with_reducible rfl); try simp only [Act.put, zL])
    (refine TD.val0 (v := ?v332) (by simp only [zK]; rfl) rfl (by rfl) (fun w1 => ?y332) ?n332; (case y332 => go_simp; try with_reducible rfl); try simp only [Act.put, zL])
    (refine TD.val0 (v := ?v333) (by simp only [zK]; rfl) rfl (by rfl) (fun w1 => ?y333) ?n333; (case y333 => go_simp; try with_reducible rfl); try simp only [Act.put, zL])
    (refine TD.pass (by simp only [zK]; rfl) rfl (by rfl) ?n334; try simp only [Act.put, zL])
    (refine TD.pass (by simp only [zK]; rfl) rfl (by rfl) ?n335; try simp only [Act.put, zL])
    (refine TD.pass (by simp only [zK]; rfl) rfl (by rfl) ?n336; try simp only [Act.put, zL])
    (refine TD.pass (by simp only [zK]; rfl) rfl (by rfl) ?n337; try simp only [Act.put, zL])
    (refine TD.pass (by simp only [zK]; rfl) rfl (by rfl) ?n338; try simp only [Act.put, zL])
    (refine TD.pass (by simp only [zK]; rfl) rfl (by rfl) ?n339; try simp only [Act.put, zL])
    (refine TD.pass (by simp only [zK]; rfl) rfl (by rfl) ?n340; try simp only [Act.put, zL])
    (refine TD.pass (by simp only [zK]; rfl) rfl (by rfl) ?n341; try simp only [Act.put, zL])
    (refine TD.pass (by simp only [zK]; rfl) rfl (by rfl) ?n342; try simp only [Act.put, zL])
    (refine TD.pass (by simp only [zK]; rfl) rfl (by rfl) ?n343; try simp only [Act.put, zL])
    (refine TD.pass (by simp only [zK]; rfl) rfl (by rfl) ?n344; try simp only [Act.put, zL])
    (refine TD.pass (by simp only [zK]; rfl) rfl (by rfl) ?n345; try simp only [Act.put, zL])
    (refine TD.val0 (v := ?v346) (by simp only [zK]; rfl) rfl (by rfl) (fun w1 => ?y346) ?n346; (case y346 => go_simp; try with_reducible rfl); try simp only [Act.put, zL])
    refine TD.nil (fun w12 hr => ?_)
    have kr := hr.mod.at kr (fun h => h)
    have kp10 := hr.mod.at kp10 (fun h => h)
    have HM2 := Lib.hid (HM.out.trans (hr.mod.mono (fun _ _ e => e.elim)))
    have hlp := HLP.out.mod0 hr.mod
    obtain ⟨at1, ct1, hq1, hs1, _⟩ := own_takeR dqT hlp (k := k) (by rw [hLn]; exact hfl)
    obtain ⟨at2, ct2, hq2, hs2, hb2⟩ := own_dropR dqT hlp (k := k) (by rw [hLn]; exact hfl)
    have hkl : (L.take k).length = k := by rw [List.length_take]; omega
    have hdl : (L.drop k).length = k - k := by rw [List.length_drop, hLn]
    rw [hdl] at hq2
    have HS := Lib.hid (And.intro hs1 (And.intro hs2 (And.intro hkl (And.intro hdl (fun b o e => HRQ.out.2.2.2.1 b (hb2 b o e))))))
    have sw := HM2.out.size
    clear hr hlp hs1 hs2 hb2 hkl hdl
    go_upto_region 14 with fail
    have Lkr := lt_size kr
    have Lkp10 := lt_size kp10
    refine wp_gpass (T0 := fun _ => False) (K := fun _ _ => True) (κ := fun i => [0, 0, 0, 0, 0, 0, 0, 6, 0].getD i 0) (υ := fun i => [[], [], [], [], [], [], [], [], []].getD i []) [0, 1, 2, 3, 4, 5, 6, 7, 8] (by kernel_rfl) (by kernel_rfl) (Good.true).cl (trivial) (fun _ h => h.elim) ?_
    have gK := Good.true
    (refine TG.v0 (v := ?v347) (by simp only [zK]; rfl) rfl (by rfl) (fun w1 => ?y347) ?n347; (case y347 => go_simp; try with_reducible rfl); try simp only [Act.put, zL])
    (refine TG.v0 (v := ?v348) (by simp only [zK]; rfl) rfl (by rfl) (fun w1 => ?y348) ?n348; (case y348 => go_simp; try with_reducible rfl); try simp only [Act.put, zL])
    (refine TG.v0 (v := ?v349) (by simp only [zK]; rfl) rfl (by rfl) (fun w1 => ?y349) ?n349; (case y349 => go_simp; try with_reducible rfl); try simp only [Act.put, zL])
    (refine TG.load (v := ?v350) (p := ?p350) (by simp only [zK]; rfl) rfl (by rfl) rfl ?hx350 (fun wq hSq => ?y350) ?n350; (case hx350 => simp only [Act.eval, zM]; try rfl); (case y350 => (have krq := hSq.at kr (fun h => h); have kp10q := hSq.at kp10 (fun h => h); go_simp; (try with_reducible rfl))); try simp only [Act.put, zL])
    (refine TG.v0 (v := ?v351) (by simp only [zK]; rfl) rfl (by rfl) (fun w1 => ?y351) ?n351; (case y351 => go_simp; try with_reducible rfl); try simp only [Act.put, zL])
    (refine TG.load (v := ?v352) (p := ?p352) (by simp only [zK]; rfl) rfl (by rfl) rfl ?hx352 (fun wq hSq => ?y352) ?n352; (case hx352 => simp only [Act.eval, zM]; try rfl); (case y352 => (have krq := hSq.at kr (fun h => h); have kp10q := hSq.at kp10 (fun h => h); go_simp; (try with_reducible rfl))); try simp only [Act.put, zL])
    (refine TG.slice (by simp only [zK]; rfl) rfl (by rfl) rfl ?hs353 ?hl353 ?hh353 ?hm353 hq1 ?n353; (case hs353 => simp only [Act.eval, zM]; try rfl); (case hl353 => first | rfl | (simp only [Option.map_some, Act.eval, zM]; (try rfl))); (case hh353 => first | rfl | (simp only [Option.map_some, Act.eval, zM]; (try rfl))); (case hm353 => rfl); try simp only [Act.put, zL])
    (refine TG.appK (X := ?X354) (Y := ?Y354) (OwnD wa.heap.size (L.take k)) (goodOwnD wa.heap.size (L.take k)) (by simp only [zK]; rfl) rfl (by rfl) rfl ?hx354 ?hz354 (fun T wq kq ltq hSq ub => ?y354) ?n354; (case hx354 => simp only [Act.eval, zM]; try rfl); (case hz354 => simp only [Act.eval, zM]; try rfl); (case y354 => (have krq := hSq.at kr (fun h => h); have kp10q := hSq.at kp10 (fun h => h); have hh := app_nilD (B0 := wa.heap.size) (c := ct1) (T := T) (HS.out.1.mod0 hSq) (by rw [HS.out.2.2.1]; omega) (Nat.le_trans sw hSq.size); rw [HS.out.2.2.1] at hh; exact hh)); rintro v354 ⟨wI, TI, hI⟩; replace gK := (goodOwnD wa.heap.size (L.take k)) v354; skip; (try clear hI TI wI); try simp only [Act.put, zL])
    (refine TG.v0 (v := ?v355) (by simp only [zK]; rfl) rfl (by rfl) (fun w1 => ?y355) ?n355; (case y355 => go_simp; try with_reducible rfl); try simp only [Act.put, zL])
    refine TG.nil (fun w14 ⟨TR, hr⟩ => ?_)
    have kr := hr.mod.at kr (fun h => h)
    have kp10 := hr.mod.at kp10 (fun h => h)
    clear gK
    have HM4 := Lib.hid (HM2.out.trans (hr.mod.mono (fun _ _ e => e.elim)))
    have hO5 := hr.k.1
    obtain ⟨a5, c5, hv5, _⟩ := hO5.at dqT
    rw [HS.out.2.2.1] at hv5
    subst hv5
    have HO5 := Lib.hid hO5
    have HS5 := Lib.hid (HS.out.2.1.mod0 hr.mod)
    clear hr hO5 hq1
    go_upto_region 15 with fail
    have Lkr := lt_size kr
    have Lkp10 := lt_size kp10
    refine wp_pass0 (C := fun _ _ _ => False) (κ := fun i => [0, 1, 3, 5, 0].getD i 0) [0, 1, 2, 3, 4] (by kernel_rfl) (by kernel_rfl) (fun _ _ d _ _ h => by cases d <;> first | exact h | exact absurd h (hP _ _ _)) ?_
    (refine TD.val0 (v := ?v356) (by simp only [zK]; rfl) rfl (by rfl) (fun w1 => ?y356) ?n356; (case y356 => go_simp; try with_reducible rfl); try simp only [Act.put, zL])
    (refine TD.load (v := ?v357) (p := ?p357) (Mod.refl _ _) (by simp only [zK]; rfl) rfl (by rfl) rfl ?hx357 (fun wq hSq => ?y357) ?n357; (case hx357 => simp only [Act.eval, zM]; try rfl); (case y357 => (have krq := hSq.at kr (fun h => h); have kp10q := hSq.at kp10 (fun h => h); go_simp; (try with_reducible rfl))); try simp only [Act.put, zL])
    (refine TD.bslice (by simp only [zK]; rfl) rfl (by rfl) rfl rfl ?hx358 hbd (fun p102 hp102 => ?n358); (case hx358 => (simp only [List.map_toArray, List.map_cons, List.map_nil, Act.eval, zM]; (try rfl))); try simp only [Act.put, zL])
    refine TD.eff (by simp only [zK]; rfl) rfl (fun w15 hr => ?_)
    have kr := hr.mod.at kr (fun h => h)
    have kp10 := hr.mod.at kp10 (fun h => h)
    have kp102 := hr.box p102 _ (by first | exact Bx.set_same _ _ _ | (simp only [Bx.set_same]; rfl)); dsimp only [Value.cells] at kp102; obtain ⟨gp102, kp102⟩ := kp102
    have hone : SlAt dqv 5 w15 (some ⟨p102, 0, none⟩) [(⟨k, num, prio, 0, false⟩ : Dq)] := SlAt.one kp102 _ rfl rfl
    have HM5 := Lib.hid (HM4.out.trans (hr.mod.mono (fun _ _ e => e.elim)))
    have hO6 := HO5.out.mod0 hr.mod
    have hlt7 := hO6.lt
    obtain ⟨v7, w7, hap, hO7, m7, hn7⟩ := SlOwn.append dqT (c := 1) hO6 hone (by rw [HS.out.2.2.1, List.length_singleton]; omega) (by decide) HM5.out.size 67
    rw [List.length_singleton] at hap
    have hfar : ∀ b, b < wa.heap.size → ¬ ((Value.slice a5 k c5).ownBlock = some b) := fun b hb e => by
     have := (hlt7 b e).1
     omega
    have hpl : p10 < wa.heap.size := HPL.out
    have hrl : r < wa.heap.size := HRQ.out.2.2.2.2 r HRQ.out.2.2.1
    have HS7 : Hid (SlAt dqv 5 w7 at2 (L.drop k)) := Lib.hid ((HS5.out.mod0 hr.mod).mod m7 (fun b o e h => hfar b (HRQ.out.2.2.2.2 b (HS.out.2.2.2.2 b o e)) h))
    have HM7 : Hid (Mod (fun i => i = p10) wa w7) := Lib.hid (HM5.out.then m7 (fun i hi e => (hfar i hi e).elim))
    have kr7 := m7.at kr (fun e => hfar r hrl e)
    have kp7 := m7.at kp10 (fun e => hfar p10 hpl e)
    obtain ⟨a7, c7, hv7, _⟩ := hO7.at dqT
    obtain ⟨k1, hk1⟩ : ∃ k1, (L.take k ++ [(⟨k, num, prio, 0, false⟩ : Dq)]).length = k1 := ⟨_, rfl⟩
    rw [hk1] at hv7
    have hk1e : k1 = k + 1 := by rw [← hk1, List.length_append, HS.out.2.2.1]; rfl
    have HO7 := Lib.hid (And.intro hO7 (And.intro hk1 hk1e))
    subst hv7
    clear hr hbd hone hO6 hlt7 hn7 hfar m7 kr kp10 kp102 hO7 hk1 hk1e HS5 HO5
    (refine eff_append (by simp only [zK]; rfl) (by rfl) rfl ?hx360 ?hz360 hap ?n360; (case hx360 => simp only [Act.eval, zM]; try rfl); (case hz360 => simp only [Act.eval, zM]; try rfl); try simp only [Act.put, zL])
    (refine TE.val0 (v := ?v361) (by simp only [zK]; rfl) (by rfl) (fun w1 => ?y361) ?n361; (case y361 => go_simp; try with_reducible rfl); try simp only [Act.put, zL])
    refine TE.nil ?_
    clear hap
    have hfar7 : ∀ b, b < wa.heap.size → ¬ ((Value.slice a7 k1 c7).ownBlock = some b) := fun b hb e => by
     have := (HO7.out.1.lt b e).1
     omega
    have nr7 : ¬ ((Value.slice a7 k1 c7).ownBlock = some r) := hfar7 r hrl
    have np7 : ¬ ((Value.slice a7 k1 c7).ownBlock = some p10) := hfar7 p10 hpl
    have HF7 := Lib.hid hfar7
    have sw7 := HM7.out.size
    clear hfar7
    go_upto_region 16 with fail
    have Lkr7 := lt_size kr7
    have Lkp7 := lt_size kp7
    refine wp_epass (T0 := fun i => (Value.slice a7 k1 c7).ownBlock = some i) (K := OwnD wa.heap.size (L.take k ++ [(⟨k, num, prio, 0, false⟩ : Dq)]) (.slice a7 k1 c7)) (κ := fun i => [0, 0, 0, 0, 0, 0, 0, 0, 0, 6, 0, 0, 6].getD i 0) (υ := fun i => [[], [], [], [], [], [], [], [], [], [], [], [], []].getD i []) [0, 1, 2, 3, 4, 5, 6, 7, 8, 9, 10, 11] [12] (by kernel_rfl) (by kernel_rfl) (goodOwnD wa.heap.size (L.take k ++ [(⟨k, num, prio, 0, false⟩ : Dq)]) (.slice a7 k1 c7)).cl (⟨HO7.out.1, fun g hg => hg⟩) (fun i hi => (HO7.out.1.lt i hi).2) ?_
    have gK := goodOwnD wa.heap.size (L.take k ++ [(⟨k, num, prio, 0, false⟩ : Dq)]) (.slice a7 k1 c7)
    (refine TG.v0 (v := ?v362) (by simp only [zK]; rfl) rfl (by rfl) (fun w1 => ?y362) ?n362; (case y362 => go_simp; try with_reducible rfl); try simp only [Act.put, zL])
    (refine TG.v0 (v := ?v363) (by simp only [zK]; rfl) rfl (by rfl) (fun w1 => ?y363) ?n363; (case y363 => go_simp; try with_reducible rfl); try simp only [Act.put, zL])
    (refine TG.v0 (v := ?v364) (by simp only [zK]; rfl) rfl (by rfl) (fun w1 => ?y364) ?n364; (case y364 => go_simp; try with_reducible rfl); try simp only [Act.put, zL])
    (refine TG.v0 (v := ?v365) (by simp only [zK]; rfl) rfl (by rfl) (fun w1 => ?y365) ?n365; (case y365 => go_simp; try with_reducible rfl); try simp only [Act.put, zL])
    (refine TG.v0 (v := ?v366) (by simp only [zK]; rfl) rfl (by rfl) (fun w1 => ?y366) ?n366; (case y366 => go_simp; try with_reducible rfl); try simp only [Act.put, zL])
    (refine TG.load (v := ?v367) (p := ?p367) (by simp only [zK]; rfl) rfl (by rfl) rfl ?hx367 (fun wq hSq => ?y367) ?n367; (case hx367 => simp only [Act.eval, zM]; try rfl); (case y367 => (have kr7q := hSq.at kr7 (by intro hT; first | exact hT | exact absurd hT (by assumption) | omega | (simp only at hT; omega)); have kp7q := hSq.at kp7 (by intro hT; first | exact hT | exact absurd hT (by assumption) | omega | (simp only at hT; omega)); go_simp; (try with_reducible rfl))); try simp only [Act.put, zL])
    (refine TG.v0 (v := ?v368) (by simp only [zK]; rfl) rfl (by rfl) (fun w1 => ?y368) ?n368; (case y368 => go_simp; try with_reducible rfl); try simp only [Act.put, zL])
    (refine TG.load (v := ?v369) (p := ?p369) (by simp only [zK]; rfl) rfl (by rfl) rfl ?hx369 (fun wq hSq => ?y369) ?n369; (case hx369 => simp only [Act.eval, zM]; try rfl); (case y369 => (have kr7q := hSq.at kr7 (by intro hT; first | exact hT | exact absurd hT (by assumption) | omega | (simp only at hT; omega)); have kp7q := hSq.at kp7 (by intro hT; first | exact hT | exact absurd hT (by assumption) | omega | (simp only at hT; omega)); go_simp; (try with_reducible rfl))); try simp only [Act.put, zL])
    (refine TG.slice (by simp only [zK]; rfl) rfl (by rfl) rfl ?hs370 ?hl370 ?hh370 ?hm370 hq2 ?n370; (case hs370 => simp only [Act.eval, zM]; try rfl); (case hl370 => first | rfl | (simp only [Option.map_some, Act.eval, zM]; (try rfl))); (case hh370 => first | rfl | (simp only [Option.map_some, Act.eval, zM]; (try rfl))); (case hm370 => rfl); try simp only [Act.put, zL])
    (refine TG.appK (X := ?X371) (Y := ?Y371) (OwnD wa.heap.size (L.take k ++ [(⟨k, num, prio, 0, false⟩ : Dq)] ++ L.drop k)) (goodOwnD wa.heap.size (L.take k ++ [(⟨k, num, prio, 0, false⟩ : Dq)] ++ L.drop k)) (by simp only [zK]; rfl) rfl (by rfl) rfl ?hx371 ?hz371 (fun T wq kq ltq hSq ub => ?y371) ?n371; (case hx371 => simp only [Act.eval, zM]; try rfl); (case hz371 => simp only [Act.eval, zM]; try rfl); (case y371 => (have kr7q := hSq.at kr7 (by intro hT; first | exact hT | exact absurd hT (by assumption) | omega | (simp only at hT; omega)); have kp7q := hSq.at kp7 (by intro hT; first | exact hT | exact absurd hT (by assumption) | omega | (simp only at hT; omega)); have hh := app_ownD (c := ct2) kq (HS7.out.mod hSq (fun b o e h => HF7.out b (HRQ.out.2.2.2.2 b (HS.out.2.2.2.2 b o e)) h)) (by rw [HO7.out.2.1, HO7.out.2.2, HS.out.2.2.2.1]; omega) (Nat.le_trans sw7 hSq.size); rw [HS.out.2.2.2.1] at hh; exact hh)); rintro v371 ⟨wI, TI, hI⟩; replace gK := (goodOwnD wa.heap.size (L.take k ++ [(⟨k, num, prio, 0, false⟩ : Dq)] ++ L.drop k)) v371; skip; (try clear hI TI wI); try simp only [Act.put, zL])
    (refine TG.v0 (v := ?v372) (by simp only [zK]; rfl) rfl (by rfl) (fun w1 => ?y372) ?n372; (case y372 => go_simp; try with_reducible rfl); try simp only [Act.put, zL])
    (refine TG.v0 (v := ?v373) (by simp only [zK]; rfl) rfl (by rfl) (fun w1 => ?y373) ?n373; (case y373 => go_simp; try with_reducible rfl); try simp only [Act.put, zL])
    refine TG.nil (fun w16 ⟨TR, hr⟩ => ?_)
    have kr7 := hr.mod.at kr7 (by intro hT; first | exact hT | exact absurd hT (by assumption) | omega | (simp only at hT; omega))
    have kp7 := hr.mod.at kp7 (by intro hT; first | exact hT | exact absurd hT (by assumption) | omega | (simp only at hT; omega))
    clear gK
    have hO9 := hr.k.1
    have HM8 : Hid (Mod (fun i => i = p10) wa w16) := Lib.hid (HM7.out.then hr.mod (fun i hi e => (HF7.out i hi e).elim))
    obtain ⟨a9, c9, hv9, _⟩ := hO9.at dqT
    obtain ⟨n9, hn9⟩ : ∃ n9, (L.take k ++ [(⟨k, num, prio, 0, false⟩ : Dq)] ++ L.drop k).length = n9 := ⟨_, rfl⟩
    rw [hn9] at hv9
    have HO9 := Lib.hid (And.intro hO9 hO9.lt)
    subst hv9
    clear hr hO9 hn9 hq2 nr7 np7
    refine TE.step (by simp only [zK]; rfl) rfl ?_
    (refine eff_store (X := ?X374) (Y := ?Y374) (w' := ?w374) (by simp only [zK]; rfl) (by rfl) rfl ?hx374 ?hz374 ?y374 ?n374; (case hx374 => simp only [Act.eval, zM]; try rfl); (case hz374 => simp only [Act.eval, zM]; try rfl); (case y374 => go_simp; try with_reducible rfl))
    (first | refine TE.nil_set kr7 (fun wn kr7 mS => ?_) | refine TE.nil_setCell kr7 (fun wn kr7 mS => ?_))
    (try simp only [Array.setIfInBounds, zL] at kr7)
    (try simp only [Act.put, zL])
    replace kr7 : wn.heap[r]? = some (.cells #[.int .i64 (n : Int), .slice a9 n9 c9] 69 (0, 0)) := kr7
    replace kp7 := mS.at_ne kp7 (Ne.symm hrp)
    have HM9 : Hid (Mod (fun i => i = p10 ∨ i = r) wa wn) := Lib.hid ((HM8.out.mono (fun _ _ e => .inl e)).trans (mS.mono (fun _ _ e => .inr e)))
    have HO10 := Lib.hid (HO9.out.1.mod mS (fun g hg e => by have := (HO9.out.2 g hg).1; omega))
    have HFIN : Hid (QT r n (docL 0 ((S.set k none).set k (some x))) T w wn) := Lib.hid (by
     have hsz := HM9.out.size
     have hsw := HMT.out.size
     have hlt9 := HO10.out.lt
     have hid : docL 0 ((S.set k none).set k (some x)) = L.take k ++ [(⟨k, num, prio, 0, false⟩ : Dq)] ++ L.drop k := by
      rw [docL_ins HFR.out.1, HX.out, ← HFR.out.2.1]
      simp
     rw [hid]
     exact ⟨fun j => T1 j ∨ (wa.heap.size ≤ j ∧ j < wn.heap.size), ⟨_, kr7, HO10.out.low (Nat.zero_le _), .inl HRQ.out.2.2.1, fun g hg => .inr (hlt9 g hg)⟩, HMT.out.then HM9.out (fun i hi e => e.elim (fun h => by have := HPG.out; omega) (fun h => h ▸ HTR.out)), fun j hj => hj.elim (HT1.out j) (fun h => .inr (Nat.le_trans hsw h.1)), fun j hj => hj.elim (fun h => Nat.lt_of_lt_of_le (HRQ.out.2.2.2.2 j h) hsz) (fun h => h.2)⟩)
    clear mS kr7 HO9 HO7 HS7
    go_wp2_with fail
    exact bodyPost_ret (results_tmp3 rfl _ _ _) rfl ⟨p62, rfl, HZ62.out _ HM9.out, (by have h := HFIN.out; rwa [List.set_set] at h)⟩
end
end Go.Proofs.YtdeghpmlhcaedaaGreatDoor
namespace Go.Proofs.YtdeghpmlhcaedaaGreatDoor
open Go.RowKit Go.Sort
open Go.ChangeMaps (setBlock)
attribute [local go_sem] cell_blk frozen_blk one_int one_bool one_ptr one_slice one_map Value.cells
set_option maxHeartbeats 1600000 in
theorem sameT_c {a1 a2 : Option Addr} {c1 c2 m : Nat} {l : List Int64} {w : World} (h1 : SlAt ic 1 w a1 l) (h2 : SlAt ic 1 w a2 l) (hm : l.length = m) (hm2 : m ≤ 4096) : Calls Tryz.prog 17 #[.slice a1 m c1, .slice a2 m c2] w fun e w' => e = .returned (.bool true) ∧ Mod (fun _ => False) w w' := by
 have H := Lib.hid (And.intro h1 (And.intro h2 hm))
 clear h1 h2 hm
 go_enter Tryz.func17, Tryz.ntmps17
 go_wp2_with fail
 go_loopw [5] (fun s5 ws => ∃ i : Nat, i ≤ m ∧ s5 = .int .i64 (i : Int) ∧ Mod (fun _ => False) w ws) (fun s5 _ => m - (intOf s5).toNat)
 case atStart => exact ⟨0, by omega, rfl, Mod.refl _ _⟩
 case round =>
  obtain ⟨i, hi, rfl, hmw⟩ := hrel
  by_cases hlt : i < m
  ·obtain ⟨x, hx⟩ : ∃ x, l[i]? = some x := ⟨_, List.getElem?_eq_getElem (by rw [H.out.2.2]; exact hlt)⟩
   obtain ⟨g1, o1, C1, U1, fr1, rfl, k1, he1, _⟩ := (H.out.1.mod0 hmw).block hx
   obtain ⟨g2, o2, C2, U2, fr2, rfl, k2, he2, _⟩ := (H.out.2.1.mod0 hmw).block hx
   have q1 : C1[o1 + i]? = some (.int .i64 x.toInt) := by have h0 := cellC he1 (j := 0) (v := .int .i64 x.toInt) rfl; simpa using h0
   have q2 : C2[o2 + i]? = some (.int .i64 x.toInt) := by have h0 := cellC he2 (j := 0) (v := .int .i64 x.toInt) rfl; simpa using h0
   clear he1 he2 hx
   go_upto_region 4 with fail
   have Lk1 := lt_size k1
   have Lk2 := lt_size k2
   refine wp_pass (C := fun _ _ _ => False) (κ := fun i => [0, 0, 0, 1, 0, 0, 0, 1, 0].getD i 0) [0, 1, 2, 3, 4, 5, 6, 7, 8] (by kernel_rfl) (by kernel_rfl) (fun _ _ d _ _ h => by cases d <;> first | exact h | exact absurd h (hP _ _ _)) ?_
   (refine TD.val0 (v := ?v1) (by simp only [zK]; rfl) rfl (by rfl) (fun w1 => ?y1) ?n1; (case y1 => go_simp; try with_reducible rfl); try simp only [Act.put, zL])
   (refine TD.val0 (v := ?v2) (by simp only [zK]; rfl) rfl (by rfl) (fun w1 => ?y2) ?n2; (case y2 => go_simp; try with_reducible rfl); try simp only [Act.put, zL])
   (refine TD.val0 (v := ?v3) (by simp only [zK]; rfl) rfl (by rfl) (fun w1 => ?y3) ?n3; (case y3 => go_simp; try with_reducible rfl); try simp only [Act.put, zL])
   (refine TD.load (v := ?v4) (p := ?p4) (Mod.refl _ _) (by simp only [zK]; rfl) rfl (by rfl) rfl ?hx4 (fun wq hSq => ?y4) ?n4; (case hx4 => simp only [Act.eval, zM]; try rfl); (case y4 => (have k1q := hSq.at k1 (fun h => h); have k2q := hSq.at k2 (fun h => h); go_simp; (try with_reducible rfl))); try simp only [Act.put, zL])
   (refine TD.val0 (v := ?v5) (by simp only [zK]; rfl) rfl (by rfl) (fun w1 => ?y5) ?n5; (case y5 => go_simp; try with_reducible rfl); try simp only [Act.put, zL])
   (refine TD.val0 (v := ?v6) (by simp only [zK]; rfl) rfl (by rfl) (fun w1 => ?y6) ?n6; (case y6 => go_simp; try with_reducible rfl); try simp only [Act.put, zL])
   (refine TD.val0 (v := ?v7) (by simp only [zK]; rfl) rfl (by rfl) (fun w1 => ?y7) ?n7; (case y7 => go_simp; try with_reducible rfl); try simp only [Act.put, zL])
   (refine TD.load (v := ?v8) (p := ?p8) (Mod.refl _ _) (by simp only [zK]; rfl) rfl (by rfl) rfl ?hx8 (fun wq hSq => ?y8) ?n8; (case hx8 => simp only [Act.eval, zM]; try rfl); (case y8 => (have k1q := hSq.at k1 (fun h => h); have k2q := hSq.at k2 (fun h => h); go_simp; (try with_reducible rfl))); try simp only [Act.put, zL])
   (refine TD.val0 (v := ?v9) (by simp only [zK]; rfl) rfl (by rfl) (fun w1 => ?y9) ?n9; (case y9 => go_simp; try with_reducible rfl); try simp only [Act.put, zL])
   refine TD.nil (fun w2 hr => ?_)
   have k1 := hr.mod.at k1 (fun h => h)
   have k2 := hr.mod.at k2 (fun h => h)
   have mm := hmw.then0 hr.mod
   clear hr
   go_wp2_with fail
   go_roundw
   case rel => exact ⟨i + 1, by omega, by go_num, mm⟩
   case measure => simp [intOf]; omega
  ·obtain rfl : i = m := by omega
   go_wp2_with fail
   go_ret
   exact ⟨rfl, hmw⟩
def IntL (m : Nat) (l : List Int64) (v : Value) : Land := fun T w => ∃ a c, v = .slice a m c ∧ SlAt ic 1 w a l ∧ ∀ x o, a = some ⟨x, o, none⟩ → T x
theorem goodInt (m : Nat) (l : List Int64) (v : Value) : Good (IntL m l v) where
 cl := fun T w w' ⟨a, c, e, h, ht⟩ hm => ⟨a, c, e, h.mod hm (fun b o e hn => hn (ht b o e)), ht⟩
 gr := fun T T' w hT ⟨a, c, e, h, ht⟩ => ⟨a, c, e, h, fun x o hx => hT x (ht x o hx)⟩
theorem IntL.out {m c : Nat} {l : List Int64} {a : Option Addr} {T : Nat → Prop} {w : World} (h : IntL m l (.slice a m c) T w) : SlAt ic 1 w a l := by
 obtain ⟨a2, c2, e, h2, _⟩ := h
 injection e with e1 _ _
 subst e1
 exact h2
theorem int_own {l : List Int64} {m : Nat} (hm : l.length = m) {v : Value} {w w' : World} {T : Nat → Prop} (h : SlOwn ic 1 3 w' w.heap.size v l) : IntL m l v (Grow T w w') w' := by
 obtain ⟨a, c, e, hs, hb, _⟩ := h.at intT
 rw [hm] at e
 exact ⟨a, c, e, hs, fun x o ex => .inr ⟨(hb _ ex).1, (hb _ ex).2.1⟩⟩
theorem int_new {l : List Int64} {m : Nat} (hm : l.length = m) {v : Value} {w w' : World} {T : Nat → Prop} (h : NewS ic 1 3 w.heap.size w' v l) : IntL m l v (Grow T w w') w' := by
 obtain ⟨a, e, hs, hb⟩ := h.at
 rw [hm] at e
 exact ⟨a, m, e, hs, fun x o ex => .inr (hb x o ex)⟩
def FdL (base : Nat) (c : It) (v : Value) : Land := fun T w => ∃ z : ItR, v = .tuple #[.agg (itr z), .int .i64 0] ∧ z.con = c ∧ RdNew base w z.r ∧ RdIn T z.r
theorem goodFd (base : Nat) (c : It) (v : Value) : Good (FdL base c v) where
 cl := fun T w w' h hm => by
  obtain ⟨x, e, hc, hn, hi⟩ := h
  exact ⟨x, e, hc, hn.mod hm hi (fun i hi hn => hn hi), hi⟩
 gr := fun T T' w hT h => by
  obtain ⟨x, e, hc, hn, hi⟩ := h
  exact ⟨x, e, hc, hn, hi.mono hT⟩
theorem findL {w0 wq : World} {O : Nat → Prop} {b : Nat} {S : List (Option It)} (H : BH w0 O b S wq) {i : Nat} {x : It} (hx : S[i]? = some (some x)) {base : Nat} (hb : base ≤ wq.heap.size) (T : Nat → Prop) : Calls Tryz.prog 31 #[ptrV b, .int .i64 (i : Int)] wq fun e w' => ∃ v, e = .returned v ∧ Mod (fun _ => False) wq w' ∧ FdL base x v (Grow T wq w') w' :=
 (bfindY_c H hx).mono fun e w' h => by
  obtain ⟨z, hc, hn, he, hm⟩ := h
  exact ⟨_, he, hm, z, rfl, hc, hn.lower hb, hn.inn.mono (fun i hi => .inr hi)⟩
theorem NewS.row {α : Type} {f : α → Array Value} {n : Nat} {E : TypeId} {base : Nat} {w : World} {a : Option Addr} {l : List α} {m c : Nat} (h : NewS f n E base w (.slice a m c) l) {x : α} (hx : l[0]? = some x) : ∃ g C, a = some ⟨g, 0, none⟩ ∧ base ≤ g ∧ w.heap[g]? = some (.cells C E (0, 0)) ∧ C.extract 0 n = f x ∧ n ≤ C.size := by
 rcases h with ⟨_, rfl⟩ | ⟨g, cur, e, hb, hg, hc⟩
 ·cases hx
 ·injection e with e1 _ _
  have h2 := hc 0 x hx
  exact ⟨g, cur, e1, hb, hg, by simpa using h2.1, by simpa using h2.2⟩
theorem cell0 {C cs : Array Value} {n : Nat} (he : C.extract 0 n = cs) {j : Nat} {v : Value} (hj : cs[j]? = some v) : C[j]? = some v := by
 have h := cellC (o := 0) (n := n) (by rw [Nat.zero_add]; exact he) hj
 rwa [Nat.zero_add] at h
theorem itr_at (y : ItR) {j : Nat} {v : Value} (h : (rdr y.r)[j]? = some v) : (itr y)[1 + j]? = some v := cellC (o := 1) (n := 48) (itr_r y) h
theorem u8_inc (v : UInt8) : ∃ v' : UInt8, IntKind.u8.wrap ((v.toNat : Int) + 1) = (v'.toNat : Int) :=
 ⟨v + 1, by
  have := v.toNat_lt
  have h1 : (1 : UInt8).toNat = 1 := rfl
  rw [IntKind.wrap_u8, UInt8.toNat_add, h1]
  omega⟩
def bt (n : UInt64) : UInt8 := UInt8.ofNat n.toNat
theorem bt_wrap (n : UInt64) : IntKind.u8.wrap (n.toNat : Int) = ((bt n).toNat : Int) := by
 rw [IntKind.wrap_u8]
 unfold bt
 rw [UInt8.toNat_ofNat']
 omega
theorem find_rows {base : Nat} {w : World} {z : ItR} {x : It} (hc : z.con = x) (hn : RdNew base w z.r) (hx : x.r = rdy x.r.prio (bt x.n)) : ∃ (Y Cb Cr : Array Value) (gb gr cb cr : Nat), Y = itr z ∧ Y[0]? = some (u64v x.n) ∧ Y[48]? = some (u64v x.r.prio) ∧ (∃ p : UInt8, Y[49]? = some (u8v p) ∧ x.pl = p.toNat) ∧ Y[50]? = some (.bool x.sent) ∧ Y[1]? = some (.slice (some ⟨gb, 0, none⟩) 1 cb) ∧ Y[42]? = some (.slice (some ⟨gr, 0, none⟩) 1 cr) ∧
  base ≤ gb ∧ base ≤ gr ∧ w.heap[gb]? = some (.cells Cb 5 (0, 0)) ∧ Cb[0]? = some (u8v (bt x.n)) ∧ w.heap[gr]? = some (.cells Cr 91 (0, 0)) ∧ Cr[33]? = some (.bool true) := by
 subst hc
 have hb : z.r.b.l = [bt z.n] := congrArg RdC.b hx
 have hr : z.r.ro.l = [rolW] := congrArg RdC.ro hx
 obtain ⟨gb, Cb, e1, u1, k1, x1, s1⟩ := hn.b.row (x := bt z.n) (by rw [hb]; rfl)
 obtain ⟨gr, Cr, e2, u2, k2, x2, s2⟩ := hn.ro.row (x := rolW) (by rw [hr]; rfl)
 refine ⟨_, Cb, Cr, gb, gr, z.r.b.c, z.r.ro.c, rfl, itr_n z, itr_prio z, ⟨z.pl, itr_pl z, rfl⟩, itr_sent z, ?_, ?_, u1, u2, k1, cell0 x1 rfl, k2, cell0 x2 rfl⟩
 ·rw [itr_at (j := 0) z (rdr0 z.r), hb, e1]
  rfl
 ·rw [itr_at (j := 41) z (rdr41 z.r), hr, e2]
  rfl
theorem srt_of {S : List (Option It)} (hS : S.length ≤ 4096) : ∃ D, D.Perm (wtg 0 S) ∧ Srt D := by
 have h := wtg_ids (S := S) (k := 0) (by omega)
 refine srt_exists _ ?_
 unfold List.Nodup at h ⊢
 rw [List.pairwise_map] at h
 exact h.imp (fun hne e => hne (by rw [e]))
def BDL (b r n : Nat) (S1 S2 : List (Option It)) : Land := fun T w => ∃ T1 T2, BO b S1 T1 w ∧ RQ r n (docL 0 S2) T2 w ∧ (∀ i, T1 i → T i ∧ ¬ T2 i) ∧ (∀ i, T2 i → T i) ∧ ∀ i, T2 i → i < w.heap.size
theorem goodBD (b r n : Nat) (S1 S2 : List (Option It)) : Good (BDL b r n S1 S2) where
 cl := by
  rintro T w w' ⟨T1, T2, hA, hR, h1, h2, h4⟩ hm
  exact ⟨T1, T2, hA.modT hm (fun i hi hn => hn (h1 i hi).1), (RQ.good r n (docL 0 S2)).cl T2 w w' hR (hm.mono (fun i _ hn ht => hn (h2 i ht))), h1, h2, fun i hi => Nat.lt_of_lt_of_le (h4 i hi) hm.size⟩
 gr := by
  rintro T T' w hT ⟨T1, T2, hA, hR, h1, h2, h4⟩
  exact ⟨T1, T2, hA, hR, fun i hi => ⟨hT i (h1 i hi).1, (h1 i hi).2⟩, fun i hi => hT i (h2 i hi), h4⟩
section
variable {b r n : Nat} {S1 S2 S' : List (Option It)} {T T1 T2 : Nat → Prop} {w w' : World}
theorem BDL.stepB (hA : BO b S1 T1 w) (hR : RQ r n (docL 0 S2) T2 w) (h1 : ∀ i, T1 i → T i ∧ ¬ T2 i) (h2 : ∀ i, T2 i → T i) (h4 : ∀ i, T2 i → i < w.heap.size) {T1' : Nat → Prop} (hA' : BO b S' T1' w') (hm : Mod T1 w w') (g1 : ∀ i, T1' i → T1 i ∨ w.heap.size ≤ i) :
  Mod T w w' ∧ BDL b r n S' S2 (Grow T w w') w' := by
 refine ⟨hm.mono (fun i _ e => (h1 i e).1), T1', T2, hA', (RQ.good r n (docL 0 S2)).cl T2 w w' hR (hm.mono (fun i _ e ht => (h1 i e).2 ht)), fun i hi => ?_, fun i hi => .inl (h2 i hi), fun i hi => Nat.lt_of_lt_of_le (h4 i hi) hm.size⟩
 rcases g1 i hi with e | e
 ·exact ⟨.inl (h1 i e).1, (h1 i e).2⟩
 ·exact ⟨.inr ⟨e, hA'.lt i hi⟩, fun ht => by have := h4 i ht; omega⟩
theorem BDL.stepQ (hA : BO b S1 T1 w) (h1 : ∀ i, T1 i → T i ∧ ¬ T2 i) (h2 : ∀ i, T2 i → T i) (hq : QT r n (docL 0 S') T2 w w') :
  Mod T w w' ∧ BDL b r n S1 S' (Grow T w w') w' := by
 obtain ⟨T2', hR', hm, g1, g2⟩ := hq
 refine ⟨hm.mono (fun i _ e => h2 i e), T1, T2', hA.modT hm (fun i ht e => (h1 i ht).2 e), hR', fun i hi => ⟨.inl (h1 i hi).1, fun ht => ?_⟩, fun i hi => ?_, g2⟩
 ·rcases g1 i ht with e | e
  ·exact (h1 i hi).2 e
  ·have := hA.lt i hi
   omega
 ·rcases g1 i hi with e | e
  ·exact .inl (h2 i e)
  ·exact .inr ⟨e, g2 i hi⟩
theorem QT.of {L : List Dq} (hR : RQ r n L T2 w') (hm : Mod T2 w w') (h4 : ∀ i, T2 i → i < w.heap.size) : QT r n L T2 w w' := ⟨T2, hR, hm, fun i hi => .inl hi, fun i hi => Nat.lt_of_lt_of_le (h4 i hi) hm.size⟩
theorem BDL.doB (H : BDL b r n S1 S2 T w) {f : FuncId} {args : Array Value} {v : Value} (hf : ∀ O, BH w O b S1 w → (0 < w.heap.size ∧ ¬ O 0) → Calls Tryz.prog f args w fun e w' => e = .returned v ∧ BH w O b S' w') : Calls Tryz.prog f args w fun e w' => ∃ u, e = .returned u ∧ Mod T w w' ∧ (u = v ∧ BDL b r n S' S2 (Grow T w w') w') := by
 obtain ⟨T1, T2, hA, hR, h1, h2, h4⟩ := H
 refine (hf T1 hA.bh hA.h0).mono ?_
 rintro e w' ⟨he, hB⟩
 obtain ⟨T1', hA', hm, g1⟩ := hA.then hB
 obtain ⟨q1, q2⟩ := BDL.stepB hA hR h1 h2 h4 hA' hm g1
 exact ⟨_, he, q1, rfl, q2⟩
theorem BDL.doQ (H : BDL b r n S1 S2 T w) {f : FuncId} {args : Array Value} {v : Value} (hf : ∀ T2, RQ r n (docL 0 S2) T2 w → (∀ i, T2 i → i < w.heap.size) → Calls Tryz.prog f args w fun e w' => e = .returned v ∧ QT r n (docL 0 S') T2 w w') : Calls Tryz.prog f args w fun e w' => ∃ u, e = .returned u ∧ Mod T w w' ∧ (u = v ∧ BDL b r n S1 S' (Grow T w w') w') := by
 obtain ⟨T1, T2, hA, hR, h1, h2, h4⟩ := H
 refine (hf T2 hR h4).mono ?_
 rintro e w' ⟨he, hq⟩
 obtain ⟨q1, q2⟩ := BDL.stepQ hA h1 h2 hq
 exact ⟨_, he, q1, rfl, q2⟩
end
end Go.Proofs.YtdeghpmlhcaedaaGreatDoor
namespace Go.Proofs.YtdeghpmlhcaedaaGreatDoor
open Go.RowKit Go.Sort
open Go.ChangeMaps (setBlock)
attribute [local go_sem ↓] wlDq ldDq stDq wlItem ldItem stItem
attribute [local go_sem] cell_blk frozen_blk one_int one_bool one_ptr one_slice one_map Value.cells dqv_size dqv_all dqv_one dqv_one' zDq_size zDq_one dqv_0 dqv_1 dqv_2 dqv_3 dqv_4 itr_size itr_all itr_one itr_one' zItem_size zItem_all zItem_one
set_option maxRecDepth 20000 in
set_option maxHeartbeats 25600000 in
theorem alike_c {b r n : Nat} {S : List (Option It)} {T1 T2 : Nat → Prop} {w : World} (hA : BO b S T1 w) (hR : RQ r n (docL 0 S) T2 w) (hS : S.length ≤ 4096) (ht : TabW w) (hcon : ∀ (i : Nat) (x : It), S[i]? = some (some x) → x.r = rdy x.r.prio (bt x.n)) (id : Int) :
  Calls Tryz.prog 8 #[ptrV b, ptrV r, .int .i64 id] w fun e w' => e = .returned (.bool true) ∧ Mod (fun _ => False) w w' := by
 obtain ⟨D, hD, hSr⟩ := srt_of hS
 obtain ⟨nl, hnl⟩ : ∃ nl, (docL 0 S).length = nl := ⟨_, rfl⟩
 have hcnt : S.countP Option.isSome = nl := by rw [← hnl, docL_len]
 obtain ⟨md, hmd⟩ : ∃ md, (D.map Nd.id).length = md := ⟨_, rfl⟩
 obtain ⟨mp, hmp⟩ : ∃ mp, ((pkd S).map idn).length = mp := ⟨_, rfl⟩
 have hmd2 : md ≤ 4096 := by
  rw [← hmd, List.length_map, hD.length_eq]
  exact Nat.le_trans wtg_len hS
 have hmp2 : mp ≤ 4096 := by
  rw [← hmp, List.length_map]
  unfold pkd
  refine Nat.le_trans (List.length_filter_le _ _) ?_
  rw [List.length_range]
  exact hS
 have hnl2 : nl ≤ 4096 := by rw [← hnl]; exact docL_le hS
 obtain ⟨a, c, kr, hs⟩ := hR.sl
 rw [hnl] at kr
 have HKR := Lib.hid kr
 have H := Lib.hid (And.intro hA (And.intro hR (And.intro hS (And.intro ht hcon))))
 have HD := Lib.hid (And.intro hD (And.intro hSr (And.intro hmd (And.intro hmp (And.intro hcnt (And.intro hmd2 (And.intro hmp2 hnl)))))))
 have HS := Lib.hid hs
 clear hA hR hS ht hcon hD hSr hmd hmp hcnt hmd2 hmp2 hnl hs
 go_enter Tryz.func8, Tryz.ntmps8
 go_upto_region 1 with fail
 have Lkr := lt_size kr
 refine wp_gpass (T0 := fun _ => False) (K := fun _ _ => True) (κ := fun i => [0, 6, 0, 0, 0, 0, 0, 0, 0, 0, 6, 0, 6, 6, 0, 0, 0, 0, 6, 0, 6, 6, 0, 0].getD i 0) (υ := fun i => [[], [], [], [], [], [], [], [], [], [], [], [], [], [], [], [], [], [], [], [], [], [], [], []].getD i []) [0, 1, 2, 3, 4, 5, 6, 7, 8, 9, 10, 11, 12, 13, 14, 15, 16, 17, 18, 19, 20, 21, 22, 23] (by kernel_rfl) (by kernel_rfl) (Good.true).cl (trivial) (fun _ h => h.elim) ?_
 have gK := Good.true
 (refine TG.v0 (v := ?v1) (by simp only [zK]; rfl) rfl (by rfl) (fun w1 => ?y1) ?n1; (case y1 => go_simp; try with_reducible rfl); try simp only [Act.put, zL])
 (refine TG.callN (f := ?f2) (args := ?r2) (fun v => v = .int .i64 (nl : Int)) gK (by simp only [zK]; rfl) rfl (by rfl) (fun w1 => ?y2) (fun T wq kq ltq hSq ub => ?hsp2) ?n2; (case y2 => (go_simp; (first | with_reducible rfl | (constructor <;> with_reducible rfl)))); (case hsp2 => (have krq := hSq.at kr (fun h => h); exact (blen_c (H.out.1.mod0 hSq).bh).mono (fun e w' h => ⟨_, h.1, by rw [HD.out.2.2.2.2.1], h.2⟩))); rintro v2 hC; subst hC; try simp only [Act.put, zL])
 (refine TG.v0 (v := ?v3) (by simp only [zK]; rfl) rfl (by rfl) (fun w1 => ?y3) ?n3; (case y3 => go_simp; try with_reducible rfl); try simp only [Act.put, zL])
 (refine TG.v0 (v := ?v4) (by simp only [zK]; rfl) rfl (by rfl) (fun w1 => ?y4) ?n4; (case y4 => go_simp; try with_reducible rfl); try simp only [Act.put, zL])
 (refine TG.v0 (v := ?v5) (by simp only [zK]; rfl) rfl (by rfl) (fun w1 => ?y5) ?n5; (case y5 => go_simp; try with_reducible rfl); try simp only [Act.put, zL])
 (refine TG.load (v := ?v6) (p := ?p6) (by simp only [zK]; rfl) rfl (by rfl) rfl ?hx6 (fun wq hSq => ?y6) ?n6; (case hx6 => simp only [Act.eval, zM]; try rfl); (case y6 => (have krq := hSq.at kr (fun h => h); go_simp; (try with_reducible rfl))); try simp only [Act.put, zL])
 (refine TG.v0 (v := ?v7) (by simp only [zK]; rfl) rfl (by rfl) (fun w1 => ?y7) ?n7; (case y7 => go_simp; try with_reducible rfl); try simp only [Act.put, zL])
 (refine TG.v0 (v := ?v8) (by simp only [zK]; rfl) rfl (by rfl) (fun w1 => ?y8) ?n8; (case y8 => go_simp; try with_reducible rfl); try simp only [Act.put, zL])
 (refine TG.v0 (v := ?v9) (by simp only [zK]; rfl) rfl (by rfl) (fun w1 => ?y9) ?n9; (case y9 => go_simp; try with_reducible rfl); try simp only [Act.put, zL])
 (refine TG.v0 (v := ?v10) (by simp only [zK]; rfl) rfl (by rfl) (fun w1 => ?y10) ?n10; (case y10 => go_simp; try with_reducible rfl); try simp only [Act.put, zL])
 (refine TG.callM (f := ?f11) (args := ?r11) (IntL md (D.map Nd.id)) (goodInt md (D.map Nd.id)) gK (by simp only [zK]; rfl) rfl (by rfl) (fun w1 => ?y11) (fun T wq kq ltq hSq ub => ?hsp11) ?n11; (case y11 => (go_simp; (first | with_reducible rfl | (constructor <;> with_reducible rfl)))); (case hsp11 => (have krq := hSq.at kr (fun h => h); exact (bwait_c (H.out.1.mod0 hSq).bh HD.out.1 HD.out.2.1).mono (fun e w' h => by obtain ⟨v, h1, h2, h3⟩ := h; exact ⟨v, h1, h3, int_own HD.out.2.2.1 h2⟩))); rintro v11 ⟨wI, TI, hI⟩; replace gK := gK.and ((goodInt md (D.map Nd.id)) v11); (obtain ⟨_, aa, ca, rfl, _⟩ := hI.k); (try clear hI TI wI); try simp only [Act.put, zL])
 (refine TG.v0 (v := ?v12) (by simp only [zK]; rfl) rfl (by rfl) (fun w1 => ?y12) ?n12; (case y12 => go_simp; try with_reducible rfl); try simp only [Act.put, zL])
 (refine TG.callM (f := ?f13) (args := ?r13) (IntL md (D.map Nd.id)) (goodInt md (D.map Nd.id)) gK (by simp only [zK]; rfl) rfl (by rfl) (fun w1 => ?y13) (fun T wq kq ltq hSq ub => ?hsp13) ?n13; (case y13 => (go_simp; (first | with_reducible rfl | (constructor <;> with_reducible rfl)))); (case hsp13 => (have krq := hSq.at kr (fun h => h); exact (qwait_c (H.out.2.1.mod0 hSq) H.out.2.2.1 HD.out.1 HD.out.2.1).mono (fun e w' h => by obtain ⟨v, h1, h2, h3⟩ := h; exact ⟨v, h1, h3, int_own HD.out.2.2.1 h2⟩))); rintro v13 ⟨wI, TI, hI⟩; replace gK := gK.and ((goodInt md (D.map Nd.id)) v13); (obtain ⟨_, ab, cb, rfl, _⟩ := hI.k); (try clear hI TI wI); try simp only [Act.put, zL])
 (refine TG.callN (f := ?f14) (args := ?r14) (fun v => v = .bool true) gK (by simp only [zK]; rfl) rfl (by rfl) (fun w1 => ?y14) (fun T wq kq ltq hSq ub => ?hsp14) ?n14; (case y14 => (go_simp; (first | with_reducible rfl | (constructor <;> with_reducible rfl)))); (case hsp14 => (have krq := hSq.at kr (fun h => h); exact (sameT_c kq.1.2.out kq.2.out HD.out.2.2.1 HD.out.2.2.2.2.2.1).mono (fun e w' h => ⟨_, h.1, rfl, h.2⟩))); rintro v14 hC; subst hC; try simp only [Act.put, zL])
 (refine TG.v0 (v := ?v15) (by simp only [zK]; rfl) rfl (by rfl) (fun w1 => ?y15) ?n15; (case y15 => go_simp; try with_reducible rfl); try simp only [Act.put, zL])
 (refine TG.v0 (v := ?v16) (by simp only [zK]; rfl) rfl (by rfl) (fun w1 => ?y16) ?n16; (case y16 => go_simp; try with_reducible rfl); try simp only [Act.put, zL])
 (refine TG.v0 (v := ?v17) (by simp only [zK]; rfl) rfl (by rfl) (fun w1 => ?y17) ?n17; (case y17 => go_simp; try with_reducible rfl); try simp only [Act.put, zL])
 (refine TG.v0 (v := ?v18) (by simp only [zK]; rfl) rfl (by rfl) (fun w1 => ?y18) ?n18; (case y18 => go_simp; try with_reducible rfl); try simp only [Act.put, zL])
 (refine TG.callM (f := ?f19) (args := ?r19) (IntL mp ((pkd S).map idn)) (goodInt mp ((pkd S).map idn)) gK (by simp only [zK]; rfl) rfl (by rfl) (fun w1 => ?y19) (fun T wq kq ltq hSq ub => ?hsp19) ?n19; (case y19 => (go_simp; (first | with_reducible rfl | (constructor <;> with_reducible rfl)))); (case hsp19 => (have krq := hSq.at kr (fun h => h); exact (bparked_c (H.out.1.mod0 hSq).bh (H.out.2.2.2.1.mod0 hSq)).mono (fun e w' h => by obtain ⟨v, h1, h2, h3⟩ := h; exact ⟨v, h1, h3, int_new HD.out.2.2.2.1 h2⟩))); rintro v19 ⟨wI, TI, hI⟩; replace gK := gK.and ((goodInt mp ((pkd S).map idn)) v19); (obtain ⟨_, ac, cc, rfl, _⟩ := hI.k); (try clear hI TI wI); try simp only [Act.put, zL])
 (refine TG.v0 (v := ?v20) (by simp only [zK]; rfl) rfl (by rfl) (fun w1 => ?y20) ?n20; (case y20 => go_simp; try with_reducible rfl); try simp only [Act.put, zL])
 (refine TG.callM (f := ?f21) (args := ?r21) (IntL mp ((pkd S).map idn)) (goodInt mp ((pkd S).map idn)) gK (by simp only [zK]; rfl) rfl (by rfl) (fun w1 => ?y21) (fun T wq kq ltq hSq ub => ?hsp21) ?n21; (case y21 => (go_simp; (first | with_reducible rfl | (constructor <;> with_reducible rfl)))); (case hsp21 => (have krq := hSq.at kr (fun h => h); exact (qparked_c (H.out.2.1.mod0 hSq) H.out.2.2.1).mono (fun e w' h => by obtain ⟨v, h1, h2, h3⟩ := h; exact ⟨v, h1, h3, int_own HD.out.2.2.2.1 h2⟩))); rintro v21 ⟨wI, TI, hI⟩; replace gK := gK.and ((goodInt mp ((pkd S).map idn)) v21); (obtain ⟨_, ad, cd, rfl, _⟩ := hI.k); (try clear hI TI wI); try simp only [Act.put, zL])
 (refine TG.callN (f := ?f22) (args := ?r22) (fun v => v = .bool true) gK (by simp only [zK]; rfl) rfl (by rfl) (fun w1 => ?y22) (fun T wq kq ltq hSq ub => ?hsp22) ?n22; (case y22 => (go_simp; (first | with_reducible rfl | (constructor <;> with_reducible rfl)))); (case hsp22 => (have krq := hSq.at kr (fun h => h); exact (sameT_c kq.1.2.out kq.2.out HD.out.2.2.2.1 HD.out.2.2.2.2.2.2.1).mono (fun e w' h => ⟨_, h.1, rfl, h.2⟩))); rintro v22 hC; subst hC; try simp only [Act.put, zL])
 (refine TG.v0 (v := ?v23) (by simp only [zK]; rfl) rfl (by rfl) (fun w1 => ?y23) ?n23; (case y23 => go_simp; try with_reducible rfl); try simp only [Act.put, zL])
 (refine TG.v0 (v := ?v24) (by simp only [zK]; rfl) rfl (by rfl) (fun w1 => ?y24) ?n24; (case y24 => go_simp; try with_reducible rfl); try simp only [Act.put, zL])
 refine TG.nil (fun w1 ⟨TR, hr⟩ => ?_)
 have kr := hr.mod.at kr (fun h => h)
 clear gK
 have m1 := hr.mod
 clear hr
 obtain ⟨er, her⟩ : ∃ er : Int, (∀ wq, Mod (fun _ => False) w1 wq → Calls Tryz.prog 31 #[ptrV b, .int .i64 id] wq fun e w' => ∃ v, e = .returned v ∧ (∃ z : ItR, v = .tuple #[.agg (itr z), .int .i64 er]) ∧ Mod (fun _ => False) wq w') ∧
   ∀ wq, Mod (fun _ => False) w1 wq → Calls Tryz.prog 32 #[ptrV r, .int .i64 id] wq fun e w' => ∃ v, e = .returned v ∧ (∃ y : Dq, v = .tuple #[.agg (dqv y), .int .i64 er]) ∧ Mod (fun _ => False) wq w' := by
  rcases away_or S id with h | ⟨i, x, rfl, hx⟩
  ·refine ⟨11, fun wq hq => (bfindN_c (H.out.1.mod0 (m1.then0 hq)).bh h).mono (fun e w' h => ?_), fun wq hq => (qfindN_c (H.out.2.1.mod0 (m1.then0 hq)) H.out.2.2.1 h).mono (fun e w' h => ⟨_, h.1, ⟨⟨0, 0, 0, 0, false⟩, rfl⟩, h.2⟩)⟩
   obtain ⟨z, _, _, h1, h2⟩ := h
   exact ⟨_, h1, ⟨z, rfl⟩, h2⟩
  ·refine ⟨0, fun wq hq => (bfindY_c (H.out.1.mod0 (m1.then0 hq)).bh hx).mono (fun e w' h => ?_), fun wq hq => (qfindY_c (H.out.2.1.mod0 (m1.then0 hq)) H.out.2.2.1 hx).mono (fun e w' h => ⟨_, h.1, ⟨_, rfl⟩, h.2⟩)⟩
   obtain ⟨z, _, _, h1, h2⟩ := h
   exact ⟨_, h1, ⟨z, rfl⟩, h2⟩
 have HER := Lib.hid her
 clear her
 go_upto_region 3 with fail
 have Lkr := lt_size kr
 refine wp_gpass0 (T0 := fun _ => False) (K := fun _ _ => True) (κ := fun i => [0, 0, 6, 0, 0, 0, 3, 4, 0].getD i 0) (υ := fun i => [[], [], [], [], [], [], [], [], []].getD i []) [0, 1, 2, 3, 4, 5, 6, 7, 8] (by kernel_rfl) (by kernel_rfl) (Good.true).cl (trivial) (fun _ h => h.elim) ?_
 have gK := Good.true
 (refine TG.v0 (v := ?v25) (by simp only [zK]; rfl) rfl (by rfl) (fun w1 => ?y25) ?n25; (case y25 => go_simp; try with_reducible rfl); try simp only [Act.put, zL])
 (refine TG.v0 (v := ?v26) (by simp only [zK]; rfl) rfl (by rfl) (fun w1 => ?y26) ?n26; (case y26 => go_simp; try with_reducible rfl); try simp only [Act.put, zL])
 (refine TG.callN (f := ?f27) (args := ?r27) (fun v => ∃ z : ItR, v = .tuple #[.agg (itr z), .int .i64 er]) gK (by simp only [zK]; rfl) rfl (by rfl) (fun w1 => ?y27) (fun T wq kq ltq hSq ub => ?hsp27) ?n27; (case y27 => (go_simp; (first | with_reducible rfl | (constructor <;> with_reducible rfl)))); (case hsp27 => (have krq := hSq.at kr (fun h => h); exact HER.out.1 wq hSq)); rintro v27 hC; (obtain ⟨z0, rfl⟩ := hC); try simp only [Act.put, zL])
 (refine TG.v0 (v := ?v28) (by simp only [zK]; rfl) rfl (by rfl) (fun w1 => ?y28) ?n28; (case y28 => go_simp; try with_reducible rfl); try simp only [Act.put, zL])
 (refine TG.v0 (v := ?v29) (by simp only [zK]; rfl) rfl (by rfl) (fun w1 => ?y29) ?n29; (case y29 => go_simp; try with_reducible rfl); try simp only [Act.put, zL])
 (refine TG.v0 (v := ?v30) (by simp only [zK]; rfl) rfl (by rfl) (fun w1 => ?y30) ?n30; (case y30 => go_simp; try with_reducible rfl); try simp only [Act.put, zL])
 (refine TG.allocB (by simp only [zK]; rfl) rfl (by rfl) rfl rfl alItem (fun p7 hp7 _ => ?n31); try simp only [Act.put, zL])
 (refine TG.storeB (d := ?d32) (T := ?T32) (y := ?y32) (p := ?p32) (b := ?b32) (v := ?v32) (by simp only [zK]; rfl) rfl (by rfl) ?hd32 ?hop32 ?hev32 ?hx32 ?hb32 ?htag32 (fun w1 hb1 => ?hy32) ?hn32; (case hd32 => rfl); (case hop32 => rfl); (case hev32 => (simp only [Act.eval, zM]; (try rfl))); (case hx32 => simp only [Act.eval, zM]; try rfl); (case hb32 => first | exact Bx.set_same _ _ _ | (simp only [Bx.set_same]; rfl)); (case htag32 => rfl); (case hy32 => (go_simp; (try first | with_reducible rfl | (rw [setCell_blk hb1]; rfl)))); try simp only [Act.put, zL])
 (refine TG.v0 (v := ?v33) (by simp only [zK]; rfl) rfl (by rfl) (fun w1 => ?y33) ?n33; (case y33 => go_simp; try with_reducible rfl); try simp only [Act.put, zL])
 refine TG.nil (fun w3 ⟨TR, hr⟩ => ?_)
 have kr := hr.mod.at kr (fun h => h)
 have kp7 := hr.box p7 _ (by first | exact Bx.set_same _ _ _ | (simp only [Bx.set_same]; rfl)); dsimp only [Value.cells] at kp7; obtain ⟨gp7, nTp7, kp7⟩ := kp7
 clear gK
 have m3 := hr.mod
 clear hr
 go_upto_region 4 with fail
 have Lkr := lt_size kr
 refine wp_gpass0 (T0 := fun _ => False) (K := fun _ _ => True) (κ := fun i => [0, 0, 6, 0, 0, 0, 3, 4, 0].getD i 0) (υ := fun i => [[], [], [], [], [], [], [], [], []].getD i []) [0, 1, 2, 3, 4, 5, 6, 7, 8] (by kernel_rfl) (by kernel_rfl) (Good.true).cl (trivial) (fun _ h => h.elim) ?_
 have gK := Good.true
 (refine TG.v0 (v := ?v34) (by simp only [zK]; rfl) rfl (by rfl) (fun w1 => ?y34) ?n34; (case y34 => go_simp; try with_reducible rfl); try simp only [Act.put, zL])
 (refine TG.v0 (v := ?v35) (by simp only [zK]; rfl) rfl (by rfl) (fun w1 => ?y35) ?n35; (case y35 => go_simp; try with_reducible rfl); try simp only [Act.put, zL])
 (refine TG.callN (f := ?f36) (args := ?r36) (fun v => ∃ y : Dq, v = .tuple #[.agg (dqv y), .int .i64 er]) gK (by simp only [zK]; rfl) rfl (by rfl) (fun w1 => ?y36) (fun T wq kq ltq hSq ub => ?hsp36) ?n36; (case y36 => (go_simp; (first | with_reducible rfl | (constructor <;> with_reducible rfl)))); (case hsp36 => (have krq := hSq.at kr (fun h => h); exact HER.out.2 wq (m3.then0 hSq))); rintro v36 hC; (obtain ⟨y0, rfl⟩ := hC); try simp only [Act.put, zL])
 (refine TG.v0 (v := ?v37) (by simp only [zK]; rfl) rfl (by rfl) (fun w1 => ?y37) ?n37; (case y37 => go_simp; try with_reducible rfl); try simp only [Act.put, zL])
 (refine TG.v0 (v := ?v38) (by simp only [zK]; rfl) rfl (by rfl) (fun w1 => ?y38) ?n38; (case y38 => go_simp; try with_reducible rfl); try simp only [Act.put, zL])
 (refine TG.v0 (v := ?v39) (by simp only [zK]; rfl) rfl (by rfl) (fun w1 => ?y39) ?n39; (case y39 => go_simp; try with_reducible rfl); try simp only [Act.put, zL])
 (refine TG.allocB (by simp only [zK]; rfl) rfl (by rfl) rfl rfl alDq (fun p9 hp9 _ => ?n40); try simp only [Act.put, zL])
 (refine TG.storeB (d := ?d41) (T := ?T41) (y := ?y41) (p := ?p41) (b := ?b41) (v := ?v41) (by simp only [zK]; rfl) rfl (by rfl) ?hd41 ?hop41 ?hev41 ?hx41 ?hb41 ?htag41 (fun w1 hb1 => ?hy41) ?hn41; (case hd41 => rfl); (case hop41 => rfl); (case hev41 => (simp only [Act.eval, zM]; (try rfl))); (case hx41 => simp only [Act.eval, zM]; try rfl); (case hb41 => first | exact Bx.set_same _ _ _ | (simp only [Bx.set_same]; rfl)); (case htag41 => rfl); (case hy41 => (go_simp; (try first | with_reducible rfl | (rw [setCell_blk hb1]; rfl)))); try simp only [Act.put, zL])
 (refine TG.v0 (v := ?v42) (by simp only [zK]; rfl) rfl (by rfl) (fun w1 => ?y42) ?n42; (case y42 => go_simp; try with_reducible rfl); try simp only [Act.put, zL])
 refine TG.nil (fun w4 ⟨TR, hr⟩ => ?_)
 have kr := hr.mod.at kr (fun h => h)
 have kp9 := hr.box p9 _ (by first | exact Bx.set_same _ _ _ | (simp only [Bx.set_same]; rfl)); dsimp only [Value.cells] at kp9; obtain ⟨gp9, nTp9, kp9⟩ := kp9
 clear gK
 have m4 := m1.then0 (m3.then0 hr.mod)
 clear hr m1 m3 HER kp7 kp9
 have HM := Lib.hid m4
 clear m4
 go_wp2_with fail
 go_loopw [11, 12, 13, 14] (fun s11 _ _ _ ws => ∃ i : Nat, i ≤ nl ∧ s11 = .int .i64 (i : Int) ∧ Hid (Mod (fun _ => False) w ws)) (fun s11 _ _ _ _ => nl - (intOf s11).toNat)
 case atStart => exact ⟨0, by omega, rfl, HM⟩
 case round =>
  clear HM kr
  obtain ⟨i, hi, rfl, HM⟩ := hrel
  have kr := HM.out.at0 HKR.out
  by_cases hlt : i < nl
  ·obtain ⟨y, hy⟩ : ∃ y, (docL 0 S)[i]? = some y := ⟨_, List.getElem?_eq_getElem (by rw [HD.out.2.2.2.2.2.2.2]; exact hlt)⟩
   obtain ⟨x, hx, hyx, hpos⟩ := docL_pos hy
   clear hpos
   obtain ⟨g, oo, C, U, fr, rfl, kl, he, hle⟩ := (HS.out.mod0 HM.out).block hy
   have hcx := H.out.2.2.2.2 _ _ hx
   obtain ⟨k, hk⟩ : ∃ k, y.id = k := ⟨_, rfl⟩
   rw [hk] at hx hyx
   rw [hyx] at he
   have HXY := Lib.hid (And.intro hx hcx)
   clear hy hx hcx hk hyx
   go_upto_region 10 with fail
   have Lkr := lt_size kr
   have Lkl := lt_size kl
   refine wp_pass0 (C := fun _ _ _ => False) (κ := fun i => [0, 0, 0, 1, 0, 0, 1, 3, 4].getD i 0) [0, 1, 2, 3, 4, 5, 6, 7, 8] (by kernel_rfl) (by kernel_rfl) (fun _ _ d _ _ h => by cases d <;> first | exact h | exact absurd h (hP _ _ _)) ?_
   (refine TD.val0 (v := ?v43) (by simp only [zK]; rfl) rfl (by rfl) (fun w1 => ?y43) ?n43; (case y43 => go_simp; try with_reducible rfl); try simp only [Act.put, zL])
   (refine TD.val0 (v := ?v44) (by simp only [zK]; rfl) rfl (by rfl) (fun w1 => ?y44) ?n44; (case y44 => go_simp; try with_reducible rfl); try simp only [Act.put, zL])
   (refine TD.val0 (v := ?v45) (by simp only [zK]; rfl) rfl (by rfl) (fun w1 => ?y45) ?n45; (case y45 => go_simp; try with_reducible rfl); try simp only [Act.put, zL])
   (refine TD.load (v := ?v46) (p := ?p46) (Mod.refl _ _) (by simp only [zK]; rfl) rfl (by rfl) rfl ?hx46 (fun wq hSq => ?y46) ?n46; (case hx46 => simp only [Act.eval, zM]; try rfl); (case y46 => (have krq := hSq.at kr (fun h => h); have klq := hSq.at kl (fun h => h); go_simp; (try with_reducible rfl))); try simp only [Act.put, zL])
   (refine TD.val0 (v := ?v47) (by simp only [zK]; rfl) rfl (by rfl) (fun w1 => ?y47) ?n47; (case y47 => go_simp; try with_reducible rfl); try simp only [Act.put, zL])
   (refine TD.val0 (v := ?v48) (by simp only [zK]; rfl) rfl (by rfl) (fun w1 => ?y48) ?n48; (case y48 => go_simp; try with_reducible rfl); try simp only [Act.put, zL])
   (refine TD.load (v := ?v49) (p := ?p49) (Mod.refl _ _) (by simp only [zK]; rfl) rfl (by rfl) rfl ?hx49 (fun wq hSq => ?y49) ?n49; (case hx49 => simp only [Act.eval, zM]; try rfl); (case y49 => (have krq := hSq.at kr (fun h => h); have klq := hSq.at kl (fun h => h); go_simp; (try with_reducible rfl))); try simp only [Act.put, zL])
   (refine TD.allocB (by simp only [zK]; rfl) rfl (by rfl) rfl rfl alDq (fun p12 hp12 => ?n50); try simp only [Act.put, zL])
   (refine TD.storeB (d := ?d51) (T := ?T51) (y := ?y51) (p := ?p51) (b := ?b51) (v := ?v51) (by simp only [zK]; rfl) rfl (by rfl) ?hd51 ?hop51 ?hev51 ?hx51 ?hb51 ?htag51 (fun w1 hb1 => ?hy51) ?hn51; (case hd51 => rfl); (case hop51 => rfl); (case hev51 => (simp only [Act.eval, zM]; (try rfl))); (case hx51 => simp only [Act.eval, zM]; try rfl); (case hb51 => first | exact Bx.set_same _ _ _ | (simp only [Bx.set_same]; rfl)); (case hy51 => (go_simp; (try first | with_reducible rfl | (rw [setCell_blk hb1]; rfl)))); try simp only [Act.put, zL])
   refine TD.nil (fun w10 hr => ?_)
   have kr := hr.mod.at kr (fun h => h)
   have kl := hr.mod.at kl (fun h => h)
   have kp12 := hr.box p12 _ (by first | exact Bx.set_same _ _ _ | (simp only [Bx.set_same]; rfl)); dsimp only [Value.cells] at kp12; obtain ⟨gp12, kp12⟩ := kp12
   have HM10 := Lib.hid (HM.out.then0 hr.mod)
   obtain ⟨W, hW, W0, W1, W2, W3, W4⟩ : ∃ W : Array Value, W = dqv (dOf k x) ∧ W[0]? = some (.int .i64 (k : Int)) ∧ W[1]? = some (u64v x.n) ∧ W[2]? = some (u64v x.r.prio) ∧ W[3]? = some (.int .i64 (x.pl : Int)) ∧ W[4]? = some (.bool x.sent) := ⟨_, rfl, rfl, rfl, rfl, rfl, rfl⟩
   rw [← hW] at kp12
   have hrlt := lt_size kr
   obtain ⟨bs, hbs⟩ : ∃ q, q = w10.heap.size := ⟨_, rfl⟩
   have HBS := Lib.hid hbs
   clear hr hW he kl hle kr hbs
   go_upto_region 11 with fail
   have Lkp12 := lt_size kp12
   refine wp_gpass0 (T0 := fun _ => False) (K := fun _ _ => True) (κ := fun i => [0, 0, 0, 6, 0, 0, 0, 3, 4, 0].getD i 0) (υ := fun i => [[], [], [], [], [], [], [], [], [], []].getD i []) [0, 1, 2, 3, 4, 5, 6, 7, 8, 9] (by kernel_rfl) (by kernel_rfl) (Good.true).cl (trivial) (fun _ h => h.elim) ?_
   have gK := Good.true
   (refine TG.v0 (v := ?v52) (by simp only [zK]; rfl) rfl (by rfl) (fun w1 => ?y52) ?n52; (case y52 => go_simp; try with_reducible rfl); try simp only [Act.put, zL])
   (refine TG.v0 (v := ?v53) (by simp only [zK]; rfl) rfl (by rfl) (fun w1 => ?y53) ?n53; (case y53 => go_simp; try with_reducible rfl); try simp only [Act.put, zL])
   (refine TG.load (v := ?v54) (p := ?p54) (by simp only [zK]; rfl) rfl (by rfl) rfl ?hx54 (fun wq hSq => ?y54) ?n54; (case hx54 => simp only [Act.eval, zM]; try rfl); (case y54 => (have kp12q := hSq.at kp12 (fun h => h); go_simp; (try with_reducible rfl))); try simp only [Act.put, zL])
   (refine TG.callM (f := ?f55) (args := ?r55) (FdL bs x) (goodFd bs x) gK (by simp only [zK]; rfl) rfl (by rfl) (fun w1 => ?y55) (fun T wq kq ltq hSq ub => ?hsp55) ?n55; (case y55 => (go_simp; (first | with_reducible rfl | (constructor <;> with_reducible rfl)))); (case hsp55 => (have kp12q := hSq.at kp12 (fun h => h); exact findL (H.out.1.mod0 (HM10.out.then0 hSq)).bh HXY.out.1 (by rw [HBS.out]; exact hSq.size) T)); rintro v55 ⟨wI, TI, hI⟩; replace gK := gK.and ((goodFd bs x) v55); (obtain ⟨_, z0, rfl, _⟩ := hI.k); (try clear hI TI wI); try simp only [Act.put, zL])
   (refine TG.v0 (v := ?v56) (by simp only [zK]; rfl) rfl (by rfl) (fun w1 => ?y56) ?n56; (case y56 => go_simp; try with_reducible rfl); try simp only [Act.put, zL])
   (refine TG.v0 (v := ?v57) (by simp only [zK]; rfl) rfl (by rfl) (fun w1 => ?y57) ?n57; (case y57 => go_simp; try with_reducible rfl); try simp only [Act.put, zL])
   (refine TG.v0 (v := ?v58) (by simp only [zK]; rfl) rfl (by rfl) (fun w1 => ?y58) ?n58; (case y58 => go_simp; try with_reducible rfl); try simp only [Act.put, zL])
   (refine TG.allocB (by simp only [zK]; rfl) rfl (by rfl) rfl rfl alItem (fun p13 hp13 _ => ?n59); try simp only [Act.put, zL])
   (refine TG.storeB (d := ?d60) (T := ?T60) (y := ?y60) (p := ?p60) (b := ?b60) (v := ?v60) (by simp only [zK]; rfl) rfl (by rfl) ?hd60 ?hop60 ?hev60 ?hx60 ?hb60 ?htag60 (fun w1 hb1 => ?hy60) ?hn60; (case hd60 => rfl); (case hop60 => rfl); (case hev60 => (simp only [Act.eval, zM]; (try rfl))); (case hx60 => simp only [Act.eval, zM]; try rfl); (case hb60 => first | exact Bx.set_same _ _ _ | (simp only [Bx.set_same]; rfl)); (case htag60 => rfl); (case hy60 => (go_simp; (try first | with_reducible rfl | (rw [setCell_blk hb1]; rfl)))); try simp only [Act.put, zL])
   (refine TG.v0 (v := ?v61) (by simp only [zK]; rfl) rfl (by rfl) (fun w1 => ?y61) ?n61; (case y61 => go_simp; try with_reducible rfl); try simp only [Act.put, zL])
   refine TG.nil (fun w11 ⟨TR, hr⟩ => ?_)
   have kp12 := hr.mod.at kp12 (fun h => h)
   have kp13 := hr.box p13 _ (by first | exact Bx.set_same _ _ _ | (simp only [Bx.set_same]; rfl)); dsimp only [Value.cells] at kp13; obtain ⟨gp13, nTp13, kp13⟩ := kp13
   clear gK
   obtain ⟨_, z1, e1, hc1, hn1, _⟩ := hr.k
   have e2 : itr z0 = itr z1 := by
    injection e1 with e1
    have e3 := congrArg (fun x : Array Value => x[0]?) e1
    simpa using e3
   rw [e2] at kp13
   obtain ⟨Y, Cb, Cr, gb, gr, cb, cr, hY, Y0, Y48, ⟨pp, Y49, hpp⟩, Y50, Y1, Y42, ub, ur, kb, qb, krr, qr⟩ := find_rows hc1 hn1 HXY.out.2
   rw [← hY] at kp13
   rw [hpp] at W3
   have HM11 := Lib.hid (HM10.out.then0 hr.mod)
   have hwp : IntKind.i64.wrap (pp.toNat : Int) = (pp.toNat : Int) := by
    have := pp.toNat_lt
    rw [IntKind.wrap_i64]
    omega
   have hbt := bt_wrap x.n
   have HUB := Lib.hid (And.intro ub ur)
   clear hr e1 e2 hc1 hn1 hY hpp ub ur hrlt
   go_upto_region 12 with fail
   have Lkp12 := lt_size kp12
   have Lkp13 := lt_size kp13
   have Lkb := lt_size kb
   have Lkrr := lt_size krr
   refine wp_pass (C := fun _ _ _ => False) (κ := fun i => [0, 0, 0, 0, 1, 0, 1, 0, 0, 0, 0, 0, 1, 0, 1, 0, 0, 0, 0, 1, 0, 0, 1, 0, 0, 0, 0, 1, 0, 1, 0, 0, 0, 0, 0, 1, 0, 0, 0, 0, 0, 0, 1, 0, 1, 0, 1, 0, 0, 0, 0, 0, 0, 1, 0, 0, 0, 0, 0, 0, 1, 0, 0, 1, 0, 0].getD i 0) [0, 1, 2, 3, 4, 5, 6, 7, 8, 9, 10, 11, 12, 13, 14, 15, 16, 17, 18, 19, 20, 21, 22, 23, 24, 25, 26, 27, 28, 29, 30, 31, 32, 33, 34, 35, 36, 37, 38, 39, 40, 41, 42, 43, 44, 45, 46, 47, 48, 49, 50, 51, 52, 53, 54, 55, 56, 57, 58, 59, 60, 61, 62, 63, 64, 65] (by kernel_rfl) (by kernel_rfl) (fun _ _ d _ _ h => by cases d <;> first | exact h | exact absurd h (hP _ _ _)) ?_
   (refine TD.val0 (v := ?v62) (by simp only [zK]; rfl) rfl (by rfl) (fun w1 => ?y62) ?n62; (case y62 => go_simp; try with_reducible rfl); try simp only [Act.put, zL])
   (refine TD.val0 (v := ?v63) (by simp only [zK]; rfl) rfl (by rfl) (fun w1 => ?y63) ?n63; (case y63 => go_simp; try with_reducible rfl); try simp only [Act.put, zL])
   (refine TD.val0 (v := ?v64) (by simp only [zK]; rfl) rfl (by rfl) (fun w1 => ?y64) ?n64; (case y64 => go_simp; try with_reducible rfl); try simp only [Act.put, zL])
   (refine TD.val0 (v := ?v65) (by simp only [zK]; rfl) rfl (by rfl) (fun w1 => ?y65) ?n65; (case y65 => go_simp; try with_reducible rfl); try simp only [Act.put, zL])
   (refine TD.load (v := ?v66) (p := ?p66) (Mod.refl _ _) (by simp only [zK]; rfl) rfl (by rfl) rfl ?hx66 (fun wq hSq => ?y66) ?n66; (case hx66 => simp only [Act.eval, zM]; try rfl); (case y66 => (have kp12q := hSq.at kp12 (fun h => h); have kp13q := hSq.at kp13 (fun h => h); have kbq := hSq.at kb (fun h => h); have krrq := hSq.at krr (fun h => h); go_simp; (try with_reducible rfl))); try simp only [Act.put, zL])
   (refine TD.val0 (v := ?v67) (by simp only [zK]; rfl) rfl (by rfl) (fun w1 => ?y67) ?n67; (case y67 => go_simp; try with_reducible rfl); try simp only [Act.put, zL])
   (refine TD.load (v := ?v68) (p := ?p68) (Mod.refl _ _) (by simp only [zK]; rfl) rfl (by rfl) rfl ?hx68 (fun wq hSq => ?y68) ?n68; (case hx68 => simp only [Act.eval, zM]; try rfl); (case y68 => (have kp12q := hSq.at kp12 (fun h => h); have kp13q := hSq.at kp13 (fun h => h); have kbq := hSq.at kb (fun h => h); have krrq := hSq.at krr (fun h => h); go_simp; (try with_reducible rfl))); try simp only [Act.put, zL])
   (refine TD.val0 (v := ?v69) (by simp only [zK]; rfl) rfl (by rfl) (fun w1 => ?y69) ?n69; (case y69 => go_simp; try with_reducible rfl); try simp only [Act.put, zL])
   (refine TD.val0 (v := ?v70) (by simp only [zK]; rfl) rfl (by rfl) (fun w1 => ?y70) ?n70; (case y70 => go_simp; try with_reducible rfl); try simp only [Act.put, zL])
   (refine TD.val0 (v := ?v71) (by simp only [zK]; rfl) rfl (by rfl) (fun w1 => ?y71) ?n71; (case y71 => go_simp; try with_reducible rfl); try simp only [Act.put, zL])
   (refine TD.val0 (v := ?v72) (by simp only [zK]; rfl) rfl (by rfl) (fun w1 => ?y72) ?n72; (case y72 => go_simp; try with_reducible rfl); try simp only [Act.put, zL])
   (refine TD.val0 (v := ?v73) (by simp only [zK]; rfl) rfl (by rfl) (fun w1 => ?y73) ?n73; (case y73 => go_simp; try with_reducible rfl); try simp only [Act.put, zL])
   (refine TD.load (v := ?v74) (p := ?p74) (Mod.refl _ _) (by simp only [zK]; rfl) rfl (by rfl) rfl ?hx74 (fun wq hSq => ?y74) ?n74; (case hx74 => simp only [Act.eval, zM]; try rfl); (case y74 => (have kp12q := hSq.at kp12 (fun h => h); have kp13q := hSq.at kp13 (fun h => h); have kbq := hSq.at kb (fun h => h); have krrq := hSq.at krr (fun h => h); go_simp; (try with_reducible rfl))); try simp only [Act.put, zL])
   (refine TD.val0 (v := ?v75) (by simp only [zK]; rfl) rfl (by rfl) (fun w1 => ?y75) ?n75; (case y75 => go_simp; try with_reducible rfl); try simp only [Act.put, zL])
   (refine TD.load (v := ?v76) (p := ?p76) (Mod.refl _ _) (by simp only [zK]; rfl) rfl (by rfl) rfl ?hx76 (fun wq hSq => ?y76) ?n76; (case hx76 => simp only [Act.eval, zM]; try rfl); (case y76 => (have kp12q := hSq.at kp12 (fun h => h); have kp13q := hSq.at kp13 (fun h => h); have kbq := hSq.at kb (fun h => h); have krrq := hSq.at krr (fun h => h); go_simp; (try with_reducible rfl))); try simp only [Act.put, zL])
   (refine TD.val0 (v := ?v77) (by simp only [zK]; rfl) rfl (by rfl) (fun w1 => ?y77) ?n77; (case y77 => go_simp; try with_reducible rfl); try simp only [Act.put, zL])
   (refine TD.val0 (v := ?v78) (by simp only [zK]; rfl) rfl (by rfl) (fun w1 => ?y78) ?n78; (case y78 => go_simp; try with_reducible rfl); try simp only [Act.put, zL])
   (refine TD.val0 (v := ?v79) (by simp only [zK]; rfl) rfl (by rfl) (fun w1 => ?y79) ?n79; (case y79 => go_simp; try with_reducible rfl); try simp only [Act.put, zL])
   (refine TD.val0 (v := ?v80) (by simp only [zK]; rfl) rfl (by rfl) (fun w1 => ?y80) ?n80; (case y80 => go_simp; try with_reducible rfl); try simp only [Act.put, zL])
   (refine TD.load (v := ?v81) (p := ?p81) (Mod.refl _ _) (by simp only [zK]; rfl) rfl (by rfl) rfl ?hx81 (fun wq hSq => ?y81) ?n81; (case hx81 => simp only [Act.eval, zM]; try rfl); (case y81 => (have kp12q := hSq.at kp12 (fun h => h); have kp13q := hSq.at kp13 (fun h => h); have kbq := hSq.at kb (fun h => h); have krrq := hSq.at krr (fun h => h); go_simp; (try with_reducible rfl))); try simp only [Act.put, zL])
   (refine TD.val0 (v := ?v82) (by simp only [zK]; rfl) rfl (by rfl) (fun w1 => ?y82) ?n82; (case y82 => go_simp; try with_reducible rfl); try simp only [Act.put, zL])
   (refine TD.val0 (v := ?v83) (by simp only [zK]; rfl) rfl (by rfl) (fun w1 => ?y83) ?n83; (case y83 => go_simp; try with_reducible rfl); try simp only [Act.put, zL])
   (refine TD.load (v := ?v84) (p := ?p84) (Mod.refl _ _) (by simp only [zK]; rfl) rfl (by rfl) rfl ?hx84 (fun wq hSq => ?y84) ?n84; (case hx84 => simp only [Act.eval, zM]; try rfl); (case y84 => (have kp12q := hSq.at kp12 (fun h => h); have kp13q := hSq.at kp13 (fun h => h); have kbq := hSq.at kb (fun h => h); have krrq := hSq.at krr (fun h => h); go_simp; (try with_reducible rfl))); try simp only [Act.put, zL])
   (refine TD.val0 (v := ?v85) (by simp only [zK]; rfl) rfl (by rfl) (fun w1 => ?y85) ?n85; (case y85 => go_simp; try with_reducible rfl); try simp only [Act.put, zL])
   (refine TD.val0 (v := ?v86) (by simp only [zK]; rfl) rfl (by rfl) (fun w1 => ?y86) ?n86; (case y86 => go_simp; try with_reducible rfl); try simp only [Act.put, zL])
   (refine TD.val0 (v := ?v87) (by simp only [zK]; rfl) rfl (by rfl) (fun w1 => ?y87) ?n87; (case y87 => go_simp; try with_reducible rfl); try simp only [Act.put, zL])
   (refine TD.val0 (v := ?v88) (by simp only [zK]; rfl) rfl (by rfl) (fun w1 => ?y88) ?n88; (case y88 => go_simp; try with_reducible rfl); try simp only [Act.put, zL])
   (refine TD.load (v := ?v89) (p := ?p89) (Mod.refl _ _) (by simp only [zK]; rfl) rfl (by rfl) rfl ?hx89 (fun wq hSq => ?y89) ?n89; (case hx89 => simp only [Act.eval, zM]; try rfl); (case y89 => (have kp12q := hSq.at kp12 (fun h => h); have kp13q := hSq.at kp13 (fun h => h); have kbq := hSq.at kb (fun h => h); have krrq := hSq.at krr (fun h => h); go_simp; (try with_reducible rfl))); try simp only [Act.put, zL])
   (refine TD.val0 (v := ?v90) (by simp only [zK]; rfl) rfl (by rfl) (fun w1 => ?y90) ?n90; (case y90 => go_simp; try with_reducible rfl); try simp only [Act.put, zL])
   (refine TD.load (v := ?v91) (p := ?p91) (Mod.refl _ _) (by simp only [zK]; rfl) rfl (by rfl) rfl ?hx91 (fun wq hSq => ?y91) ?n91; (case hx91 => simp only [Act.eval, zM]; try rfl); (case y91 => (have kp12q := hSq.at kp12 (fun h => h); have kp13q := hSq.at kp13 (fun h => h); have kbq := hSq.at kb (fun h => h); have krrq := hSq.at krr (fun h => h); go_simp; (try with_reducible rfl))); try simp only [Act.put, zL])
   (refine TD.val0 (v := ?v92) (by simp only [zK]; rfl) rfl (by rfl) (fun w1 => ?y92) ?n92; (case y92 => go_simp; try with_reducible rfl); try simp only [Act.put, zL])
   (refine TD.val0 (v := ?v93) (by simp only [zK]; rfl) rfl (by rfl) (fun w1 => ?y93) ?n93; (case y93 => go_simp; try with_reducible rfl); try simp only [Act.put, zL])
   (refine TD.val0 (v := ?v94) (by simp only [zK]; rfl) rfl (by rfl) (fun w1 => ?y94) ?n94; (case y94 => go_simp; try with_reducible rfl); try simp only [Act.put, zL])
   (refine TD.val0 (v := ?v95) (by simp only [zK]; rfl) rfl (by rfl) (fun w1 => ?y95) ?n95; (case y95 => go_simp; try with_reducible rfl); try simp only [Act.put, zL])
   (refine TD.val0 (v := ?v96) (by simp only [zK]; rfl) rfl (by rfl) (fun w1 => ?y96) ?n96; (case y96 => go_simp; try with_reducible rfl); try simp only [Act.put, zL])
   (refine TD.load (v := ?v97) (p := ?p97) (Mod.refl _ _) (by simp only [zK]; rfl) rfl (by rfl) rfl ?hx97 (fun wq hSq => ?y97) ?n97; (case hx97 => simp only [Act.eval, zM]; try rfl); (case y97 => (have kp12q := hSq.at kp12 (fun h => h); have kp13q := hSq.at kp13 (fun h => h); have kbq := hSq.at kb (fun h => h); have krrq := hSq.at krr (fun h => h); go_simp; (try with_reducible rfl))); try simp only [Act.put, zL])
   (refine TD.val0 (v := ?v98) (by simp only [zK]; rfl) rfl (by rfl) (fun w1 => ?y98) ?n98; (case y98 => go_simp; try with_reducible rfl); try simp only [Act.put, zL])
   (refine TD.val0 (v := ?v99) (by simp only [zK]; rfl) rfl (by rfl) (fun w1 => ?y99) ?n99; (case y99 => go_simp; try with_reducible rfl); try simp only [Act.put, zL])
   (refine TD.val0 (v := ?v100) (by simp only [zK]; rfl) rfl (by rfl) (fun w1 => ?y100) ?n100; (case y100 => go_simp; try with_reducible rfl); try simp only [Act.put, zL])
   (refine TD.val0 (v := ?v101) (by simp only [zK]; rfl) rfl (by rfl) (fun w1 => ?y101) ?n101; (case y101 => go_simp; try with_reducible rfl); try simp only [Act.put, zL])
   (refine TD.val0 (v := ?v102) (by simp only [zK]; rfl) rfl (by rfl) (fun w1 => ?y102) ?n102; (case y102 => go_simp; try with_reducible rfl); try simp only [Act.put, zL])
   (refine TD.val0 (v := ?v103) (by simp only [zK]; rfl) rfl (by rfl) (fun w1 => ?y103) ?n103; (case y103 => go_simp; try with_reducible rfl); try simp only [Act.put, zL])
   (refine TD.load (v := ?v104) (p := ?p104) (Mod.refl _ _) (by simp only [zK]; rfl) rfl (by rfl) rfl ?hx104 (fun wq hSq => ?y104) ?n104; (case hx104 => simp only [Act.eval, zM]; try rfl); (case y104 => (have kp12q := hSq.at kp12 (fun h => h); have kp13q := hSq.at kp13 (fun h => h); have kbq := hSq.at kb (fun h => h); have krrq := hSq.at krr (fun h => h); go_simp; (try with_reducible rfl))); try simp only [Act.put, zL])
   (refine TD.val0 (v := ?v105) (by simp only [zK]; rfl) rfl (by rfl) (fun w1 => ?y105) ?n105; (case y105 => go_simp; try with_reducible rfl); try simp only [Act.put, zL])
   (refine TD.load (v := ?v106) (p := ?p106) (Mod.refl _ _) (by simp only [zK]; rfl) rfl (by rfl) rfl ?hx106 (fun wq hSq => ?y106) ?n106; (case hx106 => simp only [Act.eval, zM]; try rfl); (case y106 => (have kp12q := hSq.at kp12 (fun h => h); have kp13q := hSq.at kp13 (fun h => h); have kbq := hSq.at kb (fun h => h); have krrq := hSq.at krr (fun h => h); go_simp; (try with_reducible rfl))); try simp only [Act.put, zL])
   (refine TD.val0 (v := ?v107) (by simp only [zK]; rfl) rfl (by rfl) (fun w1 => ?y107) ?n107; (case y107 => go_simp; try with_reducible rfl); try simp only [Act.put, zL])
   (refine TD.load (v := ?v108) (p := ?p108) (Mod.refl _ _) (by simp only [zK]; rfl) rfl (by rfl) rfl ?hx108 (fun wq hSq => ?y108) ?n108; (case hx108 => simp only [Act.eval, zM]; try rfl); (case y108 => (have kp12q := hSq.at kp12 (fun h => h); have kp13q := hSq.at kp13 (fun h => h); have kbq := hSq.at kb (fun h => h); have krrq := hSq.at krr (fun h => h); go_simp; (try with_reducible rfl))); try simp only [Act.put, zL])
   (refine TD.val0 (v := ?v109) (by simp only [zK]; rfl) rfl (by rfl) (fun w1 => ?y109) ?n109; (case y109 => go_simp; try with_reducible rfl); try simp only [Act.put, zL])
   (refine TD.val0 (v := ?v110) (by simp only [zK]; rfl) rfl (by rfl) (fun w1 => ?y110) ?n110; (case y110 => go_simp; try with_reducible rfl); try simp only [Act.put, zL])
   (refine TD.val0 (v := ?v111) (by simp only [zK]; rfl) rfl (by rfl) (fun w1 => ?y111) ?n111; (case y111 => go_simp; try with_reducible rfl); try simp only [Act.put, zL])
   (refine TD.val0 (v := ?v112) (by simp only [zK]; rfl) rfl (by rfl) (fun w1 => ?y112) ?n112; (case y112 => go_simp; try with_reducible rfl); try simp only [Act.put, zL])
   (refine TD.val0 (v := ?v113) (by simp only [zK]; rfl) rfl (by rfl) (fun w1 => ?y113) ?n113; (case y113 => go_simp; try with_reducible rfl); try simp only [Act.put, zL])
   (refine TD.val0 (v := ?v114) (by simp only [zK]; rfl) rfl (by rfl) (fun w1 => ?y114) ?n114; (case y114 => go_simp; try with_reducible rfl); try simp only [Act.put, zL])
   (refine TD.load (v := ?v115) (p := ?p115) (Mod.refl _ _) (by simp only [zK]; rfl) rfl (by rfl) rfl ?hx115 (fun wq hSq => ?y115) ?n115; (case hx115 => simp only [Act.eval, zM]; try rfl); (case y115 => (have kp12q := hSq.at kp12 (fun h => h); have kp13q := hSq.at kp13 (fun h => h); have kbq := hSq.at kb (fun h => h); have krrq := hSq.at krr (fun h => h); go_simp; (try with_reducible rfl))); try simp only [Act.put, zL])
   (refine TD.val0 (v := ?v116) (by simp only [zK]; rfl) rfl (by rfl) (fun w1 => ?y116) ?n116; (case y116 => go_simp; try with_reducible rfl); try simp only [Act.put, zL])
   (refine TD.val0 (v := ?v117) (by simp only [zK]; rfl) rfl (by rfl) (fun w1 => ?y117) ?n117; (case y117 => go_simp; try with_reducible rfl); try simp only [Act.put, zL])
   (refine TD.val0 (v := ?v118) (by simp only [zK]; rfl) rfl (by rfl) (fun w1 => ?y118) ?n118; (case y118 => go_simp; try with_reducible rfl); try simp only [Act.put, zL])
   (refine TD.val0 (v := ?v119) (by simp only [zK]; rfl) rfl (by rfl) (fun w1 => ?y119) ?n119; (case y119 => go_simp; try with_reducible rfl); try simp only [Act.put, zL])
   (refine TD.val0 (v := ?v120) (by simp only [zK]; rfl) rfl (by rfl) (fun w1 => ?y120) ?n120; (case y120 => go_simp; try with_reducible rfl); try simp only [Act.put, zL])
   (refine TD.val0 (v := ?v121) (by simp only [zK]; rfl) rfl (by rfl) (fun w1 => ?y121) ?n121; (case y121 => go_simp; try with_reducible rfl); try simp only [Act.put, zL])
   (refine TD.load (v := ?v122) (p := ?p122) (Mod.refl _ _) (by simp only [zK]; rfl) rfl (by rfl) rfl ?hx122 (fun wq hSq => ?y122) ?n122; (case hx122 => simp only [Act.eval, zM]; try rfl); (case y122 => (have kp12q := hSq.at kp12 (fun h => h); have kp13q := hSq.at kp13 (fun h => h); have kbq := hSq.at kb (fun h => h); have krrq := hSq.at krr (fun h => h); go_simp; (try with_reducible rfl))); try simp only [Act.put, zL])
   (refine TD.val0 (v := ?v123) (by simp only [zK]; rfl) rfl (by rfl) (fun w1 => ?y123) ?n123; (case y123 => go_simp; try with_reducible rfl); try simp only [Act.put, zL])
   (refine TD.val0 (v := ?v124) (by simp only [zK]; rfl) rfl (by rfl) (fun w1 => ?y124) ?n124; (case y124 => go_simp; try with_reducible rfl); try simp only [Act.put, zL])
   (refine TD.load (v := ?v125) (p := ?p125) (Mod.refl _ _) (by simp only [zK]; rfl) rfl (by rfl) rfl ?hx125 (fun wq hSq => ?y125) ?n125; (case hx125 => simp only [Act.eval, zM]; try rfl); (case y125 => (have kp12q := hSq.at kp12 (fun h => h); have kp13q := hSq.at kp13 (fun h => h); have kbq := hSq.at kb (fun h => h); have krrq := hSq.at krr (fun h => h); go_simp; (try with_reducible rfl))); try simp only [Act.put, zL])
   (refine TD.val0 (v := ?v126) (by simp only [zK]; rfl) rfl (by rfl) (fun w1 => ?y126) ?n126; (case y126 => go_simp; try with_reducible rfl); try simp only [Act.put, zL])
   (refine TD.val0 (v := ?v127) (by simp only [zK]; rfl) rfl (by rfl) (fun w1 => ?y127) ?n127; (case y127 => go_simp; try with_reducible rfl); try simp only [Act.put, zL])
   refine TD.nil (fun w12 hr => ?_)
   have kp12 := hr.mod.at kp12 (fun h => h)
   have kp13 := hr.mod.at kp13 (fun h => h)
   have kb := hr.mod.at kb (fun h => h)
   have krr := hr.mod.at krr (fun h => h)
   have HM12 := Lib.hid (HM11.out.then0 hr.mod)
   have n1 : gb ≠ p13 := fun e => by rw [e, kp13] at kb; cases kb
   have n2 : gr ≠ gb := fun e => by rw [e, kb] at krr; cases krr
   have n3 : gr ≠ p13 := fun e => by rw [e, kp13] at krr; cases krr
   obtain ⟨u8, hu8⟩ := u8_inc (bt x.n)
   clear hr hwp hbt W0 W1 W2 W3 W4 Y0 Y48 Y49 Y50 kp12
   go_upto_region 14 with fail
   have Lkp13 := lt_size kp13
   have Lkrr := lt_size krr
   have Lkb := lt_size kb
   refine wp_pass (C := fun _ _ _ => False) (κ := fun i => [0, 0, 1, 0, 0, 1, 0, 1, 0, 0, 5].getD i 0) [0, 1, 2, 3, 4, 5, 6, 7, 8, 9, 10] (by kernel_rfl) (by kernel_rfl) (fun _ _ d _ _ h => by cases d <;> first | exact h | exact absurd h (hP _ _ _)) ?_
   (refine TD.val0 (v := ?v128) (by simp only [zK]; rfl) rfl (by rfl) (fun w1 => ?y128) ?n128; (case y128 => go_simp; try with_reducible rfl); try simp only [Act.put, zL])
   (refine TD.val0 (v := ?v129) (by simp only [zK]; rfl) rfl (by rfl) (fun w1 => ?y129) ?n129; (case y129 => go_simp; try with_reducible rfl); try simp only [Act.put, zL])
   (refine TD.load (v := ?v130) (p := ?p130) (Mod.refl _ _) (by simp only [zK]; rfl) rfl (by rfl) rfl ?hx130 (fun wq hSq => ?y130) ?n130; (case hx130 => simp only [Act.eval, zM]; try rfl); (case y130 => (have kp13q := hSq.at kp13 (fun h => h); have krrq := hSq.at krr (fun h => h); have kbq := hSq.at kb (fun h => h); go_simp; (try with_reducible rfl))); try simp only [Act.put, zL])
   (refine TD.val0 (v := ?v131) (by simp only [zK]; rfl) rfl (by rfl) (fun w1 => ?y131) ?n131; (case y131 => go_simp; try with_reducible rfl); try simp only [Act.put, zL])
   (refine TD.val0 (v := ?v132) (by simp only [zK]; rfl) rfl (by rfl) (fun w1 => ?y132) ?n132; (case y132 => go_simp; try with_reducible rfl); try simp only [Act.put, zL])
   (refine TD.load (v := ?v133) (p := ?p133) (Mod.refl _ _) (by simp only [zK]; rfl) rfl (by rfl) rfl ?hx133 (fun wq hSq => ?y133) ?n133; (case hx133 => simp only [Act.eval, zM]; try rfl); (case y133 => (have kp13q := hSq.at kp13 (fun h => h); have krrq := hSq.at krr (fun h => h); have kbq := hSq.at kb (fun h => h); go_simp; (try with_reducible rfl))); try simp only [Act.put, zL])
   (refine TD.val0 (v := ?v134) (by simp only [zK]; rfl) rfl (by rfl) (fun w1 => ?y134) ?n134; (case y134 => go_simp; try with_reducible rfl); try simp only [Act.put, zL])
   (refine TD.load (v := ?v135) (p := ?p135) (Mod.refl _ _) (by simp only [zK]; rfl) rfl (by rfl) rfl ?hx135 (fun wq hSq => ?y135) ?n135; (case hx135 => simp only [Act.eval, zM]; try rfl); (case y135 => (have kp13q := hSq.at kp13 (fun h => h); have krrq := hSq.at krr (fun h => h); have kbq := hSq.at kb (fun h => h); go_simp; (try with_reducible rfl))); try simp only [Act.put, zL])
   (refine TD.val0 (v := ?v136) (by simp only [zK]; rfl) rfl (by rfl) (fun w1 => ?y136) ?n136; (case y136 => go_simp; try with_reducible rfl); try simp only [Act.put, zL])
   (refine TD.val0 (v := ?v137) (by simp only [zK]; rfl) rfl (by rfl) (fun w1 => ?y137) ?n137; (case y137 => go_simp; try with_reducible rfl); try simp only [Act.put, zL])
   refine TD.eff (by simp only [zK]; rfl) rfl (fun wE hr => ?_)
   have kp13 := hr.mod.at0 kp13
   have krr := hr.mod.at0 krr
   have kb := hr.mod.at0 kb
   have mE := hr.mod
   (refine eff_store (X := ?X138) (Y := ?Y138) (w' := ?w138) (by simp only [zK]; rfl) (by rfl) rfl ?hx138 ?hz138 ?y138 ?n138; (case hx138 => simp only [Act.eval, zM]; try rfl); (case hz138 => simp only [Act.eval, zM]; try rfl); (case y138 => go_simp; try with_reducible rfl))
   (first | refine TE.nil_set kb (fun w14 kb mS => ?_) | refine TE.nil_setCell kb (fun w14 kb mS => ?_))
   (try simp only [Array.setIfInBounds, zL] at kb)
   have kp13 := mS.at_ne kp13 (by omega)
   have krr := mS.at_ne krr (by omega)
   have HM14 : Hid (Mod (fun _ => False) w w14) := Lib.hid ((HM12.out.then0 mE).then mS (fun j hj e => by have h1 := HUB.out.1; have h2 := HBS.out; have h3 := HM10.out.size; have h4 : j = gb := e; omega))
   clear mE mS hu8 kb qb n1 n2
   go_upto_region 15 with fail
   have Lkp13 := lt_size kp13
   have Lkrr := lt_size krr
   refine wp_pass0 (C := fun _ _ _ => False) (κ := fun i => [0, 0, 1, 0, 0, 5].getD i 0) [0, 1, 2, 3, 4, 5] (by kernel_rfl) (by kernel_rfl) (fun _ _ d _ _ h => by cases d <;> first | exact h | exact absurd h (hP _ _ _)) ?_
   (refine TD.val0 (v := ?v139) (by simp only [zK]; rfl) rfl (by rfl) (fun w1 => ?y139) ?n139; (case y139 => go_simp; try with_reducible rfl); try simp only [Act.put, zL])
   (refine TD.val0 (v := ?v140) (by simp only [zK]; rfl) rfl (by rfl) (fun w1 => ?y140) ?n140; (case y140 => go_simp; try with_reducible rfl); try simp only [Act.put, zL])
   (refine TD.load (v := ?v141) (p := ?p141) (Mod.refl _ _) (by simp only [zK]; rfl) rfl (by rfl) rfl ?hx141 (fun wq hSq => ?y141) ?n141; (case hx141 => simp only [Act.eval, zM]; try rfl); (case y141 => (have kp13q := hSq.at kp13 (fun h => h); have krrq := hSq.at krr (fun h => h); go_simp; (try with_reducible rfl))); try simp only [Act.put, zL])
   (refine TD.val0 (v := ?v142) (by simp only [zK]; rfl) rfl (by rfl) (fun w1 => ?y142) ?n142; (case y142 => go_simp; try with_reducible rfl); try simp only [Act.put, zL])
   (refine TD.val0 (v := ?v143) (by simp only [zK]; rfl) rfl (by rfl) (fun w1 => ?y143) ?n143; (case y143 => go_simp; try with_reducible rfl); try simp only [Act.put, zL])
   refine TD.eff (by simp only [zK]; rfl) rfl (fun wE hr => ?_)
   have kp13 := hr.mod.at0 kp13
   have krr := hr.mod.at0 krr
   have mE := hr.mod
   (refine eff_store (X := ?X144) (Y := ?Y144) (w' := ?w144) (by simp only [zK]; rfl) (by rfl) rfl ?hx144 ?hz144 ?y144 ?n144; (case hx144 => simp only [Act.eval, zM]; try rfl); (case hz144 => simp only [Act.eval, zM]; try rfl); (case y144 => go_simp; try with_reducible rfl))
   (first | refine TE.nil_set krr (fun w15 krr mS => ?_) | refine TE.nil_setCell krr (fun w15 krr mS => ?_))
   (try simp only [Array.setIfInBounds, zL] at krr)
   have kp13 := mS.at_ne kp13 (by omega)
   have HM15 : Hid (Mod (fun _ => False) w w15) := Lib.hid ((HM14.out.then0 mE).then mS (fun j hj e => by have h1 := HUB.out.2; have h2 := HBS.out; have h3 := HM10.out.size; have h4 : j = gr := e; omega))
   clear mE mS kp13 krr n3
   go_wp2_with fail
   go_roundw
   case rel => exact ⟨i + 1, by omega, by go_num, HM15⟩
   case measure => simp [intOf]; omega
  ·obtain rfl : i = nl := by omega
   go_wp2_with fail
   go_ret
   exact ⟨rfl, HM.out⟩
end Go.Proofs.YtdeghpmlhcaedaaGreatDoor
namespace Go.Proofs.YtdeghpmlhcaedaaGreatDoor
open Go.RowKit Go.Sort
open Go.ChangeMaps (setBlock)
attribute [local go_sem ↓] wlRdy ldRdy stRdy
attribute [local go_sem] cell_blk frozen_blk one_int one_bool one_ptr one_slice one_map Value.cells rdr_size rdr_all rdr_one rdr_one' zRdy_size
set_option maxRecDepth 20000 in
set_option maxHeartbeats 1600000 in
theorem readyI_c (p : UInt64) (b : UInt8) (w : World) : Calls Tryz.prog 12 #[u64v p, u8v b] w fun e w' => ∃ x : RdR, e = .returned (.agg (rdr x)) ∧ x.con = rdy p b ∧ RdOk w' x ∧ RdIn (fun g => w.heap.size ≤ g ∧ g < w'.heap.size) x ∧ Mod (fun _ => False) w w' := by
 have hb6 := bsByte b
 have hb8 : ∀ w, (Instr.build 91 #[(2, .bool true)]).run Tryz.prog w = .ok (.agg (rcr rolW)) w := fun w => by kernel_rfl
 have hb9 := bsRole rolW
 have hb10 := fun a6 a9 => bldRdy p a6 a9 b rolW
 go_enter Tryz.func12, Tryz.ntmps12
 go_upto_region 0 with fail
 refine wp_pass0 (C := fun _ _ _ => False) (κ := fun i => [3].getD i 0) [0] (by kernel_rfl) (by kernel_rfl) (fun _ _ d _ _ h => by cases d <;> first | exact h | exact absurd h (hP _ _ _)) ?_
 (refine TD.allocB (by simp only [zK]; rfl) rfl (by rfl) rfl rfl alRdy (fun p4 hp4 => ?n1); try simp only [Act.put, zL])
 refine TD.nil (fun w1 hr => ?_)
 have kp4 := hr.box p4 _ (by first | exact Bx.set_same _ _ _ | (simp only [Bx.set_same]; rfl)); dsimp only [Value.cells] at kp4; obtain ⟨gp4, kp4⟩ := kp4
 have m1 := hr.mod
 clear hr
 go_upto_region 1 with fail
 have Lkp4 := lt_size kp4
 refine wp_pass0 (C := fun _ _ _ => False) (κ := fun i => [0, 3, 0, 0, 3, 0, 5].getD i 0) [0, 1, 2, 3, 4, 5, 6] (by kernel_rfl) (by kernel_rfl) (fun _ _ d _ _ h => by cases d <;> first | exact h | exact absurd h (hP _ _ _)) ?_
 (refine TD.val0 (v := ?v2) (by simp only [zK]; rfl) rfl (by rfl) (fun w1 => ?y2) ?n2; (case y2 => go_simp; try with_reducible rfl); try simp only [Act.put, zL])
 (refine TD.bslice (by simp only [zK]; rfl) rfl (by rfl) rfl rfl ?hx3 hb6 (fun p6 hp6 => ?n3); (case hx3 => (simp only [List.map_toArray, List.map_cons, List.map_nil, Act.eval, zM]; (try rfl))); try simp only [Act.put, zL])
 (refine TD.val0 (v := ?v4) (by simp only [zK]; rfl) rfl (by rfl) (fun w1 => ?y4) ?n4; (case y4 => go_simp; try with_reducible rfl); try simp only [Act.put, zL])
 (refine TD.build (v := ?v5) (ps := ?p5) (by simp only [zK]; rfl) rfl (by rfl) rfl ?hx5 (fun w1 => ?y5) ?n5; (case hx5 => (simp only [List.map_toArray, List.map_cons, List.map_nil, Act.eval, zM]; (try rfl))); (case y5 => (rw [hb8]; (try with_reducible rfl))); try simp only [Act.put, zL])
 (refine TD.bslice (by simp only [zK]; rfl) rfl (by rfl) rfl rfl ?hx6 hb9 (fun p9 hp9 => ?n6); (case hx6 => (simp only [List.map_toArray, List.map_cons, List.map_nil, Act.eval, zM]; (try rfl))); try simp only [Act.put, zL])
 obtain ⟨ne_p9_p6, hp9⟩ := Bx.set_none hp9
 (refine TD.build (v := ?v7) (ps := ?p7) (by simp only [zK]; rfl) rfl (by rfl) rfl ?hx7 (fun w1 => ?y7) ?n7; (case hx7 => (simp only [List.map_toArray, List.map_cons, List.map_nil, Act.eval, zM]; (try rfl))); (case y7 => (rw [hb10]; (try with_reducible rfl))); try simp only [Act.put, zL])
 refine TD.eff (by simp only [zK]; rfl) rfl (fun w2 hr => ?_)
 have kp4 := hr.mod.at kp4 (fun h => h)
 have kp6 := hr.box p6 _ (by first | exact Bx.set_same _ _ _ | (simp only [Bx.set_ne _ (Ne.symm ne_p9_p6), Bx.set_ne _ ne_p9_p6, Bx.set_same]; rfl)); dsimp only [Value.cells] at kp6; obtain ⟨gp6, kp6⟩ := kp6
 have kp9 := hr.box p9 _ (by first | exact Bx.set_same _ _ _ | (simp only [Bx.set_ne _ (Ne.symm ne_p9_p6), Bx.set_ne _ ne_p9_p6, Bx.set_same]; rfl)); dsimp only [Value.cells] at kp9; obtain ⟨gp9, kp9⟩ := kp9
 have m2 := m1.then0 hr.mod
 have hne6 : p6 ≠ p4 := by have := lt_size kp4; have := gp6; have := Lkp4; omega
 have hne9 : p9 ≠ p4 := by have := gp9; have := Lkp4; omega
 clear hr hb6 hb8 hb9 hb10
 (refine eff_store (X := ?X9) (Y := ?Y9) (w' := ?w9) (by simp only [zK]; rfl) (by rfl) rfl ?hx9 ?hz9 ?y9 ?n9; (case hx9 => simp only [Act.eval, zM]; try rfl); (case hz9 => simp only [Act.eval, zM]; try rfl); (case y9 => go_simp; try with_reducible rfl))
 (first | refine TE.nil_set kp4 (fun wn kp4 mS => ?_) | refine TE.nil_setCell kp4 (fun wn kp4 mS => ?_))
 (try simp only [Array.setIfInBounds, zL] at kp4)
 have m3 := m2.thenB mS (.inl gp4)
 have kp6 := mS.at kp6 hne6
 have kp9 := mS.at kp9 hne9
 have h6 : w.heap.size ≤ p6 := Nat.le_trans m1.size gp6
 have h9 : w.heap.size ≤ p9 := Nat.le_trans m1.size gp9
 have l6 := lt_size kp6
 have l9 := lt_size kp9
 clear mS
 go_wp2_with fail
 refine bodyPost_ret (results_cell1 (v := .agg (rdr { rd0 with b := ⟨some ⟨p6, 0, none⟩, [b], 1⟩, prio := p, ro := ⟨some ⟨p9, 0, none⟩, [rolW], 1⟩ })) rfl rfl (by rw [ldRdy]; simp [kp4, rdr_all, rdr_size])) rfl ⟨_, rfl, rfl, ?_, ?_, m3⟩
 ·exact { rd0_ok _ with b := SlAt.one kp6 b rfl rfl, ro := SlAt.one kp9 rolW rfl (rc_size _ _ _) }
 ·exact ⟨fun g o e => (by cases e; exact ⟨h6, l6⟩), fun g o e => (by cases e), fun g o e => (by cases e), fun g o e => (by cases e), fun y hy => (by cases hy), fun g o e => (by cases e), fun y hy => (by cases hy), fun g o e => (by cases e; exact ⟨h9, l9⟩)⟩
theorem rdy_sm (p : UInt64) (b : UInt8) : RdSm (rdy p b) := { rd0_sm with b := (by show [b].length ≤ 1000000; simp), ro := (by show [rolW].length ≤ 1000000; simp) }
def RdyL (c : RdC) (v : Value) : Land := fun T w => ∃ x : RdR, v = .agg (rdr x) ∧ x.con = c ∧ RdOk w x ∧ RdIn T x
theorem goodRdy (c : RdC) (v : Value) : Good (RdyL c v) where
 cl := fun T w w' ⟨x, e, hc, ho, hi⟩ hm => ⟨x, e, hc, ho.mod hm hi (fun i hi hn => hn hi), hi⟩
 gr := fun T T' w hT ⟨x, e, hc, ho, hi⟩ => ⟨x, e, hc, ho, hi.mono hT⟩
def IsV (x v : Value) : Prop := v = x
def ConS (S : List (Option It)) : Prop := ∀ (i : Nat) (x : It), S[i]? = some (some x) → x.r = rdy x.r.prio (bt x.n)
theorem ConS.set {S : List (Option It)} (h : ConS S) {i : Nat} {y : It} (hy : y.r = rdy y.r.prio (bt y.n)) : ConS (S.set i (some y)) := fun j x hx => by
 rw [List.getElem?_set] at hx
 split at hx
 ·split at hx
  ·cases hx
   exact hy
  ·cases hx
 ·exact h j x hx
theorem ConS.none {S : List (Option It)} (h : ConS S) (i : Nat) : ConS (S.set i none) := fun j x hx => by
 rw [List.getElem?_set] at hx
 split at hx
 ·split at hx
  ·cases hx
  ·cases hx
 ·exact h j x hx
section
variable {b r n : Nat} {S S1 S2 S' : List (Option It)} {T T1 T2 : Nat → Prop} {w w' : World}
theorem BDL.grow0 (H : BDL b r n S1 S2 T w) (hm : Mod (fun _ => False) w w') : BDL b r n S1 S2 (Grow T w w') w' :=
 (goodBD b r n S1 S2).gr _ _ _ (fun _ h => .inl h) ((goodBD b r n S1 S2).cl T w w' H (hm.mono (fun _ _ e => e.elim)))
theorem BDL.keepB (H : BDL b r n S1 S2 T w) {f : FuncId} {args : Array Value} {v : Value} (hf : ∀ O, BH w O b S1 w → Calls Tryz.prog f args w fun e w' => e = .returned v ∧ Mod (fun _ => False) w w') : Calls Tryz.prog f args w fun e w' => ∃ u, e = .returned u ∧ Mod T w w' ∧ (u = v ∧ BDL b r n S1 S2 (Grow T w w') w') := by
 have H0 := H
 obtain ⟨T1, T2, hA, hR, h1, h2, h4⟩ := H
 exact (hf T1 hA.bh).mono fun e w' h => ⟨_, h.1, h.2.mono (fun _ _ e => e.elim), rfl, H0.grow0 h.2⟩
theorem BDL.keepQ (H : BDL b r n S1 S2 T w) {f : FuncId} {args : Array Value} {v : Value} (hf : ∀ T2, RQ r n (docL 0 S2) T2 w → Calls Tryz.prog f args w fun e w' => e = .returned v ∧ Mod (fun _ => False) w w') : Calls Tryz.prog f args w fun e w' => ∃ u, e = .returned u ∧ Mod T w w' ∧ (u = v ∧ BDL b r n S1 S2 (Grow T w w') w') := by
 have H0 := H
 obtain ⟨T1, T2, hA, hR, h1, h2, h4⟩ := H
 exact (hf T2 hR).mono fun e w' h => ⟨_, h.1, h.2.mono (fun _ _ e => e.elim), rfl, H0.grow0 h.2⟩
end
def PairK (b r n : Nat) (S : List (Option It)) (fB fQ : FuncId) (id : Int) : Prop := ∃ (er : Int) (S' : List (Option It)), S'.length = S.length ∧ ConS S' ∧
 (∀ S2 T w, BDL b r n S S2 T w → Calls Tryz.prog fB #[ptrV b, .int .i64 id] w fun e w' => ∃ u, e = .returned u ∧ Mod T w w' ∧ (u = .int .i64 er ∧ BDL b r n S' S2 (Grow T w w') w')) ∧
 ∀ S1 T w, BDL b r n S1 S T w → Calls Tryz.prog fQ #[ptrV r, .int .i64 id] w fun e w' => ∃ u, e = .returned u ∧ Mod T w w' ∧ (u = .int .i64 er ∧ BDL b r n S1 S' (Grow T w w') w')
section
variable {b r n : Nat} {S : List (Option It)}
theorem pairBack (hS : S.length ≤ 4096) (hc : ConS S) (id : Int) : PairK b r n S 15 22 id := by
 rcases away_or S id with h | ⟨i, x, rfl, hx⟩
 ·exact ⟨11, S, rfl, hc, fun S2 T w H => H.keepB (fun O hB => BackN_c hB h), fun S1 T w H => H.keepQ (fun T2 hR => qbackN_c hR hS h)⟩
 ·by_cases hp : x.pl = 0
  ·exact ⟨23, S, rfl, hc, fun S2 T w H => H.keepB (fun O hB => BackX_c hB hx hp), fun S1 T w H => H.keepQ (fun T2 hR => qbackW_c hR hS hx hp)⟩
  ·exact ⟨0, S.set i (some { x with pl := 0 }), List.length_set, hc.set (hc i x hx), fun S2 T w H => H.doB (fun O hB _ => BackY_c hB hx hp), fun S1 T w H => H.doQ (fun T2 hR h4 => (qbackY_c hR hS hx hp).mono (fun e w' h => ⟨h.1, QT.of h.2.1 h.2.2 h4⟩))⟩
theorem pairPark (hS : S.length ≤ 4096) (hc : ConS S) (id : Int) : PairK b r n S 16 23 id := by
 rcases away_or S id with h | ⟨i, x, rfl, hx⟩
 ·exact ⟨11, S, rfl, hc, fun S2 T w H => H.keepB (fun O hB => ParkN_c hB h), fun S1 T w H => H.keepQ (fun T2 hR => qparkN_c hR hS h)⟩
 ·by_cases hp : x.pl = 1
  ·exact ⟨0, S.set i (some { x with pl := 2 }), List.length_set, hc.set (hc i x hx), fun S2 T w H => H.doB (fun O hB _ => ParkY_c hB hx hp), fun S1 T w H => H.doQ (fun T2 hR h4 => (qparkY_c hR hS hx hp).mono (fun e w' h => ⟨h.1, QT.of h.2.1 h.2.2 h4⟩))⟩
  ·exact ⟨23, S, rfl, hc, fun S2 T w H => H.keepB (fun O hB => ParkX_c hB hx hp), fun S1 T w H => H.keepQ (fun T2 hR => qparkW_c hR hS hx hp)⟩
theorem pairDone (hS : S.length ≤ 4096) (hc : ConS S) (id : Int) : PairK b r n S 24 25 id := by
 rcases away_or S id with h | ⟨i, x, rfl, hx⟩
 ·exact ⟨11, S, rfl, hc, fun S2 T w H => H.keepB (fun O hB => DoneN_c hB h), fun S1 T w H => H.keepQ (fun T2 hR => qdoneN_c hR hS h)⟩
 ·exact ⟨0, S.set i none, List.length_set, hc.none i, fun S2 T w H => H.doB (fun O hB _ => DoneY_c hB hx), fun S1 T w H => H.doQ (fun T2 hR h4 => qdoneY_c hR h4 hS hx)⟩
theorem pairSend (hS : S.length ≤ 4096) (hc : ConS S) (id : Int) : PairK b r n S 26 27 id := by
 rcases away_or S id with h | ⟨i, x, rfl, hx⟩
 ·exact ⟨11, S, rfl, hc, fun S2 T w H => H.keepB (fun O hB => SendN_c hB h), fun S1 T w H => H.keepQ (fun T2 hR => qsendN_c hR hS h)⟩
 ·exact ⟨0, S.set i (some { x with sent := true }), List.length_set, hc.set (hc i x hx), fun S2 T w H => H.doB (fun O hB _ => SendY_c hB hx), fun S1 T w H => H.doQ (fun T2 hR h4 => (qsendY_c hR hS hx).mono (fun e w' h => ⟨h.1, QT.of h.2.1 h.2.2 h4⟩))⟩
theorem pairPop (hS : S.length ≤ 4096) (hc : ConS S) : ∃ (k : Int) (y : Bool) (S' : List (Option It)), S'.length = S.length ∧ ConS S' ∧
  (∀ S2 T w, BDL b r n S S2 T w → Calls Tryz.prog 14 #[ptrV b] w fun e w' => ∃ u, e = .returned u ∧ Mod T w w' ∧ (u = .tuple #[.int .i64 k, .bool y] ∧ BDL b r n S' S2 (Grow T w w') w')) ∧
  ∀ S1 T w, BDL b r n S1 S T w → Calls Tryz.prog 21 #[ptrV r] w fun e w' => ∃ u, e = .returned u ∧ Mod T w w' ∧ (u = .tuple #[.int .i64 k, .bool y] ∧ BDL b r n S1 S' (Grow T w w') w') := by
 obtain ⟨D, hD, hSr⟩ := srt_of hS
 cases hd : D.head? with
 | none =>
  have h0 : D = [] := List.head?_eq_none_iff.1 hd
  have hw : wtg 0 S = [] := by
   rw [h0] at hD
   exact hD.nil_eq.symm
  exact ⟨0, false, S, rfl, hc, fun S2 T w H => H.keepB (fun O hB => bpopN_c hB hw), fun S1 T w H => H.keepQ (fun T2 hR => qpopN_c hR hS hw)⟩
 | some z =>
  have hz : z ∈ wtg 0 S := hD.mem_iff.1 (List.mem_of_mem_head? (by rw [hd]; rfl))
  obtain ⟨i, x, hx, hp, rfl⟩ := wtg_mem hz
  rw [Nat.zero_add] at hd
  exact ⟨i, true, S.set i (some { x with pl := 1 }), List.length_set, hc.set (hc i x hx), fun S2 T w H => H.doB (fun O hB _ => bpopY_c hB hD hSr hx hd), fun S1 T w H => H.doQ (fun T2 hR h4 => (qpopY_c hR hS hD hSr hx hd).mono (fun e w' h => ⟨h.1, QT.of h.2.1 h.2.2 h4⟩))⟩
end
def BDO (b r n : Nat) (S1 S2 : List (Option It)) (a : Option Addr) (l : List UInt64) : Land := fun T w => ∃ T1 T2, BO b S1 T1 w ∧ RQ r n (docL 0 S2) T2 w ∧ (∀ i, T1 i → T i ∧ ¬ T2 i) ∧ (∀ i, T2 i → T i) ∧ (∀ i, T2 i → i < w.heap.size) ∧ SlAt nc 1 w a l ∧ ∀ g o, a = some ⟨g, o, none⟩ → T g ∧ ¬ T2 g
theorem goodBDO (b r n : Nat) (S1 S2 : List (Option It)) (a : Option Addr) (l : List UInt64) : Good (BDO b r n S1 S2 a l) where
 cl := by
  rintro T w w' ⟨T1, T2, hA, hR, h1, h2, h4, hs, ho⟩ hm
  exact ⟨T1, T2, hA.modT hm (fun i hi hn => hn (h1 i hi).1), (RQ.good r n (docL 0 S2)).cl T2 w w' hR (hm.mono (fun i _ hn ht => hn (h2 i ht))), h1, h2, fun i hi => Nat.lt_of_lt_of_le (h4 i hi) hm.size, hs.mod hm (fun g o e hn => hn (ho g o e).1), ho⟩
 gr := by
  rintro T T' w hT ⟨T1, T2, hA, hR, h1, h2, h4, hs, ho⟩
  exact ⟨T1, T2, hA, hR, fun i hi => ⟨hT i (h1 i hi).1, (h1 i hi).2⟩, fun i hi => hT i (h2 i hi), h4, hs, fun g o e => ⟨hT g (ho g o e).1, (ho g o e).2⟩⟩
theorem BDL.bdo {b r n : Nat} {S1 S2 : List (Option It)} {T : Nat → Prop} {w : World} (H : BDL b r n S1 S2 T w) : BDO b r n S1 S2 none [] T w := by
 obtain ⟨T1, T2, hA, hR, h1, h2, h4⟩ := H
 exact ⟨T1, T2, hA, hR, h1, h2, h4, .inl rfl, fun g o e => by cases e⟩
def PairA (b r n : Nat) (S : List (Option It)) (num prio : UInt64) : Prop := ∃ (k er : Int) (m : Nat) (l : List UInt64) (S' : List (Option It)), l.length = m ∧ m ≤ 1 ∧ S'.length = S.length ∧ ConS S' ∧
 (∀ T w, BDL b r n S S T w → TabW w → ∀ x : RdR, RdOk w x → x.con = rdy prio (bt num) → Calls Tryz.prog 11 #[ptrV b, u64v num, .agg (rdr x)] w fun e w' => ∃ u, e = .returned u ∧ Mod T w w' ∧ ∃ a c, IsV (.tuple #[.int .i64 k, .slice a m c, .int .i64 er]) u ∧ BDO b r n S' S a l (Grow T w w') w') ∧
 ∀ T2 w, RQ r n (docL 0 S) T2 w → (∀ i, T2 i → i < w.heap.size) → Calls Tryz.prog 20 #[ptrV r, u64v num, u64v prio] w fun e w' => ∃ a c, e = .returned (.tuple #[.int .i64 k, .slice a m c, .int .i64 er]) ∧ SlAt nc 1 w' a l ∧ QT r n (docL 0 S') T2 w w'
theorem pairAdd {b r n : Nat} {S : List (Option It)} (hlen : S.length = n) (hS : S.length ≤ 4096) (hc : ConS S) (num prio : UInt64) : PairA b r n S num prio := by
 obtain ⟨y, hy⟩ : ∃ y : It, y = ⟨num, rdy prio (bt num), 0, false⟩ := ⟨_, rfl⟩
 have hyr : y.r = rdy y.r.prio (bt y.n) := by rw [hy]; rfl
 have hdy : ∀ f, dOf f y = ⟨f, num, prio, 0, false⟩ := fun f => by rw [hy]; rfl
 by_cases hfull : S.countP Option.isSome < S.length
 ·obtain ⟨f, hf⟩ := free_ex hfull
  refine ⟨f, 0, 0, [], S.set f (some y), rfl, by omega, List.length_set, hc.set hyr, fun T w H ht x hx hxc => ?_, fun T2 w hR h4 => ?_⟩
  ·refine (H.doB (fun O hB h0 => addR_c hB h0 ht hf hx (by rw [hxc]; exact rdy_sm _ _) num)).mono ?_
   rintro e w' ⟨u, he, hm, rfl, hD⟩
   rw [hxc, ← hy] at hD
   exact ⟨_, he, hm, none, 0, rfl, hD.bdo⟩
  ·exact (qaddR_c hR h4 hS (by rw [docL_len, ← hlen]; exact hfull) hf num prio (hdy f)).mono fun e w' h => ⟨none, 0, h.1, .inl rfl, h.2⟩
 ·have hall : S.countP Option.isSome = S.length := Nat.le_antisymm List.countP_le_length (by omega)
  have hfd : n ≤ (docL 0 S).length := by rw [docL_len, hall, hlen]; exact Nat.le_refl _
  obtain ⟨D, hD, hSr⟩ := srt_of hS
  cases hd : D.getLast? with
  | none =>
   have h0 : D = [] := List.getLast?_eq_none_iff.1 hd
   have hw : wtg 0 S = [] := by
    rw [h0] at hD
    exact hD.nil_eq.symm
   refine ⟨0, 3, 0, [], S, rfl, by omega, rfl, hc, fun T w H ht x hx hxc => ?_, fun T2 w hR h4 => ?_⟩
   ·refine (H.keepB (fun O hB => addN_c hB hall hw hx (by rw [hxc]; exact rdy_sm _ _) num)).mono ?_
    rintro e w' ⟨u, he, hm, rfl, hD⟩
    exact ⟨_, he, hm, none, 0, rfl, hD.bdo⟩
   ·exact (qaddN_c hR h4 hS hfd hw num prio).mono fun e w' h => ⟨none, 0, h.1, .inl rfl, QT.of (hR.mod0 h.2) (h.2.mono (fun _ _ e => e.elim)) h4⟩
  | some z =>
   have hz : z ∈ wtg 0 S := hD.mem_iff.1 (List.mem_of_getLast? hd)
   obtain ⟨f, x', hx', hp', rfl⟩ := wtg_mem hz
   rw [Nat.zero_add] at hd
   cases hA : Ahead ⟨prio, num⟩ x'.rk with
   | false =>
    refine ⟨0, 3, 0, [], S, rfl, by omega, rfl, hc, fun T w H ht x hx hxc => ?_, fun T2 w hR h4 => ?_⟩
    ·have hxp : x.prio = prio := congrArg RdC.prio hxc
     refine (H.keepB (fun O hB => addL_c hB hall hD hSr hx' hd hx (by rw [hxc]; exact rdy_sm _ _) num (by rw [hxp]; exact hA))).mono ?_
     rintro e w' ⟨u, he, hm, rfl, hD⟩
     exact ⟨_, he, hm, none, 0, rfl, hD.bdo⟩
    ·exact (qaddL_c hR h4 hS hfd hD hSr hx' hd num prio hA).mono fun e w' h => ⟨none, 0, h.1, .inl rfl, QT.of (hR.mod0 h.2) (h.2.mono (fun _ _ e => e.elim)) h4⟩
   | true =>
    refine ⟨f, 0, 1, [x'.n], S.set f (some y), rfl, by omega, List.length_set, hc.set hyr, fun T w H ht x hx hxc => ?_, fun T2 w hR h4 => ?_⟩
    ·have hxp : x.prio = prio := congrArg RdC.prio hxc
     obtain ⟨T1, T2, hB, hR, h1, h2, h4⟩ := H
     refine (addO_c hB.bh hB.h0 ht hall hD hSr hx' hp' hd hx (by rw [hxc]; exact rdy_sm _ _) num (by rw [hxp]; exact hA)).mono ?_
     rintro e w' ⟨v, he, hv, T', hBo, hvT⟩
     rw [hxc, ← hy] at hBo
     obtain ⟨hA', hm, g1⟩ := hBo.bo hB.h0
     obtain ⟨a, rfl, hs, hab⟩ := hv.at
     obtain ⟨q1, T1', T2', hA2, hR2, k1, k2, k4⟩ := BDL.stepB hB hR h1 h2 h4 hA' hm g1
     refine ⟨_, he, q1, a, 1, rfl, T', T2, hA', (RQ.good r n (docL 0 S)).cl T2 w w' hR (hm.mono (fun i _ e ht => (h1 i e).2 ht)), fun i hi => ?_, fun i hi => .inl (h2 i hi), fun i hi => Nat.lt_of_lt_of_le (h4 i hi) hm.size, hs, fun g o e => ⟨.inr (hab g o e), fun ht => by have := h4 g ht; have := (hab g o e).1; omega⟩⟩
     rcases g1 i hi with e | e
     ·exact ⟨.inl (h1 i e).1, (h1 i e).2⟩
     ·exact ⟨.inr ⟨e, hA'.lt i hi⟩, fun ht => by have := h4 i ht; omega⟩
    ·exact (qaddO_c hR h4 hS hfd hall hD hSr hx' hd num prio hA (hdy f)).mono fun e w' h => by
      obtain ⟨p, he, hs, hq⟩ := h
      exact ⟨_, 1, he, hs, hq⟩
end Go.Proofs.YtdeghpmlhcaedaaGreatDoor
