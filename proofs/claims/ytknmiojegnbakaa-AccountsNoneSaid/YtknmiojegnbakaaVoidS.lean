/- Stores that are not there, or that no call made. -/
import Derived.Test.YtknmiojegnbakaaEq
import Derived.Test.YtknmiojegnbakaaGen2
namespace Go.Proofs.Ytknmiojegnbakaa
open Go.RowKit
open Go.ChangeMaps (setBlock)
set_option linter.unusedSimpArgs false
set_option linter.unusedVariables false
attribute [local go_sem ↓] wlKey ldKey stKey wlAcct ldAcct stAcct wlHold ldHold stHold eqKey1 eqAcct eqHold
attribute [local go_sem] eqMap neMap av_size av_c av_s av_c' av_s' av_o av_all av_one hd_size hd_key hd_acct hd_all hd_one zKey_size zAcct_size zHold_size cell_blk frozen_blk kc_ext one_int one_bool one_ptr one_slice one_map kc_one kc_one0 kc_size Value.cells
def NoSt (w : World) (v : Value) : Prop := v = .pointer none ∨ ∃ p, v = .pointer (some ⟨p, 0, none⟩) ∧ w.heap[p]? = some (.cells #[.map none] 62 (0, 0))
theorem NoSt.mod0 {w w' : World} {v : Value} (h : NoSt w v) (hm : Mod (fun _ => False) w w') : NoSt w' v := by
  rcases h with h | ⟨p, h1, h2⟩
  · exact .inl h
  · exact .inr ⟨p, h1, hm.at0 h2⟩
theorem thereN (v : Value) (w : World) (h : NoSt w v) : Calls Try.prog 25 #[v] w fun e w' => e = .returned (.bool false) ∧ w = w' := by
  rcases h with rfl | ⟨p, rfl, h2⟩
  · exact there_nil w
  · exact there_void p w h2
/-- A store of which a map is told: it is there. -/
theorem thereP (p b : Nat) (w : World) (kp : w.heap[p]? = some (.cells #[.map (some b)] 62 (0, 0))) : Calls Try.prog 25 #[.pointer (some ⟨p, 0, none⟩)] w fun e w' => e = .returned (.bool true) ∧ w = w' := by
  go_enter Try.func25, Try.ntmps25
  go_wp2
  go_ret
  exact ⟨rfl, rfl⟩
theorem coinsN (v : Value) (w : World) (h : NoSt w v) : Calls Try.prog 12 #[v] w fun e w' => e = .returned (.tuple #[.int .u64 0, .int .u64 0]) ∧ Mod (fun _ => False) w w' := by
  have H := Lib.hid h
  clear h
  go_enter Try.func12, Try.ntmps12
  go_wp2_with fail
  go_at_call 25
  refine (thereN v _ H.out).mono ?_
  rintro e w2 ⟨rfl, rfl⟩
  go_wp2_with fail
  go_ret2
  exact ⟨rfl, Mod.refl _ _⟩
theorem putN (v : Value) (k : Key) (a : Acct) (w : World) (h : NoSt w v) : Calls Try.prog 13 #[v, .agg (kc k), .agg (av a)] w fun e w' => e = .returned (.int .i64 2) ∧ Mod (fun _ => False) w w' := by
  have H := Lib.hid h
  clear h
  go_enter Try.func13, Try.ntmps13
  go_upto_region 0 with fail
  refine wp_pass0 (C := fun _ _ _ => False) (κ := fun i => [3, 3, 0].getD i 0) [0, 1, 2] (by kernel_rfl) (by kernel_rfl) (fun _ _ d _ _ h => by cases d <;> exact h) ?_
  (refine TD.box (v := ?v1) (by simp only [List.getElem?_toArray, List.getElem?_cons_succ, List.getElem?_cons_zero]; rfl) rfl ?hw1 rfl rfl ?hx1 (fun p4 hp4 => ?hn1); (case hw1 => rfl); (case hx1 => (simp only [Act.eval, Array.getD_eq_getD_getElem?, List.getElem?_toArray, List.getElem?_cons_succ, List.getElem?_cons_zero, Option.getD_some]; (try rfl))); (try simp only [Act.put, List.setIfInBounds_toArray, List.set_cons_zero, List.set_cons_succ]))
  (refine TD.box (v := ?v2) (by simp only [List.getElem?_toArray, List.getElem?_cons_succ, List.getElem?_cons_zero]; rfl) rfl ?hw2 rfl rfl ?hx2 (fun p5 hp5 => ?hn2); (case hw2 => rfl); (case hx2 => (simp only [Act.eval, Array.getD_eq_getD_getElem?, List.getElem?_toArray, List.getElem?_cons_succ, List.getElem?_cons_zero, Option.getD_some]; (try rfl))); (try simp only [Act.put, List.setIfInBounds_toArray, List.set_cons_zero, List.set_cons_succ]))
  obtain ⟨ne_p5_p4, hp5⟩ := Bx.set_none hp5
  (refine TD.val0 (v := ?v3) (by simp only [List.getElem?_toArray, List.getElem?_cons_succ, List.getElem?_cons_zero]; rfl) rfl ?hw3 (fun w1 => ?hy3) ?hn3; (case hw3 => rfl); (case hy3 => (go_simp; (try with_reducible rfl))); (try simp only [Act.put, List.setIfInBounds_toArray, List.set_cons_zero, List.set_cons_succ]))
  refine TD.nil (fun w1 hr => ?_)
  have kp4 := hr.box p4 _ (by first | exact Bx.set_same _ _ _ | (simp only [Bx.set_ne _ (Ne.symm ne_p5_p4), Bx.set_ne _ ne_p5_p4, Bx.set_same]; rfl)); dsimp only [Value.cells] at kp4; obtain ⟨gp4, kp4⟩ := kp4
  have kp5 := hr.box p5 _ (by first | exact Bx.set_same _ _ _ | (simp only [Bx.set_ne _ (Ne.symm ne_p5_p4), Bx.set_ne _ ne_p5_p4, Bx.set_same]; rfl)); dsimp only [Value.cells] at kp5; obtain ⟨gp5, kp5⟩ := kp5
  have m1 := hr.mod
  go_wp2_with fail
  go_at_call 25
  refine (thereN v _ (H.out.mod0 m1)).mono ?_
  rintro e w2 ⟨rfl, rfl⟩
  go_wp2_with fail
  go_ret
  exact ⟨rfl, m1⟩
theorem getN (v : Value) (k : Key) (w : World) (h : NoSt w v) : Calls Try.prog 10 #[v, .agg (kc k)] w fun e w' => e = .returned (.agg (av acct0)) ∧ Mod (fun _ => False) w w' := by
  have H := Lib.hid h
  clear h
  have hb0 := build0
  go_enter Try.func10, Try.ntmps10
  go_upto_region 0 with fail
  refine wp_pass0 (C := fun _ _ _ => False) (κ := fun i => [3, 3].getD i 0) [0, 1] (by kernel_rfl) (by kernel_rfl) (fun _ _ d _ _ h => by cases d <;> exact h) ?_
  (refine TD.box (v := ?v4) (by simp only [List.getElem?_toArray, List.getElem?_cons_succ, List.getElem?_cons_zero]; rfl) rfl ?hw4 rfl rfl ?hx4 (fun p3 hp3 => ?hn4); (case hw4 => rfl); (case hx4 => (simp only [Act.eval, Array.getD_eq_getD_getElem?, List.getElem?_toArray, List.getElem?_cons_succ, List.getElem?_cons_zero, Option.getD_some]; (try rfl))); (try simp only [Act.put, List.setIfInBounds_toArray, List.set_cons_zero, List.set_cons_succ]))
  (refine TD.allocB (by simp only [List.getElem?_toArray, List.getElem?_cons_succ, List.getElem?_cons_zero]; rfl) rfl ?hw5 rfl rfl alAcct (fun p4 hp4 => ?hn5); (case hw5 => rfl); (try simp only [Act.put, List.setIfInBounds_toArray, List.set_cons_zero, List.set_cons_succ]))
  obtain ⟨ne_p4_p3, hp4⟩ := Bx.set_none hp4
  refine TD.nil (fun w1 hr => ?_)
  have kp3 := hr.box p3 _ (by first | exact Bx.set_same _ _ _ | (simp only [Bx.set_ne _ (Ne.symm ne_p4_p3), Bx.set_ne _ ne_p4_p3, Bx.set_same]; rfl)); dsimp only [Value.cells] at kp3; obtain ⟨gp3, kp3⟩ := kp3
  have kp4 := hr.box p4 _ (by first | exact Bx.set_same _ _ _ | (simp only [Bx.set_ne _ (Ne.symm ne_p4_p3), Bx.set_ne _ ne_p4_p3, Bx.set_same]; rfl)); dsimp only [Value.cells] at kp4; obtain ⟨gp4, kp4⟩ := kp4
  have m1 := hr.mod
  go_wp2_with fail
  go_at_call 25
  refine (thereN v _ (H.out.mod0 m1)).mono ?_
  rintro e w2 ⟨rfl, rfl⟩
  go_upto_region 2 with fail
  have Lkp3 := lt_size kp3
  have Lkp4 := lt_size kp4
  refine wp_pass0 (C := fun _ _ _ => False) (κ := fun i => [0, 5].getD i 0) [0, 1] (by kernel_rfl) (by kernel_rfl) (fun _ _ d _ _ h => by cases d <;> exact h) ?_
  (refine TD.build (v := ?v6) (ps := ?p6) (by simp only [List.getElem?_toArray, List.getElem?_cons_succ, List.getElem?_cons_zero]; rfl) rfl ?hw6 rfl ?hx6 (fun w1 => ?hy6) ?hn6; (case hw6 => rfl); (case hx6 => (simp only [List.map_toArray, List.map_cons, List.map_nil, Act.eval, Array.getD_eq_getD_getElem?, List.getElem?_toArray, List.getElem?_cons_succ, List.getElem?_cons_zero, Option.getD_some]; (try rfl))); (case hy6 => (rw [hb0]; (try with_reducible rfl))); (try simp only [Act.put, List.setIfInBounds_toArray, List.set_cons_zero, List.set_cons_succ]))
  refine TD.eff (by simp only [List.getElem?_toArray, List.getElem?_cons_succ, List.getElem?_cons_zero]; rfl) rfl (fun wE hr => ?_)
  have kp3 := hr.mod.at0 kp3
  have kp4 := hr.mod.at0 kp4
  have mE := hr.mod
  (refine eff_store (X := ?X7) (Y := ?Y7) (w' := ?w7) (by simp only [List.getElem?_toArray, List.getElem?_cons_succ, List.getElem?_cons_zero]; rfl) ?hw7 rfl ?hx7 ?hz7 ?hy7 ?hn7; (case hw7 => rfl); (case hx7 => (simp only [Act.eval, Array.getD_eq_getD_getElem?, List.getElem?_toArray, List.getElem?_cons_succ, List.getElem?_cons_zero, Option.getD_some]; (try rfl))); (case hz7 => (simp only [Act.eval, Array.getD_eq_getD_getElem?, List.getElem?_toArray, List.getElem?_cons_succ, List.getElem?_cons_zero, Option.getD_some]; (try rfl))); (case hy7 => (go_simp; (try with_reducible rfl))))
  (first | refine TE.nil_set kp4 (fun w3 kp4 mS => ?_) | refine TE.nil_setCell kp4 (fun w3 kp4 mS => ?_))
  (try simp only [Array.setIfInBounds, List.setIfInBounds_toArray, List.set_cons_zero, List.set_cons_succ] at kp4)
  have kp3 := mS.at_ne kp3 (by omega)
  have m3 := (m1.then0 mE).thenB mS (.inl gp4)
  clear hb0
  go_wp2_with fail
  exact bodyPost_ret (results_cell1 (v := .agg (av acct0)) rfl rfl (by rw [ldAcct]; simp [kp4, av_size, av_all])) rfl ⟨rfl, m3⟩
theorem listN (v : Value) (w : World) (h : NoSt w v) : Calls Try.prog 11 #[v] w fun e w' => e = .returned (.slice none 0 0) ∧ Mod (fun _ => False) w w' := by
  have H := Lib.hid h
  clear h
  go_enter Try.func11, Try.ntmps11
  go_wp2_with fail
  go_at_call 25
  refine (thereN v _ H.out).mono ?_
  rintro e w2 ⟨rfl, rfl⟩
  go_wp2_with fail
  go_ret
  exact ⟨rfl, Mod.refl _ _⟩
theorem copyN (v : Value) (w : World) (h : NoSt w v) : Calls Try.prog 15 #[v] w fun e w' => e = .returned (.pointer none) ∧ Mod (fun _ => False) w w' := by
  have H := Lib.hid h
  clear h
  go_enter Try.func15, Try.ntmps15
  go_wp2_with fail
  go_at_call 25
  refine (thereN v _ H.out).mono ?_
  rintro e w2 ⟨rfl, rfl⟩
  go_wp2_with fail
  go_ret
  exact ⟨rfl, Mod.refl _ _⟩
/-- Is a store there? -/
structure Th (w : World) (v : Value) (x : Bool) : Prop where
  c : ∀ w', Mod (fun _ => False) w w' → Calls Try.prog 25 #[v] w' fun e w'' => e = .returned (.bool x) ∧ w' = w''
theorem NoSt.th {w : World} {v : Value} (h : NoSt w v) : Th w v false := ⟨fun w' hm => thereN v w' (h.mod0 hm)⟩
theorem th_p {w : World} {p b : Nat} (kp : w.heap[p]? = some (.cells #[.map (some b)] 62 (0, 0))) : Th w (.pointer (some ⟨p, 0, none⟩)) true := ⟨fun w' hm => thereP p b w' (hm.at0 kp)⟩
theorem sameN00 (v u : Value) (w : World) (h : Th w v false) (k : Th w u false) : Calls Try.prog 19 #[v, u] w fun e w' => e = .returned (.bool true) ∧ Mod (fun _ => False) w w' := by
  have H := Lib.hid h
  have K := Lib.hid k
  clear h k
  go_enter Try.func19, Try.ntmps19
  go_wp2_with fail
  go_at_call 25
  refine (H.out.c _ (Mod.refl _ _)).mono ?_
  rintro e w2 ⟨rfl, rfl⟩
  go_wp2_with fail
  go_at_call 25
  refine (H.out.c _ (Mod.refl _ _)).mono ?_
  rintro e w2 ⟨rfl, rfl⟩
  go_wp2_with fail
  go_at_call 25
  refine (K.out.c _ (Mod.refl _ _)).mono ?_
  rintro e w2 ⟨rfl, rfl⟩
  go_wp2_with fail
  go_ret
  exact ⟨rfl, Mod.refl _ _⟩
theorem sameN01 (v u : Value) (w : World) (h : Th w v false) (k : Th w u true) : Calls Try.prog 19 #[v, u] w fun e w' => e = .returned (.bool false) ∧ Mod (fun _ => False) w w' := by
  have H := Lib.hid h
  have K := Lib.hid k
  clear h k
  go_enter Try.func19, Try.ntmps19
  go_wp2_with fail
  go_at_call 25
  refine (H.out.c _ (Mod.refl _ _)).mono ?_
  rintro e w2 ⟨rfl, rfl⟩
  go_wp2_with fail
  go_at_call 25
  refine (H.out.c _ (Mod.refl _ _)).mono ?_
  rintro e w2 ⟨rfl, rfl⟩
  go_wp2_with fail
  go_at_call 25
  refine (K.out.c _ (Mod.refl _ _)).mono ?_
  rintro e w2 ⟨rfl, rfl⟩
  go_wp2_with fail
  go_ret
  exact ⟨rfl, Mod.refl _ _⟩
theorem sameN10 (v u : Value) (w : World) (h : Th w v true) (k : Th w u false) : Calls Try.prog 19 #[v, u] w fun e w' => e = .returned (.bool false) ∧ Mod (fun _ => False) w w' := by
  have H := Lib.hid h
  have K := Lib.hid k
  clear h k
  go_enter Try.func19, Try.ntmps19
  go_wp2_with fail
  go_at_call 25
  refine (H.out.c _ (Mod.refl _ _)).mono ?_
  rintro e w2 ⟨rfl, rfl⟩
  go_wp2_with fail
  go_at_call 25
  refine (K.out.c _ (Mod.refl _ _)).mono ?_
  rintro e w2 ⟨rfl, rfl⟩
  go_wp2_with fail
  go_at_call 25
  refine (H.out.c _ (Mod.refl _ _)).mono ?_
  rintro e w2 ⟨rfl, rfl⟩
  go_wp2_with fail
  go_at_call 25
  refine (K.out.c _ (Mod.refl _ _)).mono ?_
  rintro e w2 ⟨rfl, rfl⟩
  go_wp2_with fail
  go_ret
  exact ⟨rfl, Mod.refl _ _⟩
end Go.Proofs.Ytknmiojegnbakaa
