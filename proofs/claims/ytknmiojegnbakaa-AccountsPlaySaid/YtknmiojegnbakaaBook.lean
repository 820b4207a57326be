/- The book of lists, of holdings: number, key, Holdings. -/
import Derived.Test.YtknmiojegnbakaaRefQ
namespace Go.Proofs.Ytknmiojegnbakaa
open Go.RowKit
open Go.ChangeMaps (setBlock)
set_option linter.unusedSimpArgs false
set_option linter.unusedVariables false
attribute [local go_sem ↓] wlKey ldKey stKey wlAcct ldAcct stAcct wlHold ldHold stHold eqKey1 eqAcct eqHold
attribute [local go_sem] eqMap neMap av_size av_c av_s av_c' av_s' av_o av_all av_one hd_size hd_key hd_acct hd_all hd_one zKey_size zAcct_size zHold_size cell_blk frozen_blk kc_ext one_int one_bool one_ptr one_slice one_map kc_one kc_one0 kc_size Value.cells
/-- A page: where its list lies, how long it is (its room is none), its two signs. -/
structure Pg where
  a : Option Addr
  n : Nat
  h : Hold
  f : Hold
def sh (p : Pg) : Array Value := #[.slice p.a p.n p.n] ++ (hd p.h ++ (hd p.f ++ #[]))
theorem sh_size (p : Pg) : (sh p).size = 133 := by simp [sh, hd_size]
theorem sh_h (p : Pg) : (sh p).extract 1 67 = hd p.h := extract_app (n := 1) (m := 66) rfl (hd_size _)
theorem sh_f (p : Pg) : (sh p).extract 67 133 = hd p.f := by
  have := extract_app (a := #[.slice p.a p.n p.n] ++ hd p.h) (b := hd p.f) (c := #[]) (n := 67) (m := 66) (by simp [hd_size]) (hd_size _)
  simpa [sh, Array.append_assoc] using this
theorem sh_h2 (p : Pg) : (sh p).extract 1 (1 + 66) = hd p.h := sh_h p
theorem sh_f2 (p : Pg) : (sh p).extract 67 (67 + 66) = hd p.f := sh_f p
theorem sh_0 (p : Pg) : (sh p)[0]? = some (.slice p.a p.n p.n) := by
  unfold sh
  rw [Array.getElem?_append_left (by simp)]
  rfl
theorem sh_0' (p : Pg) (h : 0 < (sh p).size) : (sh p)[0] = .slice p.a p.n p.n := by
  have := sh_0 p
  rw [Array.getElem?_eq_getElem h] at this
  exact Option.some.inj this
abbrev sheetT : TypeId := 78
def pgc (p : Pg) : Array Value := #[.iface 78 (.agg (sh p))]
theorem pageT : ElT Try.prog 56 80 pgc 1 16 where
  u := Try.underlying56
  info := by
    obtain ⟨i0, hi, hz0, hz1, hz2⟩ := info_parts (show (Try.prog.info? 80).map (fun i => (i.zero, i.size, i.bytes)) = some (some .nilIface, 1, 16) by kernel_rfl)
    exact ⟨i0, _, hi, hz0, hz1, hz2, rfl⟩
  pos := by omega
  size x := rfl
  one x u hu := by
    simp [pgc] at hu
    subst hu
    rfl
def bkey (n z : UInt8) : Key := ⟨[n, 0, 77, 0, 0, 0, 0, 0, 0, 0, 0, 0, 0, 0, 0, 0, 0, 0, 0, 0, 0, 0, 0, 0, 0, 0, 0, 0, 0, 0, 0, z], rfl⟩
theorem bkb11 (w : World) : (Instr.build 28 #[(0, .int .u8 (IntKind.u8.wrap 1)), (1, .int .u8 (IntKind.u8.wrap (IntKind.i64.wrap 0))), (2, .int .u8 77), (31, .int .u8 1)]).run Try.prog w = .ok (.agg (kc (bkey 1 1))) w := by kernel_rfl
set_option maxRecDepth 20000 in
theorem key11 (w : World) : Calls Try.prog 36 #[.int .i64 1, .int .u8 1] w fun e w' => e = .returned (.agg (kc (bkey 1 1))) ∧ Mod (fun _ => False) w w' := by
  have hb := bkb11
  go_enter Try.func36, Try.ntmps36
  go_upto_region 0 with fail
  refine wp_pass0 (C := fun _ _ _ => False) (κ := fun i => [3].getD i 0) [0] (by kernel_rfl) (by kernel_rfl) (fun _ _ d _ _ h => by cases d <;> exact h) ?_
  (refine TD.allocB (by simp only [List.getElem?_toArray, List.getElem?_cons_succ, List.getElem?_cons_zero]; rfl) rfl ?hw1 rfl rfl alKey (fun p4 hp4 => ?hn1); (case hw1 => rfl); (try simp only [Act.put, List.setIfInBounds_toArray, List.set_cons_zero, List.set_cons_succ]))
  refine TD.nil (fun w1 hr => ?_)
  have kp4 := hr.box p4 _ (by first | exact Bx.set_same _ _ _ | (simp only [Bx.set_same]; rfl)); dsimp only [Value.cells] at kp4; obtain ⟨gp4, kp4⟩ := kp4
  have m1 := hr.mod
  go_upto_region 1 with fail
  have Lkp4 := lt_size kp4
  refine wp_pass0 (C := fun _ _ _ => False) (κ := fun i => [0, 0, 0, 0, 0, 0, 0, 5].getD i 0) [0, 1, 2, 3, 4, 5, 6, 7] (by kernel_rfl) (by kernel_rfl) (fun _ _ d _ _ h => by cases d <;> exact h) ?_
  (refine TD.val0 (v := ?v2) (by simp only [List.getElem?_toArray, List.getElem?_cons_succ, List.getElem?_cons_zero]; rfl) rfl ?hw2 (fun w1 => ?hy2) ?hn2; (case hw2 => rfl); (case hy2 => (go_simp; (try with_reducible rfl))); (try simp only [Act.put, List.setIfInBounds_toArray, List.set_cons_zero, List.set_cons_succ]))
  (refine TD.val0 (v := ?v3) (by simp only [List.getElem?_toArray, List.getElem?_cons_succ, List.getElem?_cons_zero]; rfl) rfl ?hw3 (fun w1 => ?hy3) ?hn3; (case hw3 => rfl); (case hy3 => (go_simp; (try with_reducible rfl))); (try simp only [Act.put, List.setIfInBounds_toArray, List.set_cons_zero, List.set_cons_succ]))
  (refine TD.val0 (v := ?v4) (by simp only [List.getElem?_toArray, List.getElem?_cons_succ, List.getElem?_cons_zero]; rfl) rfl ?hw4 (fun w1 => ?hy4) ?hn4; (case hw4 => rfl); (case hy4 => (go_simp; (try with_reducible rfl))); (try simp only [Act.put, List.setIfInBounds_toArray, List.set_cons_zero, List.set_cons_succ]))
  (refine TD.val0 (v := ?v5) (by simp only [List.getElem?_toArray, List.getElem?_cons_succ, List.getElem?_cons_zero]; rfl) rfl ?hw5 (fun w1 => ?hy5) ?hn5; (case hw5 => rfl); (case hy5 => (go_simp; (try with_reducible rfl))); (try simp only [Act.put, List.setIfInBounds_toArray, List.set_cons_zero, List.set_cons_succ]))
  (refine TD.val0 (v := ?v6) (by simp only [List.getElem?_toArray, List.getElem?_cons_succ, List.getElem?_cons_zero]; rfl) rfl ?hw6 (fun w1 => ?hy6) ?hn6; (case hw6 => rfl); (case hy6 => (go_simp; (try with_reducible rfl))); (try simp only [Act.put, List.setIfInBounds_toArray, List.set_cons_zero, List.set_cons_succ]))
  (refine TD.val0 (v := ?v7) (by simp only [List.getElem?_toArray, List.getElem?_cons_succ, List.getElem?_cons_zero]; rfl) rfl ?hw7 (fun w1 => ?hy7) ?hn7; (case hw7 => rfl); (case hy7 => (go_simp; (try with_reducible rfl))); (try simp only [Act.put, List.setIfInBounds_toArray, List.set_cons_zero, List.set_cons_succ]))
  (refine TD.build (v := ?v8) (ps := ?p8) (by simp only [List.getElem?_toArray, List.getElem?_cons_succ, List.getElem?_cons_zero]; rfl) rfl ?hw8 rfl ?hx8 (fun w1 => ?hy8) ?hn8; (case hw8 => rfl); (case hx8 => (simp only [List.map_toArray, List.map_cons, List.map_nil, Act.eval, Array.getD_eq_getD_getElem?, List.getElem?_toArray, List.getElem?_cons_succ, List.getElem?_cons_zero, Option.getD_some]; (try rfl))); (case hy8 => (rw [hb]; (try with_reducible rfl))); (try simp only [Act.put, List.setIfInBounds_toArray, List.set_cons_zero, List.set_cons_succ]))
  refine TD.eff (by simp only [List.getElem?_toArray, List.getElem?_cons_succ, List.getElem?_cons_zero]; rfl) rfl (fun wE hr => ?_)
  have kp4 := hr.mod.at0 kp4
  have mE := hr.mod
  (refine eff_store (X := ?X9) (Y := ?Y9) (w' := ?w9) (by simp only [List.getElem?_toArray, List.getElem?_cons_succ, List.getElem?_cons_zero]; rfl) ?hw9 rfl ?hx9 ?hz9 ?hy9 ?hn9; (case hw9 => rfl); (case hx9 => (simp only [Act.eval, Array.getD_eq_getD_getElem?, List.getElem?_toArray, List.getElem?_cons_succ, List.getElem?_cons_zero, Option.getD_some]; (try rfl))); (case hz9 => (simp only [Act.eval, Array.getD_eq_getD_getElem?, List.getElem?_toArray, List.getElem?_cons_succ, List.getElem?_cons_zero, Option.getD_some]; (try rfl))); (case hy9 => (go_simp; (try with_reducible rfl))))
  (first | refine TE.nil_set kp4 (fun w2 kp4 mS => ?_) | refine TE.nil_setCell kp4 (fun w2 kp4 mS => ?_))
  (try simp only [Array.setIfInBounds, List.setIfInBounds_toArray, List.set_cons_zero, List.set_cons_succ] at kp4)
  have m2 := (m1.then0 mE).thenB mS (.inl gp4)
  go_wp2_with fail
  exact bodyPost_ret (results_cell1 (v := .agg (kc (bkey 1 1))) rfl rfl (by rw [ldKey]; simp [kp4, kc_size, kc_ext])) rfl ⟨rfl, m2⟩
theorem bkb12 (w : World) : (Instr.build 28 #[(0, .int .u8 (IntKind.u8.wrap 1)), (1, .int .u8 (IntKind.u8.wrap (IntKind.i64.wrap 0))), (2, .int .u8 77), (31, .int .u8 2)]).run Try.prog w = .ok (.agg (kc (bkey 1 2))) w := by kernel_rfl
set_option maxRecDepth 20000 in
theorem key12 (w : World) : Calls Try.prog 36 #[.int .i64 1, .int .u8 2] w fun e w' => e = .returned (.agg (kc (bkey 1 2))) ∧ Mod (fun _ => False) w w' := by
  have hb := bkb12
  go_enter Try.func36, Try.ntmps36
  go_upto_region 0 with fail
  refine wp_pass0 (C := fun _ _ _ => False) (κ := fun i => [3].getD i 0) [0] (by kernel_rfl) (by kernel_rfl) (fun _ _ d _ _ h => by cases d <;> exact h) ?_
  (refine TD.allocB (by simp only [List.getElem?_toArray, List.getElem?_cons_succ, List.getElem?_cons_zero]; rfl) rfl ?hw10 rfl rfl alKey (fun p4 hp4 => ?hn10); (case hw10 => rfl); (try simp only [Act.put, List.setIfInBounds_toArray, List.set_cons_zero, List.set_cons_succ]))
  refine TD.nil (fun w1 hr => ?_)
  have kp4 := hr.box p4 _ (by first | exact Bx.set_same _ _ _ | (simp only [Bx.set_same]; rfl)); dsimp only [Value.cells] at kp4; obtain ⟨gp4, kp4⟩ := kp4
  have m1 := hr.mod
  go_upto_region 1 with fail
  have Lkp4 := lt_size kp4
  refine wp_pass0 (C := fun _ _ _ => False) (κ := fun i => [0, 0, 0, 0, 0, 0, 0, 5].getD i 0) [0, 1, 2, 3, 4, 5, 6, 7] (by kernel_rfl) (by kernel_rfl) (fun _ _ d _ _ h => by cases d <;> exact h) ?_
  (refine TD.val0 (v := ?v11) (by simp only [List.getElem?_toArray, List.getElem?_cons_succ, List.getElem?_cons_zero]; rfl) rfl ?hw11 (fun w1 => ?hy11) ?hn11; (case hw11 => rfl); (case hy11 => (go_simp; (try with_reducible rfl))); (try simp only [Act.put, List.setIfInBounds_toArray, List.set_cons_zero, List.set_cons_succ]))
  (refine TD.val0 (v := ?v12) (by simp only [List.getElem?_toArray, List.getElem?_cons_succ, List.getElem?_cons_zero]; rfl) rfl ?hw12 (fun w1 => ?hy12) ?hn12; (case hw12 => rfl); (case hy12 => (go_simp; (try with_reducible rfl))); (try simp only [Act.put, List.setIfInBounds_toArray, List.set_cons_zero, List.set_cons_succ]))
  (refine TD.val0 (v := ?v13) (by simp only [List.getElem?_toArray, List.getElem?_cons_succ, List.getElem?_cons_zero]; rfl) rfl ?hw13 (fun w1 => ?hy13) ?hn13; (case hw13 => rfl); (case hy13 => (go_simp; (try with_reducible rfl))); (try simp only [Act.put, List.setIfInBounds_toArray, List.set_cons_zero, List.set_cons_succ]))
  (refine TD.val0 (v := ?v14) (by simp only [List.getElem?_toArray, List.getElem?_cons_succ, List.getElem?_cons_zero]; rfl) rfl ?hw14 (fun w1 => ?hy14) ?hn14; (case hw14 => rfl); (case hy14 => (go_simp; (try with_reducible rfl))); (try simp only [Act.put, List.setIfInBounds_toArray, List.set_cons_zero, List.set_cons_succ]))
  (refine TD.val0 (v := ?v15) (by simp only [List.getElem?_toArray, List.getElem?_cons_succ, List.getElem?_cons_zero]; rfl) rfl ?hw15 (fun w1 => ?hy15) ?hn15; (case hw15 => rfl); (case hy15 => (go_simp; (try with_reducible rfl))); (try simp only [Act.put, List.setIfInBounds_toArray, List.set_cons_zero, List.set_cons_succ]))
  (refine TD.val0 (v := ?v16) (by simp only [List.getElem?_toArray, List.getElem?_cons_succ, List.getElem?_cons_zero]; rfl) rfl ?hw16 (fun w1 => ?hy16) ?hn16; (case hw16 => rfl); (case hy16 => (go_simp; (try with_reducible rfl))); (try simp only [Act.put, List.setIfInBounds_toArray, List.set_cons_zero, List.set_cons_succ]))
  (refine TD.build (v := ?v17) (ps := ?p17) (by simp only [List.getElem?_toArray, List.getElem?_cons_succ, List.getElem?_cons_zero]; rfl) rfl ?hw17 rfl ?hx17 (fun w1 => ?hy17) ?hn17; (case hw17 => rfl); (case hx17 => (simp only [List.map_toArray, List.map_cons, List.map_nil, Act.eval, Array.getD_eq_getD_getElem?, List.getElem?_toArray, List.getElem?_cons_succ, List.getElem?_cons_zero, Option.getD_some]; (try rfl))); (case hy17 => (rw [hb]; (try with_reducible rfl))); (try simp only [Act.put, List.setIfInBounds_toArray, List.set_cons_zero, List.set_cons_succ]))
  refine TD.eff (by simp only [List.getElem?_toArray, List.getElem?_cons_succ, List.getElem?_cons_zero]; rfl) rfl (fun wE hr => ?_)
  have kp4 := hr.mod.at0 kp4
  have mE := hr.mod
  (refine eff_store (X := ?X18) (Y := ?Y18) (w' := ?w18) (by simp only [List.getElem?_toArray, List.getElem?_cons_succ, List.getElem?_cons_zero]; rfl) ?hw18 rfl ?hx18 ?hz18 ?hy18 ?hn18; (case hw18 => rfl); (case hx18 => (simp only [Act.eval, Array.getD_eq_getD_getElem?, List.getElem?_toArray, List.getElem?_cons_succ, List.getElem?_cons_zero, Option.getD_some]; (try rfl))); (case hz18 => (simp only [Act.eval, Array.getD_eq_getD_getElem?, List.getElem?_toArray, List.getElem?_cons_succ, List.getElem?_cons_zero, Option.getD_some]; (try rfl))); (case hy18 => (go_simp; (try with_reducible rfl))))
  (first | refine TE.nil_set kp4 (fun w2 kp4 mS => ?_) | refine TE.nil_setCell kp4 (fun w2 kp4 mS => ?_))
  (try simp only [Array.setIfInBounds, List.setIfInBounds_toArray, List.set_cons_zero, List.set_cons_succ] at kp4)
  have m2 := (m1.then0 mE).thenB mS (.inl gp4)
  go_wp2_with fail
  exact bodyPost_ret (results_cell1 (v := .agg (kc (bkey 1 2))) rfl rfl (by rw [ldKey]; simp [kp4, kc_size, kc_ext])) rfl ⟨rfl, m2⟩
theorem bkb21 (w : World) : (Instr.build 28 #[(0, .int .u8 (IntKind.u8.wrap 2)), (1, .int .u8 (IntKind.u8.wrap (IntKind.i64.wrap 0))), (2, .int .u8 77), (31, .int .u8 1)]).run Try.prog w = .ok (.agg (kc (bkey 2 1))) w := by kernel_rfl
set_option maxRecDepth 20000 in
theorem key21 (w : World) : Calls Try.prog 36 #[.int .i64 2, .int .u8 1] w fun e w' => e = .returned (.agg (kc (bkey 2 1))) ∧ Mod (fun _ => False) w w' := by
  have hb := bkb21
  go_enter Try.func36, Try.ntmps36
  go_upto_region 0 with fail
  refine wp_pass0 (C := fun _ _ _ => False) (κ := fun i => [3].getD i 0) [0] (by kernel_rfl) (by kernel_rfl) (fun _ _ d _ _ h => by cases d <;> exact h) ?_
  (refine TD.allocB (by simp only [List.getElem?_toArray, List.getElem?_cons_succ, List.getElem?_cons_zero]; rfl) rfl ?hw19 rfl rfl alKey (fun p4 hp4 => ?hn19); (case hw19 => rfl); (try simp only [Act.put, List.setIfInBounds_toArray, List.set_cons_zero, List.set_cons_succ]))
  refine TD.nil (fun w1 hr => ?_)
  have kp4 := hr.box p4 _ (by first | exact Bx.set_same _ _ _ | (simp only [Bx.set_same]; rfl)); dsimp only [Value.cells] at kp4; obtain ⟨gp4, kp4⟩ := kp4
  have m1 := hr.mod
  go_upto_region 1 with fail
  have Lkp4 := lt_size kp4
  refine wp_pass0 (C := fun _ _ _ => False) (κ := fun i => [0, 0, 0, 0, 0, 0, 0, 5].getD i 0) [0, 1, 2, 3, 4, 5, 6, 7] (by kernel_rfl) (by kernel_rfl) (fun _ _ d _ _ h => by cases d <;> exact h) ?_
  (refine TD.val0 (v := ?v20) (by simp only [List.getElem?_toArray, List.getElem?_cons_succ, List.getElem?_cons_zero]; rfl) rfl ?hw20 (fun w1 => ?hy20) ?hn20; (case hw20 => rfl); (case hy20 => (go_simp; (try with_reducible rfl))); (try simp only [Act.put, List.setIfInBounds_toArray, List.set_cons_zero, List.set_cons_succ]))
  (refine TD.val0 (v := ?v21) (by simp only [List.getElem?_toArray, List.getElem?_cons_succ, List.getElem?_cons_zero]; rfl) rfl ?hw21 (fun w1 => ?hy21) ?hn21; (case hw21 => rfl); (case hy21 => (go_simp; (try with_reducible rfl))); (try simp only [Act.put, List.setIfInBounds_toArray, List.set_cons_zero, List.set_cons_succ]))
  (refine TD.val0 (v := ?v22) (by simp only [List.getElem?_toArray, List.getElem?_cons_succ, List.getElem?_cons_zero]; rfl) rfl ?hw22 (fun w1 => ?hy22) ?hn22; (case hw22 => rfl); (case hy22 => (go_simp; (try with_reducible rfl))); (try simp only [Act.put, List.setIfInBounds_toArray, List.set_cons_zero, List.set_cons_succ]))
  (refine TD.val0 (v := ?v23) (by simp only [List.getElem?_toArray, List.getElem?_cons_succ, List.getElem?_cons_zero]; rfl) rfl ?hw23 (fun w1 => ?hy23) ?hn23; (case hw23 => rfl); (case hy23 => (go_simp; (try with_reducible rfl))); (try simp only [Act.put, List.setIfInBounds_toArray, List.set_cons_zero, List.set_cons_succ]))
  (refine TD.val0 (v := ?v24) (by simp only [List.getElem?_toArray, List.getElem?_cons_succ, List.getElem?_cons_zero]; rfl) rfl ?hw24 (fun w1 => ?hy24) ?hn24; (case hw24 => rfl); (case hy24 => (go_simp; (try with_reducible rfl))); (try simp only [Act.put, List.setIfInBounds_toArray, List.set_cons_zero, List.set_cons_succ]))
  (refine TD.val0 (v := ?v25) (by simp only [List.getElem?_toArray, List.getElem?_cons_succ, List.getElem?_cons_zero]; rfl) rfl ?hw25 (fun w1 => ?hy25) ?hn25; (case hw25 => rfl); (case hy25 => (go_simp; (try with_reducible rfl))); (try simp only [Act.put, List.setIfInBounds_toArray, List.set_cons_zero, List.set_cons_succ]))
  (refine TD.build (v := ?v26) (ps := ?p26) (by simp only [List.getElem?_toArray, List.getElem?_cons_succ, List.getElem?_cons_zero]; rfl) rfl ?hw26 rfl ?hx26 (fun w1 => ?hy26) ?hn26; (case hw26 => rfl); (case hx26 => (simp only [List.map_toArray, List.map_cons, List.map_nil, Act.eval, Array.getD_eq_getD_getElem?, List.getElem?_toArray, List.getElem?_cons_succ, List.getElem?_cons_zero, Option.getD_some]; (try rfl))); (case hy26 => (rw [hb]; (try with_reducible rfl))); (try simp only [Act.put, List.setIfInBounds_toArray, List.set_cons_zero, List.set_cons_succ]))
  refine TD.eff (by simp only [List.getElem?_toArray, List.getElem?_cons_succ, List.getElem?_cons_zero]; rfl) rfl (fun wE hr => ?_)
  have kp4 := hr.mod.at0 kp4
  have mE := hr.mod
  (refine eff_store (X := ?X27) (Y := ?Y27) (w' := ?w27) (by simp only [List.getElem?_toArray, List.getElem?_cons_succ, List.getElem?_cons_zero]; rfl) ?hw27 rfl ?hx27 ?hz27 ?hy27 ?hn27; (case hw27 => rfl); (case hx27 => (simp only [Act.eval, Array.getD_eq_getD_getElem?, List.getElem?_toArray, List.getElem?_cons_succ, List.getElem?_cons_zero, Option.getD_some]; (try rfl))); (case hz27 => (simp only [Act.eval, Array.getD_eq_getD_getElem?, List.getElem?_toArray, List.getElem?_cons_succ, List.getElem?_cons_zero, Option.getD_some]; (try rfl))); (case hy27 => (go_simp; (try with_reducible rfl))))
  (first | refine TE.nil_set kp4 (fun w2 kp4 mS => ?_) | refine TE.nil_setCell kp4 (fun w2 kp4 mS => ?_))
  (try simp only [Array.setIfInBounds, List.setIfInBounds_toArray, List.set_cons_zero, List.set_cons_succ] at kp4)
  have m2 := (m1.then0 mE).thenB mS (.inl gp4)
  go_wp2_with fail
  exact bodyPost_ret (results_cell1 (v := .agg (kc (bkey 2 1))) rfl rfl (by rw [ldKey]; simp [kp4, kc_size, kc_ext])) rfl ⟨rfl, m2⟩
theorem bkb22 (w : World) : (Instr.build 28 #[(0, .int .u8 (IntKind.u8.wrap 2)), (1, .int .u8 (IntKind.u8.wrap (IntKind.i64.wrap 0))), (2, .int .u8 77), (31, .int .u8 2)]).run Try.prog w = .ok (.agg (kc (bkey 2 2))) w := by kernel_rfl
set_option maxRecDepth 20000 in
theorem key22 (w : World) : Calls Try.prog 36 #[.int .i64 2, .int .u8 2] w fun e w' => e = .returned (.agg (kc (bkey 2 2))) ∧ Mod (fun _ => False) w w' := by
  have hb := bkb22
  go_enter Try.func36, Try.ntmps36
  go_upto_region 0 with fail
  refine wp_pass0 (C := fun _ _ _ => False) (κ := fun i => [3].getD i 0) [0] (by kernel_rfl) (by kernel_rfl) (fun _ _ d _ _ h => by cases d <;> exact h) ?_
  (refine TD.allocB (by simp only [List.getElem?_toArray, List.getElem?_cons_succ, List.getElem?_cons_zero]; rfl) rfl ?hw28 rfl rfl alKey (fun p4 hp4 => ?hn28); (case hw28 => rfl); (try simp only [Act.put, List.setIfInBounds_toArray, List.set_cons_zero, List.set_cons_succ]))
  refine TD.nil (fun w1 hr => ?_)
  have kp4 := hr.box p4 _ (by first | exact Bx.set_same _ _ _ | (simp only [Bx.set_same]; rfl)); dsimp only [Value.cells] at kp4; obtain ⟨gp4, kp4⟩ := kp4
  have m1 := hr.mod
  go_upto_region 1 with fail
  have Lkp4 := lt_size kp4
  refine wp_pass0 (C := fun _ _ _ => False) (κ := fun i => [0, 0, 0, 0, 0, 0, 0, 5].getD i 0) [0, 1, 2, 3, 4, 5, 6, 7] (by kernel_rfl) (by kernel_rfl) (fun _ _ d _ _ h => by cases d <;> exact h) ?_
  (refine TD.val0 (v := ?v29) (by simp only [List.getElem?_toArray, List.getElem?_cons_succ, List.getElem?_cons_zero]; rfl) rfl ?hw29 (fun w1 => ?hy29) ?hn29; (case hw29 => rfl); (case hy29 => (go_simp; (try with_reducible rfl))); (try simp only [Act.put, List.setIfInBounds_toArray, List.set_cons_zero, List.set_cons_succ]))
  (refine TD.val0 (v := ?v30) (by simp only [List.getElem?_toArray, List.getElem?_cons_succ, List.getElem?_cons_zero]; rfl) rfl ?hw30 (fun w1 => ?hy30) ?hn30; (case hw30 => rfl); (case hy30 => (go_simp; (try with_reducible rfl))); (try simp only [Act.put, List.setIfInBounds_toArray, List.set_cons_zero, List.set_cons_succ]))
  (refine TD.val0 (v := ?v31) (by simp only [List.getElem?_toArray, List.getElem?_cons_succ, List.getElem?_cons_zero]; rfl) rfl ?hw31 (fun w1 => ?hy31) ?hn31; (case hw31 => rfl); (case hy31 => (go_simp; (try with_reducible rfl))); (try simp only [Act.put, List.setIfInBounds_toArray, List.set_cons_zero, List.set_cons_succ]))
  (refine TD.val0 (v := ?v32) (by simp only [List.getElem?_toArray, List.getElem?_cons_succ, List.getElem?_cons_zero]; rfl) rfl ?hw32 (fun w1 => ?hy32) ?hn32; (case hw32 => rfl); (case hy32 => (go_simp; (try with_reducible rfl))); (try simp only [Act.put, List.setIfInBounds_toArray, List.set_cons_zero, List.set_cons_succ]))
  (refine TD.val0 (v := ?v33) (by simp only [List.getElem?_toArray, List.getElem?_cons_succ, List.getElem?_cons_zero]; rfl) rfl ?hw33 (fun w1 => ?hy33) ?hn33; (case hw33 => rfl); (case hy33 => (go_simp; (try with_reducible rfl))); (try simp only [Act.put, List.setIfInBounds_toArray, List.set_cons_zero, List.set_cons_succ]))
  (refine TD.val0 (v := ?v34) (by simp only [List.getElem?_toArray, List.getElem?_cons_succ, List.getElem?_cons_zero]; rfl) rfl ?hw34 (fun w1 => ?hy34) ?hn34; (case hw34 => rfl); (case hy34 => (go_simp; (try with_reducible rfl))); (try simp only [Act.put, List.setIfInBounds_toArray, List.set_cons_zero, List.set_cons_succ]))
  (refine TD.build (v := ?v35) (ps := ?p35) (by simp only [List.getElem?_toArray, List.getElem?_cons_succ, List.getElem?_cons_zero]; rfl) rfl ?hw35 rfl ?hx35 (fun w1 => ?hy35) ?hn35; (case hw35 => rfl); (case hx35 => (simp only [List.map_toArray, List.map_cons, List.map_nil, Act.eval, Array.getD_eq_getD_getElem?, List.getElem?_toArray, List.getElem?_cons_succ, List.getElem?_cons_zero, Option.getD_some]; (try rfl))); (case hy35 => (rw [hb]; (try with_reducible rfl))); (try simp only [Act.put, List.setIfInBounds_toArray, List.set_cons_zero, List.set_cons_succ]))
  refine TD.eff (by simp only [List.getElem?_toArray, List.getElem?_cons_succ, List.getElem?_cons_zero]; rfl) rfl (fun wE hr => ?_)
  have kp4 := hr.mod.at0 kp4
  have mE := hr.mod
  (refine eff_store (X := ?X36) (Y := ?Y36) (w' := ?w36) (by simp only [List.getElem?_toArray, List.getElem?_cons_succ, List.getElem?_cons_zero]; rfl) ?hw36 rfl ?hx36 ?hz36 ?hy36 ?hn36; (case hw36 => rfl); (case hx36 => (simp only [Act.eval, Array.getD_eq_getD_getElem?, List.getElem?_toArray, List.getElem?_cons_succ, List.getElem?_cons_zero, Option.getD_some]; (try rfl))); (case hz36 => (simp only [Act.eval, Array.getD_eq_getD_getElem?, List.getElem?_toArray, List.getElem?_cons_succ, List.getElem?_cons_zero, Option.getD_some]; (try rfl))); (case hy36 => (go_simp; (try with_reducible rfl))))
  (first | refine TE.nil_set kp4 (fun w2 kp4 mS => ?_) | refine TE.nil_setCell kp4 (fun w2 kp4 mS => ?_))
  (try simp only [Array.setIfInBounds, List.setIfInBounds_toArray, List.set_cons_zero, List.set_cons_succ] at kp4)
  have m2 := (m1.then0 mE).thenB mS (.inl gp4)
  go_wp2_with fail
  exact bodyPost_ret (results_cell1 (v := .agg (kc (bkey 2 2))) rfl rfl (by rw [ldKey]; simp [kp4, kc_size, kc_ext])) rfl ⟨rfl, m2⟩
/-- The book holds these pages, in no block of X. -/
def BAt (w : World) (r base : Nat) (X : Nat → Prop) (L : List Pg) : Prop := ∃ v, w.heap[r]? = some (.cells #[v] 58 (0, 0)) ∧ SlOwn pgc 1 80 w base v L ∧ ∀ k, v.ownBlock = some k → ¬ X k
theorem BAt.mod {w w' : World} {r base : Nat} {X : Nat → Prop} {L : List Pg} {S : Nat → Prop} (h : BAt w r base X L) (hm : Mod S w w') (hr : ¬ S r) (hS : ∀ i, S i → X i) : BAt w' r base X L := by
  obtain ⟨v, k, hO, hX⟩ := h
  exact ⟨v, hm.at k hr, hO.mod hm (fun b hb hs => hX b hb (hS b hs)), hX⟩
theorem BAt.mod0 {w w' : World} {r base : Nat} {X : Nat → Prop} {L : List Pg} (h : BAt w r base X L) (hm : Mod (fun _ => False) w w') : BAt w' r base X L := h.mod hm (fun h => h) (fun _ h => h.elim)
/-- More blocks that it is not in. -/
theorem BAt.more {w : World} {r base : Nat} {X Y : Nat → Prop} {L : List Pg} (h : BAt w r base X L) (hY : ∀ i, Y i → X i ∨ w.heap.size ≤ i) : BAt w r base Y L := by
  obtain ⟨v, k, hO, hX⟩ := h
  exact ⟨v, k, hO, fun b hb hy => by
    rcases hY b hy with h | h
    · exact hX b hb h
    · have := (hO.lt b hb).2; omega⟩
theorem BAt.sub {w : World} {r base : Nat} {X Y : Nat → Prop} {L : List Pg} (h : BAt w r base X L) (hY : ∀ i, Y i → X i) : BAt w r base Y L := h.more (fun i hi => .inl (hY i hi))
theorem number_c (r base : Nat) (X : Nat → Prop) (L : List Pg) (w : World) (h : BAt w r base X L) (hL : L.length ≤ 100) : Calls Try.prog 35 #[.pointer (some ⟨r, 0, none⟩)] w fun e w' => e = .returned (.int .i64 ((L.length + 1 : Nat) : Int)) ∧ w' = w := by
  obtain ⟨v, kr, hO, _⟩ := h
  obtain ⟨a, c, rfl, _⟩ := hO.at pageT
  clear hO
  have hw : IntKind.i64.wrap ((L.length : Int) + 1) = ((L.length + 1 : Nat) : Int) := by
    rw [IntKind.wrap_i64]
    omega
  go_enter Try.func35, Try.ntmps35
  go_wp2_with fail
  go_ret
  exact ⟨by first | rfl | simp, rfl⟩
def hk (k : Key) : Hold := ⟨k, acct0⟩
theorem bldHk (k : Key) (w : World) : (Instr.build 38 #[(0, .agg (kc k))]).run Try.prog w = .ok (.agg (hd (hk k))) w := by
  refine run_build_struct (z := .agg zHold) (places := #[(0, 32), (32, 34)]) Try.underlying38 (fun w => by kernel_rfl) (fun w => by kernel_rfl) ?_ w
  show Instr.fill _ zHold [(0, _)] = _
  rw [fill_cons (off := 0) (n := 32) rfl (by simp [Value.cells]) (by rw [zHold_size]; omega)]
  refine congrArg some ?_
  apply Array.toList_inj.1
  have hk' : (kc k).toList.length = 32 := by simp
  rw [wr_list _ _ _ (by rw [zHold_size]; simp [Value.cells])]
  have e : zHold.toList.drop 32 = (av acct0).toList := by
    rw [← zAcct_eq]
    unfold zHold
    rw [Array.toList_append, List.drop_append_of_le_length (by simp), List.drop_of_length_le (by simp), List.nil_append]
  simp only [Value.cells, hd, hk, Array.toList_append, List.append_nil, List.take_zero, List.nil_append, hk', Nat.zero_add, e]
def zSh : Array Value := #[.slice none 0 0] ++ (zHold ++ zHold)
theorem zSh_size : zSh.size = 133 := by simp [zSh, zHold_size]
theorem bldSh (p : Pg) (w : World) : (Instr.build 78 #[(0, .slice p.a p.n p.n), (1, .agg (hd p.h)), (2, .agg (hd p.f))]).run Try.prog w = .ok (.agg (sh p)) w := by
  refine run_build_struct (z := .agg zSh) (places := #[(0, 1), (1, 66), (67, 66)]) Try.underlying78 (fun w => by kernel_rfl) (fun w => by kernel_rfl) ?_ w
  show Instr.fill _ zSh [(0, _), (1, _), (2, _)] = _
  rw [fill_cons (off := 0) (n := 1) rfl rfl (by rw [zSh_size]; omega), fill_cons (off := 1) (n := 66) rfl (by simp [Value.cells, hd_size]) (by rw [wr_size, zSh_size]; omega), fill_cons (off := 67) (n := 66) rfl (by simp [Value.cells, hd_size]) (by rw [wr_size, wr_size, zSh_size]; omega)]
  refine congrArg some ?_
  apply Array.toList_inj.1
  have h1 : (hd p.h).toList.length = 66 := by rw [Array.length_toList, hd_size]
  have h2 : (hd p.f).toList.length = 66 := by rw [Array.length_toList, hd_size]
  have hz : zSh.toList.length = 133 := by rw [Array.length_toList, zSh_size]
  obtain ⟨z0, z1, hz01⟩ : ∃ z0 z1, zSh.toList = z0 :: z1 := by
    cases h : zSh.toList with
    | nil => rw [h] at hz; simp at hz
    | cons x y => exact ⟨x, y, rfl⟩
  have hz1 : z1.length = 132 := by rw [hz01] at hz; simpa using hz
  rw [wr_list _ _ _ (by rw [wr_size, wr_size, zSh_size]; simp [Value.cells, hd_size]), wr_list _ _ _ (by rw [wr_size, zSh_size]; simp [Value.cells, hd_size]), wr_list _ _ _ (by rw [zSh_size]; simp [Value.cells])]
  simp only [Value.cells, sh, Array.toList_append, List.append_nil, List.take_zero, List.nil_append, h1, h2, hz01]
  simp only [List.length_cons, List.length_nil, List.drop_succ_cons, List.drop_zero, List.cons_append, List.nil_append, List.take_succ_cons, List.take_zero, Nat.zero_add]
  rw [List.take_append_of_le_length (by simp [h1]), List.take_of_length_le (by simp [h1]), List.drop_of_length_le (by simp [h1, h2, hz1])]
  simp
theorem bsPage (p : Pg) (w : World) : (Instr.buildSlice 56 1 #[(0, .iface 78 (.agg (sh p)))]).run Try.prog w = .ok (.slice (some ⟨w.heap.size, 0, none⟩) 1 1) (w.alloc (.cells (pgc p) 80)) := by
  obtain ⟨i0, z, hi, hz, hz1, hz2, hz3⟩ := pageT.info
  refine run_buildSlice w _ _ 1 _ _ i0 _ Try.underlying56 hi hz (by rw [hz1]; omega) (by rw [hz1]; omega) ?_
  rw [hz1]
  show Instr.fill _ _ [(0, _)] = _
  rw [fill_cons (off := 0) (n := 1) rfl rfl (by simp)]
  show some (wr _ 0 (pgc p).toList) = _
  rw [wr_whole (pgc p) _ (by simp [pgc, hz3])]
set_option maxRecDepth 20000 in
set_option maxHeartbeats 1600000 in
theorem hold1_c (r base : Nat) (X : Nat → Prop) (L : List Pg) (hlen : L.length = 0) (a : Option Addr) (n : Nat) (w : World) (h : BAt w r base X L) (hb : base ≤ w.heap.size) (hrb : r < base) (hXl : ∀ i, X i → i < w.heap.size) : Calls Try.prog 23 #[.pointer (some ⟨r, 0, none⟩), .slice a n n] w fun e w' => e = .returned (.tuple #[]) ∧ BAt w' r base X (L ++ [(⟨a, n, hk (bkey 1 1), hk (bkey 1 2)⟩ : Pg)]) ∧ Mod (fun i => i = r ∨ (base ≤ i ∧ ¬ X i)) w w' := by
  have hnum := number_c r base X L w h (by omega)
  rw [hlen] at hnum
  obtain ⟨v, kr, hO, hX⟩ := h
  obtain ⟨pa, pc, rfl, _⟩ := hO.at pageT
  have HO := Lib.hid hO
  have HX := Lib.hid hX
  have HXL := Lib.hid hXl
  clear hO hX hXl
  go_enter Try.func23, Try.ntmps23
  go_wp2_with fail
  go_at_call 35
  refine hnum.mono ?_
  rintro e w1 ⟨rfl, rfl⟩
  clear hnum
  have hk1 := bldHk (bkey 1 1)
  have hk2 := bldHk (bkey 1 2)
  have hsh := bldSh ⟨a, n, hk (bkey 1 1), hk (bkey 1 2)⟩
  have hbp := bsPage ⟨a, n, hk (bkey 1 1), hk (bkey 1 2)⟩
  have HLen := Lib.hid hlen
  clear hlen
  go_upto_region 1 with fail
  have Lkr := lt_size kr
  refine wp_pass (C := fun _ args v => (args = #[.int .i64 1, .int .u8 1] → v = .agg (kc (bkey 1 1))) ∧ (args = #[.int .i64 1, .int .u8 2] → v = .agg (kc (bkey 1 2)))) (κ := fun i => [0, 0, 0, 0, 1, 0, 0, 2, 0, 0, 2, 0, 0, 0, 3, 5, 0, 0, 6].getD i 0) [0, 1, 2, 3, 4, 5, 6, 7, 8, 9, 10, 11, 12, 13, 14, 15, 16, 17, 18] (by kernel_rfl) (by kernel_rfl) (fun _ _ d _ _ h => by cases d <;> exact h) ?_
  (refine TD.val0 (v := ?v37) (by simp only [List.getElem?_toArray, List.getElem?_cons_succ, List.getElem?_cons_zero]; rfl) rfl ?hw37 (fun w1 => ?hy37) ?hn37; (case hw37 => rfl); (case hy37 => (go_simp; (try with_reducible rfl))); (try simp only [Act.put, List.setIfInBounds_toArray, List.set_cons_zero, List.set_cons_succ]))
  (refine TD.val0 (v := ?v38) (by simp only [List.getElem?_toArray, List.getElem?_cons_succ, List.getElem?_cons_zero]; rfl) rfl ?hw38 (fun w1 => ?hy38) ?hn38; (case hw38 => rfl); (case hy38 => (go_simp; (try with_reducible rfl))); (try simp only [Act.put, List.setIfInBounds_toArray, List.set_cons_zero, List.set_cons_succ]))
  (refine TD.val0 (v := ?v39) (by simp only [List.getElem?_toArray, List.getElem?_cons_succ, List.getElem?_cons_zero]; rfl) rfl ?hw39 (fun w1 => ?hy39) ?hn39; (case hw39 => rfl); (case hy39 => (go_simp; (try with_reducible rfl))); (try simp only [Act.put, List.setIfInBounds_toArray, List.set_cons_zero, List.set_cons_succ]))
  (refine TD.val0 (v := ?v40) (by simp only [List.getElem?_toArray, List.getElem?_cons_succ, List.getElem?_cons_zero]; rfl) rfl ?hw40 (fun w1 => ?hy40) ?hn40; (case hw40 => rfl); (case hy40 => (go_simp; (try with_reducible rfl))); (try simp only [Act.put, List.setIfInBounds_toArray, List.set_cons_zero, List.set_cons_succ]))
  (refine TD.load (v := ?v41) (p := ?p41) (Mod.refl _ _) (by simp only [List.getElem?_toArray, List.getElem?_cons_succ, List.getElem?_cons_zero]; rfl) rfl ?hw41 rfl ?hx41 (fun wq hSq => ?hy41) ?hn41; (case hw41 => rfl); (case hx41 => (simp only [Act.eval, Array.getD_eq_getD_getElem?, List.getElem?_toArray, List.getElem?_cons_succ, List.getElem?_cons_zero, Option.getD_some]; (try rfl))); (case hy41 => (have krq := hSq.at kr (fun h => h); go_simp; (try with_reducible rfl))); (try simp only [Act.put, List.setIfInBounds_toArray, List.set_cons_zero, List.set_cons_succ]))
  (refine TD.val0 (v := ?v42) (by simp only [List.getElem?_toArray, List.getElem?_cons_succ, List.getElem?_cons_zero]; rfl) rfl ?hw42 (fun w1 => ?hy42) ?hn42; (case hw42 => rfl); (case hy42 => (go_simp; (try with_reducible rfl))); (try simp only [Act.put, List.setIfInBounds_toArray, List.set_cons_zero, List.set_cons_succ]))
  (refine TD.val0 (v := ?v43) (by simp only [List.getElem?_toArray, List.getElem?_cons_succ, List.getElem?_cons_zero]; rfl) rfl ?hw43 (fun w1 => ?hy43) ?hn43; (case hw43 => rfl); (case hy43 => (go_simp; (try with_reducible rfl))); (try simp only [Act.put, List.setIfInBounds_toArray, List.set_cons_zero, List.set_cons_succ]))
  (refine TD.call (f := ?f44) (args := ?r44) (Mod.refl _ _) (by simp only [List.getElem?_toArray, List.getElem?_cons_succ, List.getElem?_cons_zero]; rfl) rfl ?hw44 (fun w1 => ?hy44) ?hsp44 ?hn44; (case hw44 => rfl); (case hy44 => (go_simp; (first | with_reducible rfl | (constructor <;> with_reducible rfl)))); (case hsp44 => (intro wq hSq; have krq := hSq.at kr (fun h => h); exact (key11 wq).mono (fun e w' h => ⟨_, h.1, ⟨fun _ => rfl, fun e => by simp at e⟩, h.2⟩))); rintro _ hC; obtain rfl := hC.1 rfl; (try simp only [Act.put, List.setIfInBounds_toArray, List.set_cons_zero, List.set_cons_succ]))
  (refine TD.build (v := ?v45) (ps := ?p45) (by simp only [List.getElem?_toArray, List.getElem?_cons_succ, List.getElem?_cons_zero]; rfl) rfl ?hw45 rfl ?hx45 (fun w1 => ?hy45) ?hn45; (case hw45 => rfl); (case hx45 => (simp only [List.map_toArray, List.map_cons, List.map_nil, Act.eval, Array.getD_eq_getD_getElem?, List.getElem?_toArray, List.getElem?_cons_succ, List.getElem?_cons_zero, Option.getD_some]; (try rfl))); (case hy45 => (rw [hk1]; (try with_reducible rfl))); (try simp only [Act.put, List.setIfInBounds_toArray, List.set_cons_zero, List.set_cons_succ]))
  (refine TD.val0 (v := ?v46) (by simp only [List.getElem?_toArray, List.getElem?_cons_succ, List.getElem?_cons_zero]; rfl) rfl ?hw46 (fun w1 => ?hy46) ?hn46; (case hw46 => rfl); (case hy46 => (go_simp; (try with_reducible rfl))); (try simp only [Act.put, List.setIfInBounds_toArray, List.set_cons_zero, List.set_cons_succ]))
  (refine TD.call (f := ?f47) (args := ?r47) (Mod.refl _ _) (by simp only [List.getElem?_toArray, List.getElem?_cons_succ, List.getElem?_cons_zero]; rfl) rfl ?hw47 (fun w1 => ?hy47) ?hsp47 ?hn47; (case hw47 => rfl); (case hy47 => (go_simp; (first | with_reducible rfl | (constructor <;> with_reducible rfl)))); (case hsp47 => (intro wq hSq; have krq := hSq.at kr (fun h => h); exact (key12 wq).mono (fun e w' h => ⟨_, h.1, ⟨fun e => by simp at e, fun _ => rfl⟩, h.2⟩))); rintro _ hC; obtain rfl := hC.2 rfl; (try simp only [Act.put, List.setIfInBounds_toArray, List.set_cons_zero, List.set_cons_succ]))
  (refine TD.build (v := ?v48) (ps := ?p48) (by simp only [List.getElem?_toArray, List.getElem?_cons_succ, List.getElem?_cons_zero]; rfl) rfl ?hw48 rfl ?hx48 (fun w1 => ?hy48) ?hn48; (case hw48 => rfl); (case hx48 => (simp only [List.map_toArray, List.map_cons, List.map_nil, Act.eval, Array.getD_eq_getD_getElem?, List.getElem?_toArray, List.getElem?_cons_succ, List.getElem?_cons_zero, Option.getD_some]; (try rfl))); (case hy48 => (rw [hk2]; (try with_reducible rfl))); (try simp only [Act.put, List.setIfInBounds_toArray, List.set_cons_zero, List.set_cons_succ]))
  (refine TD.build (v := ?v49) (ps := ?p49) (by simp only [List.getElem?_toArray, List.getElem?_cons_succ, List.getElem?_cons_zero]; rfl) rfl ?hw49 rfl ?hx49 (fun w1 => ?hy49) ?hn49; (case hw49 => rfl); (case hx49 => (simp only [List.map_toArray, List.map_cons, List.map_nil, Act.eval, Array.getD_eq_getD_getElem?, List.getElem?_toArray, List.getElem?_cons_succ, List.getElem?_cons_zero, Option.getD_some]; (try rfl))); (case hy49 => (rw [hsh]; (try with_reducible rfl))); (try simp only [Act.put, List.setIfInBounds_toArray, List.set_cons_zero, List.set_cons_succ]))
  (refine TD.val0 (v := ?v50) (by simp only [List.getElem?_toArray, List.getElem?_cons_succ, List.getElem?_cons_zero]; rfl) rfl ?hw50 (fun w1 => ?hy50) ?hn50; (case hw50 => rfl); (case hy50 => (go_simp; (try with_reducible rfl))); (try simp only [Act.put, List.setIfInBounds_toArray, List.set_cons_zero, List.set_cons_succ]))
  (refine TD.bslice (by simp only [List.getElem?_toArray, List.getElem?_cons_succ, List.getElem?_cons_zero]; rfl) rfl ?hw51 rfl rfl ?hx51 hbp (fun p21 hp21 => ?hn51); (case hw51 => rfl); (case hx51 => (simp only [List.map_toArray, List.map_cons, List.map_nil, Act.eval, Array.getD_eq_getD_getElem?, List.getElem?_toArray, List.getElem?_cons_succ, List.getElem?_cons_zero, Option.getD_some]; (try rfl))); (try simp only [Act.put, List.setIfInBounds_toArray, List.set_cons_zero, List.set_cons_succ]))
  refine TD.eff (by simp only [List.getElem?_toArray, List.getElem?_cons_succ, List.getElem?_cons_zero]; rfl) rfl (fun w2 hr => ?_)
  have kr := hr.mod.at kr (fun h => h)
  have kp21 := hr.box p21 _ (by first | exact Bx.set_same _ _ _ | (simp only [Bx.set_same]; rfl)); dsimp only [Value.cells] at kp21; obtain ⟨gp21, kp21⟩ := kp21
  have hone : SlAt pgc 1 w2 (some ⟨p21, 0, none⟩) [(⟨a, n, hk (bkey 1 1), hk (bkey 1 2)⟩ : Pg)] := SlAt.one kp21 _ rfl rfl
  have hmm := hr.mod
  obtain ⟨v3, w3, hap, hO3, m3, hn3⟩ := SlOwn.append pageT (c := 1) (HO.out.mod0 hmm) hone (by rw [HLen.out]; simp) (by decide) (Nat.le_trans hb hmm.size) 56
  have hlo := HO.out.lt
  obtain ⟨va, vc, rfl, _⟩ := hO3.at pageT
  have HO3 := Lib.hid hO3
  replace kr := m3.at kr (fun e => by have := hlo _ e; omega)
  have mA : Mod (fun i => i = r ∨ (base ≤ i ∧ ¬ X i)) w1 w3 := (hmm.mono (fun _ _ h => h.elim)).then m3 (fun i hi e => .inr ⟨(hlo i e).1, HX.out i e⟩)
  have HX3 : Hid (∀ k, (Value.slice va (L ++ [(⟨a, n, hk (bkey 1 1), hk (bkey 1 2)⟩ : Pg)]).length vc).ownBlock = some k → ¬ X k) := Lib.hid (fun k hk hx => by
    rcases hn3 with e | e
    · rw [e] at hk
      exact HX.out k hk hx
    · rw [e] at hk
      cases hk
      have h1 := HXL.out _ hx
      have h2 := hmm.size
      omega)
  have hl3 := hO3.lt
  clear hone hmm m3 hn3 hO3 hlo hk1 hk2 hsh hbp
  (refine eff_append (by simp only [List.getElem?_toArray, List.getElem?_cons_succ, List.getElem?_cons_zero]; rfl) ?hw53 rfl ?hx53 ?hz53 hap ?hn53; (case hw53 => rfl); (case hx53 => (simp only [Act.eval, Array.getD_eq_getD_getElem?, List.getElem?_toArray, List.getElem?_cons_succ, List.getElem?_cons_zero, Option.getD_some]; (try rfl))); (case hz53 => (simp only [Act.eval, Array.getD_eq_getD_getElem?, List.getElem?_toArray, List.getElem?_cons_succ, List.getElem?_cons_zero, Option.getD_some]; (try rfl))); (try simp only [Act.put, List.setIfInBounds_toArray, List.set_cons_zero, List.set_cons_succ]))
  (refine TE.val0 (v := ?v54) (by simp only [List.getElem?_toArray, List.getElem?_cons_succ, List.getElem?_cons_zero]; rfl) ?hw54 (fun w1 => ?hy54) ?hn54; (case hw54 => rfl); (case hy54 => (go_simp; (try with_reducible rfl))); (try simp only [Act.put, List.setIfInBounds_toArray, List.set_cons_zero, List.set_cons_succ]))
  (refine TE.val0 (v := ?v55) (by simp only [List.getElem?_toArray, List.getElem?_cons_succ, List.getElem?_cons_zero]; rfl) ?hw55 (fun w1 => ?hy55) ?hn55; (case hw55 => rfl); (case hy55 => (go_simp; (try with_reducible rfl))); (try simp only [Act.put, List.setIfInBounds_toArray, List.set_cons_zero, List.set_cons_succ]))
  refine TE.step (by simp only [List.getElem?_toArray, List.getElem?_cons_succ, List.getElem?_cons_zero]; rfl) rfl ?_
  (refine eff_store (X := ?X56) (Y := ?Y56) (w' := ?w56) (by simp only [List.getElem?_toArray, List.getElem?_cons_succ, List.getElem?_cons_zero]; rfl) ?hw56 rfl ?hx56 ?hz56 ?hy56 ?hn56; (case hw56 => rfl); (case hx56 => (simp only [Act.eval, Array.getD_eq_getD_getElem?, List.getElem?_toArray, List.getElem?_cons_succ, List.getElem?_cons_zero, Option.getD_some]; (try rfl))); (case hz56 => (simp only [Act.eval, Array.getD_eq_getD_getElem?, List.getElem?_toArray, List.getElem?_cons_succ, List.getElem?_cons_zero, Option.getD_some]; (try rfl))); (case hy56 => (go_simp; (try with_reducible rfl))))
  (first | refine TE.nil_set kr (fun wn kr mS => ?_) | refine TE.nil_setCell kr (fun wn kr mS => ?_))
  (try simp only [Array.setIfInBounds, List.setIfInBounds_toArray, List.set_cons_zero, List.set_cons_succ] at kr)
  have mB := mA.then mS (fun i _ e => .inl e)
  have hO4 := HO3.out.mod mS (fun b hb' e => by have := hl3 b hb'; omega)
  have hX3 := HX3.out
  simp only [List.length_append, List.length_cons, List.length_nil, Nat.zero_add] at hO4 hX3
  have HX4 := Lib.hid hX3
  clear hX3
  go_wp2_with fail
  go_end0
  exact ⟨rfl, ⟨_, kr, hO4, HX4.out⟩, mB⟩
set_option maxRecDepth 20000 in
set_option maxHeartbeats 1600000 in
theorem hold2_c (r base : Nat) (X : Nat → Prop) (L : List Pg) (hlen : L.length = 1) (a : Option Addr) (n : Nat) (w : World) (h : BAt w r base X L) (hb : base ≤ w.heap.size) (hrb : r < base) (hXl : ∀ i, X i → i < w.heap.size) : Calls Try.prog 23 #[.pointer (some ⟨r, 0, none⟩), .slice a n n] w fun e w' => e = .returned (.tuple #[]) ∧ BAt w' r base X (L ++ [(⟨a, n, hk (bkey 2 1), hk (bkey 2 2)⟩ : Pg)]) ∧ Mod (fun i => i = r ∨ (base ≤ i ∧ ¬ X i)) w w' := by
  have hnum := number_c r base X L w h (by omega)
  rw [hlen] at hnum
  obtain ⟨v, kr, hO, hX⟩ := h
  obtain ⟨pa, pc, rfl, _⟩ := hO.at pageT
  have HO := Lib.hid hO
  have HX := Lib.hid hX
  have HXL := Lib.hid hXl
  clear hO hX hXl
  go_enter Try.func23, Try.ntmps23
  go_wp2_with fail
  go_at_call 35
  refine hnum.mono ?_
  rintro e w1 ⟨rfl, rfl⟩
  clear hnum
  have hk1 := bldHk (bkey 2 1)
  have hk2 := bldHk (bkey 2 2)
  have hsh := bldSh ⟨a, n, hk (bkey 2 1), hk (bkey 2 2)⟩
  have hbp := bsPage ⟨a, n, hk (bkey 2 1), hk (bkey 2 2)⟩
  have HLen := Lib.hid hlen
  clear hlen
  go_upto_region 1 with fail
  have Lkr := lt_size kr
  refine wp_pass (C := fun _ args v => (args = #[.int .i64 2, .int .u8 1] → v = .agg (kc (bkey 2 1))) ∧ (args = #[.int .i64 2, .int .u8 2] → v = .agg (kc (bkey 2 2)))) (κ := fun i => [0, 0, 0, 0, 1, 0, 0, 2, 0, 0, 2, 0, 0, 0, 3, 5, 0, 0, 6].getD i 0) [0, 1, 2, 3, 4, 5, 6, 7, 8, 9, 10, 11, 12, 13, 14, 15, 16, 17, 18] (by kernel_rfl) (by kernel_rfl) (fun _ _ d _ _ h => by cases d <;> exact h) ?_
  (refine TD.val0 (v := ?v57) (by simp only [List.getElem?_toArray, List.getElem?_cons_succ, List.getElem?_cons_zero]; rfl) rfl ?hw57 (fun w1 => ?hy57) ?hn57; (case hw57 => rfl); (case hy57 => (go_simp; (try with_reducible rfl))); (try simp only [Act.put, List.setIfInBounds_toArray, List.set_cons_zero, List.set_cons_succ]))
  (refine TD.val0 (v := ?v58) (by simp only [List.getElem?_toArray, List.getElem?_cons_succ, List.getElem?_cons_zero]; rfl) rfl ?hw58 (fun w1 => ?hy58) ?hn58; (case hw58 => rfl); (case hy58 => (go_simp; (try with_reducible rfl))); (try simp only [Act.put, List.setIfInBounds_toArray, List.set_cons_zero, List.set_cons_succ]))
  (refine TD.val0 (v := ?v59) (by simp only [List.getElem?_toArray, List.getElem?_cons_succ, List.getElem?_cons_zero]; rfl) rfl ?hw59 (fun w1 => ?hy59) ?hn59; (case hw59 => rfl); (case hy59 => (go_simp; (try with_reducible rfl))); (try simp only [Act.put, List.setIfInBounds_toArray, List.set_cons_zero, List.set_cons_succ]))
  (refine TD.val0 (v := ?v60) (by simp only [List.getElem?_toArray, List.getElem?_cons_succ, List.getElem?_cons_zero]; rfl) rfl ?hw60 (fun w1 => ?hy60) ?hn60; (case hw60 => rfl); (case hy60 => (go_simp; (try with_reducible rfl))); (try simp only [Act.put, List.setIfInBounds_toArray, List.set_cons_zero, List.set_cons_succ]))
  (refine TD.load (v := ?v61) (p := ?p61) (Mod.refl _ _) (by simp only [List.getElem?_toArray, List.getElem?_cons_succ, List.getElem?_cons_zero]; rfl) rfl ?hw61 rfl ?hx61 (fun wq hSq => ?hy61) ?hn61; (case hw61 => rfl); (case hx61 => (simp only [Act.eval, Array.getD_eq_getD_getElem?, List.getElem?_toArray, List.getElem?_cons_succ, List.getElem?_cons_zero, Option.getD_some]; (try rfl))); (case hy61 => (have krq := hSq.at kr (fun h => h); go_simp; (try with_reducible rfl))); (try simp only [Act.put, List.setIfInBounds_toArray, List.set_cons_zero, List.set_cons_succ]))
  (refine TD.val0 (v := ?v62) (by simp only [List.getElem?_toArray, List.getElem?_cons_succ, List.getElem?_cons_zero]; rfl) rfl ?hw62 (fun w1 => ?hy62) ?hn62; (case hw62 => rfl); (case hy62 => (go_simp; (try with_reducible rfl))); (try simp only [Act.put, List.setIfInBounds_toArray, List.set_cons_zero, List.set_cons_succ]))
  (refine TD.val0 (v := ?v63) (by simp only [List.getElem?_toArray, List.getElem?_cons_succ, List.getElem?_cons_zero]; rfl) rfl ?hw63 (fun w1 => ?hy63) ?hn63; (case hw63 => rfl); (case hy63 => (go_simp; (try with_reducible rfl))); (try simp only [Act.put, List.setIfInBounds_toArray, List.set_cons_zero, List.set_cons_succ]))
  (refine TD.call (f := ?f64) (args := ?r64) (Mod.refl _ _) (by simp only [List.getElem?_toArray, List.getElem?_cons_succ, List.getElem?_cons_zero]; rfl) rfl ?hw64 (fun w1 => ?hy64) ?hsp64 ?hn64; (case hw64 => rfl); (case hy64 => (go_simp; (first | with_reducible rfl | (constructor <;> with_reducible rfl)))); (case hsp64 => (intro wq hSq; have krq := hSq.at kr (fun h => h); exact (key21 wq).mono (fun e w' h => ⟨_, h.1, ⟨fun _ => rfl, fun e => by simp at e⟩, h.2⟩))); rintro _ hC; obtain rfl := hC.1 rfl; (try simp only [Act.put, List.setIfInBounds_toArray, List.set_cons_zero, List.set_cons_succ]))
  (refine TD.build (v := ?v65) (ps := ?p65) (by simp only [List.getElem?_toArray, List.getElem?_cons_succ, List.getElem?_cons_zero]; rfl) rfl ?hw65 rfl ?hx65 (fun w1 => ?hy65) ?hn65; (case hw65 => rfl); (case hx65 => (simp only [List.map_toArray, List.map_cons, List.map_nil, Act.eval, Array.getD_eq_getD_getElem?, List.getElem?_toArray, List.getElem?_cons_succ, List.getElem?_cons_zero, Option.getD_some]; (try rfl))); (case hy65 => (rw [hk1]; (try with_reducible rfl))); (try simp only [Act.put, List.setIfInBounds_toArray, List.set_cons_zero, List.set_cons_succ]))
  (refine TD.val0 (v := ?v66) (by simp only [List.getElem?_toArray, List.getElem?_cons_succ, List.getElem?_cons_zero]; rfl) rfl ?hw66 (fun w1 => ?hy66) ?hn66; (case hw66 => rfl); (case hy66 => (go_simp; (try with_reducible rfl))); (try simp only [Act.put, List.setIfInBounds_toArray, List.set_cons_zero, List.set_cons_succ]))
  (refine TD.call (f := ?f67) (args := ?r67) (Mod.refl _ _) (by simp only [List.getElem?_toArray, List.getElem?_cons_succ, List.getElem?_cons_zero]; rfl) rfl ?hw67 (fun w1 => ?hy67) ?hsp67 ?hn67; (case hw67 => rfl); (case hy67 => (go_simp; (first | with_reducible rfl | (constructor <;> with_reducible rfl)))); (case hsp67 => (intro wq hSq; have krq := hSq.at kr (fun h => h); exact (key22 wq).mono (fun e w' h => ⟨_, h.1, ⟨fun e => by simp at e, fun _ => rfl⟩, h.2⟩))); rintro _ hC; obtain rfl := hC.2 rfl; (try simp only [Act.put, List.setIfInBounds_toArray, List.set_cons_zero, List.set_cons_succ]))
  (refine TD.build (v := ?v68) (ps := ?p68) (by simp only [List.getElem?_toArray, List.getElem?_cons_succ, List.getElem?_cons_zero]; rfl) rfl ?hw68 rfl ?hx68 (fun w1 => ?hy68) ?hn68; (case hw68 => rfl); (case hx68 => (simp only [List.map_toArray, List.map_cons, List.map_nil, Act.eval, Array.getD_eq_getD_getElem?, List.getElem?_toArray, List.getElem?_cons_succ, List.getElem?_cons_zero, Option.getD_some]; (try rfl))); (case hy68 => (rw [hk2]; (try with_reducible rfl))); (try simp only [Act.put, List.setIfInBounds_toArray, List.set_cons_zero, List.set_cons_succ]))
  (refine TD.build (v := ?v69) (ps := ?p69) (by simp only [List.getElem?_toArray, List.getElem?_cons_succ, List.getElem?_cons_zero]; rfl) rfl ?hw69 rfl ?hx69 (fun w1 => ?hy69) ?hn69; (case hw69 => rfl); (case hx69 => (simp only [List.map_toArray, List.map_cons, List.map_nil, Act.eval, Array.getD_eq_getD_getElem?, List.getElem?_toArray, List.getElem?_cons_succ, List.getElem?_cons_zero, Option.getD_some]; (try rfl))); (case hy69 => (rw [hsh]; (try with_reducible rfl))); (try simp only [Act.put, List.setIfInBounds_toArray, List.set_cons_zero, List.set_cons_succ]))
  (refine TD.val0 (v := ?v70) (by simp only [List.getElem?_toArray, List.getElem?_cons_succ, List.getElem?_cons_zero]; rfl) rfl ?hw70 (fun w1 => ?hy70) ?hn70; (case hw70 => rfl); (case hy70 => (go_simp; (try with_reducible rfl))); (try simp only [Act.put, List.setIfInBounds_toArray, List.set_cons_zero, List.set_cons_succ]))
  (refine TD.bslice (by simp only [List.getElem?_toArray, List.getElem?_cons_succ, List.getElem?_cons_zero]; rfl) rfl ?hw71 rfl rfl ?hx71 hbp (fun p21 hp21 => ?hn71); (case hw71 => rfl); (case hx71 => (simp only [List.map_toArray, List.map_cons, List.map_nil, Act.eval, Array.getD_eq_getD_getElem?, List.getElem?_toArray, List.getElem?_cons_succ, List.getElem?_cons_zero, Option.getD_some]; (try rfl))); (try simp only [Act.put, List.setIfInBounds_toArray, List.set_cons_zero, List.set_cons_succ]))
  refine TD.eff (by simp only [List.getElem?_toArray, List.getElem?_cons_succ, List.getElem?_cons_zero]; rfl) rfl (fun w2 hr => ?_)
  have kr := hr.mod.at kr (fun h => h)
  have kp21 := hr.box p21 _ (by first | exact Bx.set_same _ _ _ | (simp only [Bx.set_same]; rfl)); dsimp only [Value.cells] at kp21; obtain ⟨gp21, kp21⟩ := kp21
  have hone : SlAt pgc 1 w2 (some ⟨p21, 0, none⟩) [(⟨a, n, hk (bkey 2 1), hk (bkey 2 2)⟩ : Pg)] := SlAt.one kp21 _ rfl rfl
  have hmm := hr.mod
  obtain ⟨v3, w3, hap, hO3, m3, hn3⟩ := SlOwn.append pageT (c := 1) (HO.out.mod0 hmm) hone (by rw [HLen.out]; simp) (by decide) (Nat.le_trans hb hmm.size) 56
  have hlo := HO.out.lt
  obtain ⟨va, vc, rfl, _⟩ := hO3.at pageT
  have HO3 := Lib.hid hO3
  replace kr := m3.at kr (fun e => by have := hlo _ e; omega)
  have mA : Mod (fun i => i = r ∨ (base ≤ i ∧ ¬ X i)) w1 w3 := (hmm.mono (fun _ _ h => h.elim)).then m3 (fun i hi e => .inr ⟨(hlo i e).1, HX.out i e⟩)
  have HX3 : Hid (∀ k, (Value.slice va (L ++ [(⟨a, n, hk (bkey 2 1), hk (bkey 2 2)⟩ : Pg)]).length vc).ownBlock = some k → ¬ X k) := Lib.hid (fun k hk hx => by
    rcases hn3 with e | e
    · rw [e] at hk
      exact HX.out k hk hx
    · rw [e] at hk
      cases hk
      have h1 := HXL.out _ hx
      have h2 := hmm.size
      omega)
  have hl3 := hO3.lt
  clear hone hmm m3 hn3 hO3 hlo hk1 hk2 hsh hbp
  (refine eff_append (by simp only [List.getElem?_toArray, List.getElem?_cons_succ, List.getElem?_cons_zero]; rfl) ?hw73 rfl ?hx73 ?hz73 hap ?hn73; (case hw73 => rfl); (case hx73 => (simp only [Act.eval, Array.getD_eq_getD_getElem?, List.getElem?_toArray, List.getElem?_cons_succ, List.getElem?_cons_zero, Option.getD_some]; (try rfl))); (case hz73 => (simp only [Act.eval, Array.getD_eq_getD_getElem?, List.getElem?_toArray, List.getElem?_cons_succ, List.getElem?_cons_zero, Option.getD_some]; (try rfl))); (try simp only [Act.put, List.setIfInBounds_toArray, List.set_cons_zero, List.set_cons_succ]))
  (refine TE.val0 (v := ?v74) (by simp only [List.getElem?_toArray, List.getElem?_cons_succ, List.getElem?_cons_zero]; rfl) ?hw74 (fun w1 => ?hy74) ?hn74; (case hw74 => rfl); (case hy74 => (go_simp; (try with_reducible rfl))); (try simp only [Act.put, List.setIfInBounds_toArray, List.set_cons_zero, List.set_cons_succ]))
  (refine TE.val0 (v := ?v75) (by simp only [List.getElem?_toArray, List.getElem?_cons_succ, List.getElem?_cons_zero]; rfl) ?hw75 (fun w1 => ?hy75) ?hn75; (case hw75 => rfl); (case hy75 => (go_simp; (try with_reducible rfl))); (try simp only [Act.put, List.setIfInBounds_toArray, List.set_cons_zero, List.set_cons_succ]))
  refine TE.step (by simp only [List.getElem?_toArray, List.getElem?_cons_succ, List.getElem?_cons_zero]; rfl) rfl ?_
  (refine eff_store (X := ?X76) (Y := ?Y76) (w' := ?w76) (by simp only [List.getElem?_toArray, List.getElem?_cons_succ, List.getElem?_cons_zero]; rfl) ?hw76 rfl ?hx76 ?hz76 ?hy76 ?hn76; (case hw76 => rfl); (case hx76 => (simp only [Act.eval, Array.getD_eq_getD_getElem?, List.getElem?_toArray, List.getElem?_cons_succ, List.getElem?_cons_zero, Option.getD_some]; (try rfl))); (case hz76 => (simp only [Act.eval, Array.getD_eq_getD_getElem?, List.getElem?_toArray, List.getElem?_cons_succ, List.getElem?_cons_zero, Option.getD_some]; (try rfl))); (case hy76 => (go_simp; (try with_reducible rfl))))
  (first | refine TE.nil_set kr (fun wn kr mS => ?_) | refine TE.nil_setCell kr (fun wn kr mS => ?_))
  (try simp only [Array.setIfInBounds, List.setIfInBounds_toArray, List.set_cons_zero, List.set_cons_succ] at kr)
  have mB := mA.then mS (fun i _ e => .inl e)
  have hO4 := HO3.out.mod mS (fun b hb' e => by have := hl3 b hb'; omega)
  have hX3 := HX3.out
  simp only [List.length_append, List.length_cons, List.length_nil, Nat.zero_add] at hO4 hX3
  have HX4 := Lib.hid hX3
  clear hX3
  go_wp2_with fail
  go_end0
  exact ⟨rfl, ⟨_, kr, hO4, HX4.out⟩, mB⟩
end Go.Proofs.Ytknmiojegnbakaa
