/- The walk of AccountsCoins. -/
import Derived.Test.YtknmiojegnbakaaSums
namespace Go.Proofs.Ytknmiojegnbakaa
open Go.RowKit
open Go.ChangeMaps (setBlock)
set_option linter.unusedSimpArgs false
set_option linter.unusedVariables false
/-- Two keys. -/
def kk (a b : Key) : Array Value := kc a ++ (kc b ++ #[])
theorem kk_size (a b : Key) : (kk a b).size = 64 := by simp [kk]
theorem kk_0 (a b : Key) : (kk a b).extract 0 32 = kc a := by simp [kk]
theorem kk_1 (a b : Key) : (kk a b).extract 32 64 = kc b := extract_app (n := 32) (m := 32) (by simp) (by simp)
attribute [local go_sem ↓] wlKey ldKey stKey wlAcct ldAcct stAcct wlHold ldHold stHold eqKey1 eqAcct eqHold
attribute [local go_sem] eqMap neMap av_size av_c av_s av_c' av_s' av_o av_all av_one hd_size hd_key hd_acct hd_all hd_one zKey_size zAcct_size zHold_size cell_blk frozen_blk kc_ext one_int one_bool one_ptr one_slice one_map kc_one kc_one0 kc_size Value.cells
attribute [local go_sem] kk_size kk_0 kk_1
theorem av_set_c (a : Acct) (c : UInt64) : (av a).setIfInBounds 0 (.int .u64 (c.toNat : Int)) = av ⟨c, a.o, a.s⟩ := by
  apply Array.toList_inj.1
  rw [Array.toList_setIfInBounds, av_toList, av_toList]
  rfl
theorem av_set_s (a : Acct) (c : UInt64) : (av a).setIfInBounds 33 (.int .u64 (c.toNat : Int)) = av ⟨a.c, a.o, c⟩ := by
  apply Array.toList_inj.1
  rw [Array.toList_setIfInBounds, av_toList, av_toList]
  have : (kc a.o).toList.length = 32 := by simp
  simp only [List.set_cons_succ, List.cons.injEq, true_and]
  rw [List.set_append_right _ _ (by omega), this]
  rfl
theorem av_set_o (a : Acct) (k : Key) : wr (av a) 1 (kc k).toList = av ⟨a.c, k, a.s⟩ := by
  apply Array.toList_inj.1
  have h1 : (kc a.o).toList.length = 32 := by simp
  have h2 : (kc k).toList.length = 32 := by simp
  rw [wr_list _ _ _ (by rw [h2, av_size]; omega), av_toList, av_toList, h2]
  simp only [List.take_succ_cons, List.take_zero, List.drop_succ_cons, List.cons_append, List.nil_append, List.cons.injEq, true_and]
  rw [List.drop_append_of_le_length (by omega), List.drop_of_length_le (by omega), List.nil_append]
theorem av_set_c' (a : Acct) (c : UInt64) : (if h : 0 < (av a).size then (av a).set 0 (.int .u64 (c.toNat : Int)) h else av a) = av ⟨c, a.o, a.s⟩ := av_set_c a c
theorem av_set_s' (a : Acct) (c : UInt64) : (if h : 33 < (av a).size then (av a).set 33 (.int .u64 (c.toNat : Int)) h else av a) = av ⟨a.c, a.o, c⟩ := av_set_s a c
def k9 : Key := ⟨[9, 0, 0, 0, 0, 0, 0, 0, 0, 0, 0, 0, 0, 0, 0, 0, 0, 0, 0, 0, 0, 0, 0, 0, 0, 0, 0, 0, 0, 0, 0, 0], rfl⟩
theorem bk9 (w : World) : (Instr.build 28 #[(0, .int .u8 9)]).run Try.prog w = .ok (.agg (kc k9)) w := by kernel_rfl
theorem u64of (k : Nat) (h : k < 18446744073709551616) : ∃ y : UInt64, y.toNat = k := ⟨UInt64.ofNat k, UInt64.toNat_ofNat_of_lt' (by simpa [UInt64.size] using h)⟩
theorem coins_law1 (m : List (Key × Acct)) (hn : (m.map Prod.fst).Nodup) {k0 k1 : Key} (h01 : k0 ≠ k1) (n : Nat) (a' b' : Acct)
    (ha : a'.c.toNat = (getA m k0).c.toNat - min n (min (getA m k0).c.toNat (18446744073709551615 - (getA m k1).c.toNat)))
    (hb : b'.c.toNat = (getA m k1).c.toNat + min n (min (getA m k0).c.toNat (18446744073709551615 - (getA m k1).c.toNat))) :
    sumC (putA (putA m k0 a') k1 b') = sumC m := by
  have h1 := sum_putA m k0 a'
  have h2 := sum_putA (putA m k0 a') k1 b'
  rw [getA_putA_ne m hn (Ne.symm h01)] at h2
  omega
theorem min2 (x z : Nat) : (if z < x then ((z : Nat) : Int) else ((x : Nat) : Int)) = ((min x z : Nat) : Int) := by
  split <;> omega
theorem min3 (x y z : Nat) : (if ((z : Nat) : Int) < (if y < x then ((y : Nat) : Int) else ((x : Nat) : Int)) then ((z : Nat) : Int) else if y < x then ((y : Nat) : Int) else ((x : Nat) : Int)) = ((min x (min y z) : Nat) : Int) := by
  by_cases h : y < x
  · simp only [h, if_true]
    split <;> omega
  · simp only [h, if_false]
    split <;> omega
set_option maxRecDepth 20000 in
set_option maxHeartbeats 3200000 in
theorem coinsLaw_c (a : Option Addr) (l : List AAct) (c : Nat) (k0 k1 : Key) (n : UInt64) (w : World) (h : SlAt ac 67 w a l) : Calls Try.prog 4 #[.slice a l.length c, .agg (kk k0 k1), .int .u64 (n.toNat : Int)] w fun e w' => e = .returned (.bool true) ∧ Mod (fun _ => False) w w' := by
  have H := Lib.hid h
  clear h
  go_enter Try.func4, Try.ntmps4
  go_upto_region 0 with fail
  refine wp_pass0 (C := fun _ _ _ => False) (κ := fun i => [3, 0].getD i 0) [0, 1] (by kernel_rfl) (by kernel_rfl) (fun _ _ d _ _ h => by cases d <;> exact h) ?_
  (refine TD.box (v := ?v1) (by simp only [List.getElem?_toArray, List.getElem?_cons_succ, List.getElem?_cons_zero]; rfl) rfl ?hw1 rfl rfl ?hx1 (fun p4 hp4 => ?hn1); (case hw1 => rfl); (case hx1 => (simp only [Act.eval, Array.getD_eq_getD_getElem?, List.getElem?_toArray, List.getElem?_cons_succ, List.getElem?_cons_zero, Option.getD_some]; (try rfl))); (try simp only [Act.put, List.setIfInBounds_toArray, List.set_cons_zero, List.set_cons_succ]))
  (refine TD.val0 (v := ?v2) (by simp only [List.getElem?_toArray, List.getElem?_cons_succ, List.getElem?_cons_zero]; rfl) rfl ?hw2 (fun w1 => ?hy2) ?hn2; (case hw2 => rfl); (case hy2 => (go_simp; (try with_reducible rfl))); (try simp only [Act.put, List.setIfInBounds_toArray, List.set_cons_zero, List.set_cons_succ]))
  refine TD.nil (fun w1 hr => ?_)
  have kp4 := hr.box p4 _ (by first | exact Bx.set_same _ _ _ | (simp only [Bx.set_same]; rfl)); dsimp only [Value.cells] at kp4; obtain ⟨gp4, kp4⟩ := kp4
  have m1 := hr.mod
  by_cases hlen : (150 : Int) < (l.length : Int)
  · go_upto_region 1 with fail
    have Lkp4 := lt_size kp4
    refine wp_pass0 (C := fun _ _ _ => False) (κ := fun i => [0, 0, 0, 0, 0, 1, 0, 1, 0, 0].getD i 0) [0, 1, 2, 3, 4, 5, 6, 7, 8, 9] (by kernel_rfl) (by kernel_rfl) (fun _ _ d _ _ h => by cases d <;> exact h) ?_
    (refine TD.val0 (v := ?v3) (by simp only [List.getElem?_toArray, List.getElem?_cons_succ, List.getElem?_cons_zero]; rfl) rfl ?hw3 (fun w1 => ?hy3) ?hn3; (case hw3 => rfl); (case hy3 => (go_simp; (try with_reducible rfl))); (try simp only [Act.put, List.setIfInBounds_toArray, List.set_cons_zero, List.set_cons_succ]))
    (refine TD.val0 (v := ?v4) (by simp only [List.getElem?_toArray, List.getElem?_cons_succ, List.getElem?_cons_zero]; rfl) rfl ?hw4 (fun w1 => ?hy4) ?hn4; (case hw4 => rfl); (case hy4 => (go_simp; (try with_reducible rfl))); (try simp only [Act.put, List.setIfInBounds_toArray, List.set_cons_zero, List.set_cons_succ]))
    (refine TD.val0 (v := ?v5) (by simp only [List.getElem?_toArray, List.getElem?_cons_succ, List.getElem?_cons_zero]; rfl) rfl ?hw5 (fun w1 => ?hy5) ?hn5; (case hw5 => rfl); (case hy5 => (go_simp; (try with_reducible rfl))); (try simp only [Act.put, List.setIfInBounds_toArray, List.set_cons_zero, List.set_cons_succ]))
    (refine TD.val0 (v := ?v6) (by simp only [List.getElem?_toArray, List.getElem?_cons_succ, List.getElem?_cons_zero]; rfl) rfl ?hw6 (fun w1 => ?hy6) ?hn6; (case hw6 => rfl); (case hy6 => (go_simp; (try with_reducible rfl))); (try simp only [Act.put, List.setIfInBounds_toArray, List.set_cons_zero, List.set_cons_succ]))
    (refine TD.pass (by simp only [List.getElem?_toArray, List.getElem?_cons_succ, List.getElem?_cons_zero]; rfl) rfl ?hw7 ?hn7; (case hw7 => rfl); (try simp only [Act.put, List.setIfInBounds_toArray, List.set_cons_zero, List.set_cons_succ]))
    (refine TD.pass1 (by simp only [List.getElem?_toArray, List.getElem?_cons_succ, List.getElem?_cons_zero]; rfl) rfl ?hw8 ?hn8; (case hw8 => rfl); (try simp only [Act.put, List.setIfInBounds_toArray, List.set_cons_zero, List.set_cons_succ]))
    (refine TD.pass (by simp only [List.getElem?_toArray, List.getElem?_cons_succ, List.getElem?_cons_zero]; rfl) rfl ?hw9 ?hn9; (case hw9 => rfl); (try simp only [Act.put, List.setIfInBounds_toArray, List.set_cons_zero, List.set_cons_succ]))
    (refine TD.pass1 (by simp only [List.getElem?_toArray, List.getElem?_cons_succ, List.getElem?_cons_zero]; rfl) rfl ?hw10 ?hn10; (case hw10 => rfl); (try simp only [Act.put, List.setIfInBounds_toArray, List.set_cons_zero, List.set_cons_succ]))
    (refine TD.pass (by simp only [List.getElem?_toArray, List.getElem?_cons_succ, List.getElem?_cons_zero]; rfl) rfl ?hw11 ?hn11; (case hw11 => rfl); (try simp only [Act.put, List.setIfInBounds_toArray, List.set_cons_zero, List.set_cons_succ]))
    (refine TD.val0 (v := ?v12) (by simp only [List.getElem?_toArray, List.getElem?_cons_succ, List.getElem?_cons_zero]; rfl) rfl ?hw12 (fun w1 => ?hy12) ?hn12; (case hw12 => rfl); (case hy12 => (go_simp; (try with_reducible rfl))); (try simp only [Act.put, List.setIfInBounds_toArray, List.set_cons_zero, List.set_cons_succ]))
    refine TD.nil (fun w2 hr => ?_)
    have kp4 := hr.mod.at kp4 (fun h => h)
    have m2 := m1.then0 hr.mod
    go_wp2_with fail
    go_at_call 8
    refine (lives_c _).mono ?_
    rintro e w3 ⟨rfl, m3⟩
    go_wp2_with fail
    go_ret
    exact ⟨rfl, m2.then0 m3⟩
  · by_cases hk : k0 = k1
    · subst hk
      go_upto_region 1 with fail
      have Lkp4 := lt_size kp4
      refine wp_pass0 (C := fun _ _ _ => False) (κ := fun i => [0, 0, 0, 0, 0, 1, 0, 1, 0, 0].getD i 0) [0, 1, 2, 3, 4, 5, 6, 7, 8, 9] (by kernel_rfl) (by kernel_rfl) (fun _ _ d _ _ h => by cases d <;> exact h) ?_
      (refine TD.val0 (v := ?v13) (by simp only [List.getElem?_toArray, List.getElem?_cons_succ, List.getElem?_cons_zero]; rfl) rfl ?hw13 (fun w1 => ?hy13) ?hn13; (case hw13 => rfl); (case hy13 => (go_simp; (try with_reducible rfl))); (try simp only [Act.put, List.setIfInBounds_toArray, List.set_cons_zero, List.set_cons_succ]))
      (refine TD.val0 (v := ?v14) (by simp only [List.getElem?_toArray, List.getElem?_cons_succ, List.getElem?_cons_zero]; rfl) rfl ?hw14 (fun w1 => ?hy14) ?hn14; (case hw14 => rfl); (case hy14 => (go_simp; (try with_reducible rfl))); (try simp only [Act.put, List.setIfInBounds_toArray, List.set_cons_zero, List.set_cons_succ]))
      (refine TD.val0 (v := ?v15) (by simp only [List.getElem?_toArray, List.getElem?_cons_succ, List.getElem?_cons_zero]; rfl) rfl ?hw15 (fun w1 => ?hy15) ?hn15; (case hw15 => rfl); (case hy15 => (go_simp; (try with_reducible rfl))); (try simp only [Act.put, List.setIfInBounds_toArray, List.set_cons_zero, List.set_cons_succ]))
      (refine TD.val0 (v := ?v16) (by simp only [List.getElem?_toArray, List.getElem?_cons_succ, List.getElem?_cons_zero]; rfl) rfl ?hw16 (fun w1 => ?hy16) ?hn16; (case hw16 => rfl); (case hy16 => (go_simp; (try with_reducible rfl))); (try simp only [Act.put, List.setIfInBounds_toArray, List.set_cons_zero, List.set_cons_succ]))
      (refine TD.val0 (v := ?v17) (by simp only [List.getElem?_toArray, List.getElem?_cons_succ, List.getElem?_cons_zero]; rfl) rfl ?hw17 (fun w1 => ?hy17) ?hn17; (case hw17 => rfl); (case hy17 => (go_simp; (try with_reducible rfl))); (try simp only [Act.put, List.setIfInBounds_toArray, List.set_cons_zero, List.set_cons_succ]))
      (refine TD.load (v := ?v18) (p := ?p18) (Mod.refl _ _) (by simp only [List.getElem?_toArray, List.getElem?_cons_succ, List.getElem?_cons_zero]; rfl) rfl ?hw18 rfl ?hx18 (fun wq hSq => ?hy18) ?hn18; (case hw18 => rfl); (case hx18 => (simp only [Act.eval, Array.getD_eq_getD_getElem?, List.getElem?_toArray, List.getElem?_cons_succ, List.getElem?_cons_zero, Option.getD_some]; (try rfl))); (case hy18 => (have kp4q := hSq.at kp4 (fun h => h); go_simp; (try with_reducible rfl))); (try simp only [Act.put, List.setIfInBounds_toArray, List.set_cons_zero, List.set_cons_succ]))
      (refine TD.val0 (v := ?v19) (by simp only [List.getElem?_toArray, List.getElem?_cons_succ, List.getElem?_cons_zero]; rfl) rfl ?hw19 (fun w1 => ?hy19) ?hn19; (case hw19 => rfl); (case hy19 => (go_simp; (try with_reducible rfl))); (try simp only [Act.put, List.setIfInBounds_toArray, List.set_cons_zero, List.set_cons_succ]))
      (refine TD.load (v := ?v20) (p := ?p20) (Mod.refl _ _) (by simp only [List.getElem?_toArray, List.getElem?_cons_succ, List.getElem?_cons_zero]; rfl) rfl ?hw20 rfl ?hx20 (fun wq hSq => ?hy20) ?hn20; (case hw20 => rfl); (case hx20 => (simp only [Act.eval, Array.getD_eq_getD_getElem?, List.getElem?_toArray, List.getElem?_cons_succ, List.getElem?_cons_zero, Option.getD_some]; (try rfl))); (case hy20 => (have kp4q := hSq.at kp4 (fun h => h); go_simp; (try with_reducible rfl))); (try simp only [Act.put, List.setIfInBounds_toArray, List.set_cons_zero, List.set_cons_succ]))
      (refine TD.val0 (v := ?v21) (by simp only [List.getElem?_toArray, List.getElem?_cons_succ, List.getElem?_cons_zero]; rfl) rfl ?hw21 (fun w1 => ?hy21) ?hn21; (case hw21 => rfl); (case hy21 => (go_simp; (try with_reducible rfl))); (try simp only [Act.put, List.setIfInBounds_toArray, List.set_cons_zero, List.set_cons_succ]))
      (refine TD.val0 (v := ?v22) (by simp only [List.getElem?_toArray, List.getElem?_cons_succ, List.getElem?_cons_zero]; rfl) rfl ?hw22 (fun w1 => ?hy22) ?hn22; (case hw22 => rfl); (case hy22 => (go_simp; (try with_reducible rfl))); (try simp only [Act.put, List.setIfInBounds_toArray, List.set_cons_zero, List.set_cons_succ]))
      refine TD.nil (fun w2 hr => ?_)
      have kp4 := hr.mod.at kp4 (fun h => h)
      have m2 := m1.then0 hr.mod
      go_wp2_with fail
      go_at_call 8
      refine (lives_c _).mono ?_
      rintro e w3 ⟨rfl, m3⟩
      go_wp2_with fail
      go_ret
      exact ⟨rfl, m2.then0 m3⟩
    · go_upto_region 1 with fail
      have Lkp4 := lt_size kp4
      refine wp_pass0 (C := fun _ _ _ => False) (κ := fun i => [0, 0, 0, 0, 0, 1, 0, 1, 0, 0].getD i 0) [0, 1, 2, 3, 4, 5, 6, 7, 8, 9] (by kernel_rfl) (by kernel_rfl) (fun _ _ d _ _ h => by cases d <;> exact h) ?_
      (refine TD.val0 (v := ?v23) (by simp only [List.getElem?_toArray, List.getElem?_cons_succ, List.getElem?_cons_zero]; rfl) rfl ?hw23 (fun w1 => ?hy23) ?hn23; (case hw23 => rfl); (case hy23 => (go_simp; (try with_reducible rfl))); (try simp only [Act.put, List.setIfInBounds_toArray, List.set_cons_zero, List.set_cons_succ]))
      (refine TD.val0 (v := ?v24) (by simp only [List.getElem?_toArray, List.getElem?_cons_succ, List.getElem?_cons_zero]; rfl) rfl ?hw24 (fun w1 => ?hy24) ?hn24; (case hw24 => rfl); (case hy24 => (go_simp; (try with_reducible rfl))); (try simp only [Act.put, List.setIfInBounds_toArray, List.set_cons_zero, List.set_cons_succ]))
      (refine TD.val0 (v := ?v25) (by simp only [List.getElem?_toArray, List.getElem?_cons_succ, List.getElem?_cons_zero]; rfl) rfl ?hw25 (fun w1 => ?hy25) ?hn25; (case hw25 => rfl); (case hy25 => (go_simp; (try with_reducible rfl))); (try simp only [Act.put, List.setIfInBounds_toArray, List.set_cons_zero, List.set_cons_succ]))
      (refine TD.val0 (v := ?v26) (by simp only [List.getElem?_toArray, List.getElem?_cons_succ, List.getElem?_cons_zero]; rfl) rfl ?hw26 (fun w1 => ?hy26) ?hn26; (case hw26 => rfl); (case hy26 => (go_simp; (try with_reducible rfl))); (try simp only [Act.put, List.setIfInBounds_toArray, List.set_cons_zero, List.set_cons_succ]))
      (refine TD.val0 (v := ?v27) (by simp only [List.getElem?_toArray, List.getElem?_cons_succ, List.getElem?_cons_zero]; rfl) rfl ?hw27 (fun w1 => ?hy27) ?hn27; (case hw27 => rfl); (case hy27 => (go_simp; (try with_reducible rfl))); (try simp only [Act.put, List.setIfInBounds_toArray, List.set_cons_zero, List.set_cons_succ]))
      (refine TD.load (v := ?v28) (p := ?p28) (Mod.refl _ _) (by simp only [List.getElem?_toArray, List.getElem?_cons_succ, List.getElem?_cons_zero]; rfl) rfl ?hw28 rfl ?hx28 (fun wq hSq => ?hy28) ?hn28; (case hw28 => rfl); (case hx28 => (simp only [Act.eval, Array.getD_eq_getD_getElem?, List.getElem?_toArray, List.getElem?_cons_succ, List.getElem?_cons_zero, Option.getD_some]; (try rfl))); (case hy28 => (have kp4q := hSq.at kp4 (fun h => h); go_simp; (try with_reducible rfl))); (try simp only [Act.put, List.setIfInBounds_toArray, List.set_cons_zero, List.set_cons_succ]))
      (refine TD.val0 (v := ?v29) (by simp only [List.getElem?_toArray, List.getElem?_cons_succ, List.getElem?_cons_zero]; rfl) rfl ?hw29 (fun w1 => ?hy29) ?hn29; (case hw29 => rfl); (case hy29 => (go_simp; (try with_reducible rfl))); (try simp only [Act.put, List.setIfInBounds_toArray, List.set_cons_zero, List.set_cons_succ]))
      (refine TD.load (v := ?v30) (p := ?p30) (Mod.refl _ _) (by simp only [List.getElem?_toArray, List.getElem?_cons_succ, List.getElem?_cons_zero]; rfl) rfl ?hw30 rfl ?hx30 (fun wq hSq => ?hy30) ?hn30; (case hw30 => rfl); (case hx30 => (simp only [Act.eval, Array.getD_eq_getD_getElem?, List.getElem?_toArray, List.getElem?_cons_succ, List.getElem?_cons_zero, Option.getD_some]; (try rfl))); (case hy30 => (have kp4q := hSq.at kp4 (fun h => h); go_simp; (try with_reducible rfl))); (try simp only [Act.put, List.setIfInBounds_toArray, List.set_cons_zero, List.set_cons_succ]))
      (refine TD.val0 (v := ?v31) (by simp only [List.getElem?_toArray, List.getElem?_cons_succ, List.getElem?_cons_zero]; rfl) rfl ?hw31 (fun w1 => ?hy31) ?hn31; (case hw31 => rfl); (case hy31 => (go_simp; (try with_reducible rfl))); (try simp only [Act.put, List.setIfInBounds_toArray, List.set_cons_zero, List.set_cons_succ]))
      (refine TD.val0 (v := ?v32) (by simp only [List.getElem?_toArray, List.getElem?_cons_succ, List.getElem?_cons_zero]; rfl) rfl ?hw32 (fun w1 => ?hy32) ?hn32; (case hw32 => rfl); (case hy32 => (go_simp; (try with_reducible rfl))); (try simp only [Act.put, List.setIfInBounds_toArray, List.set_cons_zero, List.set_cons_succ]))
      refine TD.nil (fun w2 hr => ?_)
      have kp4 := hr.mod.at kp4 (fun h => h)
      have m2 := m1.then0 hr.mod
      have hl150 : l.length ≤ 150 := by omega
      have HK := Lib.hid hk
      have HN := Lib.hid (madeM_nodup l)
      have HLen := Lib.hid (madeM_len l)
      clear hlen
      go_upto_region 3 with fail
      go_wp2_with fail
      go_at_call 9
      refine (made_c a l c _ ((H.out.mod0 m2)) hl150).mono ?_
      rintro e w3 ⟨p, b, rfl, hp, hb, hT, m3⟩
      replace kp4 := m3.at0 kp4
      have mm := m2.then0 m3
      have hpz := hT.lt
      have hmlen : (madeM l).length ≤ 150 := Nat.le_trans HLen.out hl150
      have HP := Lib.hid (And.intro hp hb)
      have HZ := Lib.hid hpz
      have HBW : Hid (w.heap.size ≤ b) := Lib.hid (Nat.le_trans m2.size hb)
      clear hp hb hpz m1 m2 m3
      generalize madeM l = m at *
      have HT := Lib.hid hT
      have HM := Lib.hid hmlen
      clear hT hmlen
      have hcoins := coins_c p b m w3 HT.out (by have := HM.out; omega)
      generalize hH : sumC m / 18446744073709551616 = hi at hcoins
      generalize hL : sumC m % 18446744073709551616 = lo at hcoins
      have HHi := Lib.hid hH
      have HLo := Lib.hid hL
      clear hH hL
      go_wp2_with fail
      go_at_call 12
      refine hcoins.mono ?_
      rintro e w4 ⟨rfl, m4⟩
      clear hcoins
      replace kp4 := m4.at0 kp4
      have mm := mm.then0 m4
      have HT := Lib.hid (HT.out.mod0 m4)
      have HS34 := Lib.hid m4.size
      clear m4
      obtain ⟨x0, hx0⟩ : ∃ x, getA m k0 = x := ⟨_, rfl⟩
      obtain ⟨x1, hx1⟩ : ∃ x, getA m k1 = x := ⟨_, rfl⟩
      have HX0 := Lib.hid hx0
      have HX1 := Lib.hid hx1
      clear hx0 hx1
      go_upto_region 5 with fail
      have Lkp4 := lt_size kp4
      refine wp_pass0 (C := fun _ _ v => v = .agg (av x0)) (κ := fun i => [0, 0, 1, 2, 3, 4].getD i 0) [0, 1, 2, 3, 4, 5] (by kernel_rfl) (by kernel_rfl) (fun _ _ d _ _ h => by cases d <;> exact h) ?_
      (refine TD.val0 (v := ?v33) (by simp only [List.getElem?_toArray, List.getElem?_cons_succ, List.getElem?_cons_zero]; rfl) rfl ?hw33 (fun w1 => ?hy33) ?hn33; (case hw33 => rfl); (case hy33 => (go_simp; (try with_reducible rfl))); (try simp only [Act.put, List.setIfInBounds_toArray, List.set_cons_zero, List.set_cons_succ]))
      (refine TD.val0 (v := ?v34) (by simp only [List.getElem?_toArray, List.getElem?_cons_succ, List.getElem?_cons_zero]; rfl) rfl ?hw34 (fun w1 => ?hy34) ?hn34; (case hw34 => rfl); (case hy34 => (go_simp; (try with_reducible rfl))); (try simp only [Act.put, List.setIfInBounds_toArray, List.set_cons_zero, List.set_cons_succ]))
      (refine TD.load (v := ?v35) (p := ?p35) (Mod.refl _ _) (by simp only [List.getElem?_toArray, List.getElem?_cons_succ, List.getElem?_cons_zero]; rfl) rfl ?hw35 rfl ?hx35 (fun wq hSq => ?hy35) ?hn35; (case hw35 => rfl); (case hx35 => (simp only [Act.eval, Array.getD_eq_getD_getElem?, List.getElem?_toArray, List.getElem?_cons_succ, List.getElem?_cons_zero, Option.getD_some]; (try rfl))); (case hy35 => (have kp4q := hSq.at kp4 (fun h => h); go_simp; (try with_reducible rfl))); (try simp only [Act.put, List.setIfInBounds_toArray, List.set_cons_zero, List.set_cons_succ]))
      (refine TD.call (f := ?f36) (args := ?r36) (Mod.refl _ _) (by simp only [List.getElem?_toArray, List.getElem?_cons_succ, List.getElem?_cons_zero]; rfl) rfl ?hw36 (fun w1 => ?hy36) ?hsp36 ?hn36; (case hw36 => rfl); (case hy36 => (go_simp; (first | with_reducible rfl | (constructor <;> with_reducible rfl)))); (case hsp36 => (intro wq hSq; have kp4q := hSq.at kp4 (fun h => h); exact (get_c p b m k0 wq (HT.out.mod0 hSq)).mono (fun e w' h => ⟨_, h.1, by rw [HX0.out], h.2⟩))); rintro _ rfl; (try simp only [Act.put, List.setIfInBounds_toArray, List.set_cons_zero, List.set_cons_succ]))
      (refine TD.allocB (by simp only [List.getElem?_toArray, List.getElem?_cons_succ, List.getElem?_cons_zero]; rfl) rfl ?hw37 rfl rfl alAcct (fun p10 hp10 => ?hn37); (case hw37 => rfl); (try simp only [Act.put, List.setIfInBounds_toArray, List.set_cons_zero, List.set_cons_succ]))
      (refine TD.storeB (d := ?d38) (T := ?T38) (y := ?y38) (p := ?p38) (b := ?b38) (v := ?v38) (by simp only [List.getElem?_toArray, List.getElem?_cons_succ, List.getElem?_cons_zero]; rfl) rfl ?hw38 ?hd38 ?hop38 ?hev38 ?hx38 ?hb38 ?htag38 (fun w1 hb1 => ?hy38) ?hn38; (case hw38 => rfl); (case hd38 => rfl); (case hop38 => rfl); (case hev38 => (simp only [Act.eval, Array.getD_eq_getD_getElem?, List.getElem?_toArray, List.getElem?_cons_succ, List.getElem?_cons_zero, Option.getD_some]; (try rfl))); (case hx38 => (simp only [Act.eval, Array.getD_eq_getD_getElem?, List.getElem?_toArray, List.getElem?_cons_succ, List.getElem?_cons_zero, Option.getD_some]; (try rfl))); (case hb38 => first | exact Bx.set_same _ _ _ | (simp only [Bx.set_same]; rfl)); (case hy38 => (go_simp; (try with_reducible rfl))); (try simp only [Act.put, List.setIfInBounds_toArray, List.set_cons_zero, List.set_cons_succ]))
      refine TD.nil (fun w5 hr => ?_)
      have kp4 := hr.mod.at kp4 (fun h => h)
      have kp10 := hr.box p10 _ (by first | exact Bx.set_same _ _ _ | (simp only [Bx.set_same]; rfl)); dsimp only [Value.cells] at kp10; obtain ⟨gp10, kp10⟩ := kp10
      have mm := mm.then0 hr.mod
      have HT := Lib.hid (HT.out.mod0 hr.mod)
      have HS45 := Lib.hid hr.mod.size
      have D10 : Hid (p ≠ p10 ∧ b ≠ p10 ∧ w.heap.size ≤ p10) := Lib.hid (by have := HZ.out; have := HS34.out; have := mm.size; omega)
      go_upto_region 6 with fail
      have Lkp4 := lt_size kp4
      have Lkp10 := lt_size kp10
      refine wp_pass0 (C := fun _ _ v => v = .agg (av x1)) (κ := fun i => [0, 0, 1, 2, 3, 4].getD i 0) [0, 1, 2, 3, 4, 5] (by kernel_rfl) (by kernel_rfl) (fun _ _ d _ _ h => by cases d <;> exact h) ?_
      (refine TD.val0 (v := ?v39) (by simp only [List.getElem?_toArray, List.getElem?_cons_succ, List.getElem?_cons_zero]; rfl) rfl ?hw39 (fun w1 => ?hy39) ?hn39; (case hw39 => rfl); (case hy39 => (go_simp; (try with_reducible rfl))); (try simp only [Act.put, List.setIfInBounds_toArray, List.set_cons_zero, List.set_cons_succ]))
      (refine TD.val0 (v := ?v40) (by simp only [List.getElem?_toArray, List.getElem?_cons_succ, List.getElem?_cons_zero]; rfl) rfl ?hw40 (fun w1 => ?hy40) ?hn40; (case hw40 => rfl); (case hy40 => (go_simp; (try with_reducible rfl))); (try simp only [Act.put, List.setIfInBounds_toArray, List.set_cons_zero, List.set_cons_succ]))
      (refine TD.load (v := ?v41) (p := ?p41) (Mod.refl _ _) (by simp only [List.getElem?_toArray, List.getElem?_cons_succ, List.getElem?_cons_zero]; rfl) rfl ?hw41 rfl ?hx41 (fun wq hSq => ?hy41) ?hn41; (case hw41 => rfl); (case hx41 => (simp only [Act.eval, Array.getD_eq_getD_getElem?, List.getElem?_toArray, List.getElem?_cons_succ, List.getElem?_cons_zero, Option.getD_some]; (try rfl))); (case hy41 => (have kp4q := hSq.at kp4 (fun h => h); have kp10q := hSq.at kp10 (fun h => h); go_simp; (try with_reducible rfl))); (try simp only [Act.put, List.setIfInBounds_toArray, List.set_cons_zero, List.set_cons_succ]))
      (refine TD.call (f := ?f42) (args := ?r42) (Mod.refl _ _) (by simp only [List.getElem?_toArray, List.getElem?_cons_succ, List.getElem?_cons_zero]; rfl) rfl ?hw42 (fun w1 => ?hy42) ?hsp42 ?hn42; (case hw42 => rfl); (case hy42 => (go_simp; (first | with_reducible rfl | (constructor <;> with_reducible rfl)))); (case hsp42 => (intro wq hSq; have kp4q := hSq.at kp4 (fun h => h); have kp10q := hSq.at kp10 (fun h => h); exact (get_c p b m k1 wq (HT.out.mod0 hSq)).mono (fun e w' h => ⟨_, h.1, by rw [HX1.out], h.2⟩))); rintro _ rfl; (try simp only [Act.put, List.setIfInBounds_toArray, List.set_cons_zero, List.set_cons_succ]))
      (refine TD.allocB (by simp only [List.getElem?_toArray, List.getElem?_cons_succ, List.getElem?_cons_zero]; rfl) rfl ?hw43 rfl rfl alAcct (fun p11 hp11 => ?hn43); (case hw43 => rfl); (try simp only [Act.put, List.setIfInBounds_toArray, List.set_cons_zero, List.set_cons_succ]))
      (refine TD.storeB (d := ?d44) (T := ?T44) (y := ?y44) (p := ?p44) (b := ?b44) (v := ?v44) (by simp only [List.getElem?_toArray, List.getElem?_cons_succ, List.getElem?_cons_zero]; rfl) rfl ?hw44 ?hd44 ?hop44 ?hev44 ?hx44 ?hb44 ?htag44 (fun w1 hb1 => ?hy44) ?hn44; (case hw44 => rfl); (case hd44 => rfl); (case hop44 => rfl); (case hev44 => (simp only [Act.eval, Array.getD_eq_getD_getElem?, List.getElem?_toArray, List.getElem?_cons_succ, List.getElem?_cons_zero, Option.getD_some]; (try rfl))); (case hx44 => (simp only [Act.eval, Array.getD_eq_getD_getElem?, List.getElem?_toArray, List.getElem?_cons_succ, List.getElem?_cons_zero, Option.getD_some]; (try rfl))); (case hb44 => first | exact Bx.set_same _ _ _ | (simp only [Bx.set_same]; rfl)); (case hy44 => (go_simp; (try with_reducible rfl))); (try simp only [Act.put, List.setIfInBounds_toArray, List.set_cons_zero, List.set_cons_succ]))
      refine TD.nil (fun w6 hr => ?_)
      have kp4 := hr.mod.at kp4 (fun h => h)
      have kp10 := hr.mod.at kp10 (fun h => h)
      have kp11 := hr.box p11 _ (by first | exact Bx.set_same _ _ _ | (simp only [Bx.set_same]; rfl)); dsimp only [Value.cells] at kp11; obtain ⟨gp11, kp11⟩ := kp11
      have mm := mm.then0 hr.mod
      have HT := Lib.hid (HT.out.mod0 hr.mod)
      have D11 : Hid (p ≠ p11 ∧ b ≠ p11 ∧ w.heap.size ≤ p11) := Lib.hid (by have := HZ.out; have := HS34.out; have := HS45.out; have := D10.out; omega)
      go_upto_region 8 with fail
      have b0 := x0.c.toNat_lt
      have b1 := x1.c.toNat_lt
      have bn := n.toNat_lt
      have hw1 : IntKind.u64.wrap ((18446744073709551615 : Int) - (x1.c.toNat : Int)) = ((18446744073709551615 - x1.c.toNat : Nat) : Int) := by
        rw [IntKind.wrap_u64]
        omega
      have Lkp4 := lt_size kp4
      have Lkp10 := lt_size kp10
      have Lkp11 := lt_size kp11
      refine wp_pass0 (C := fun _ _ _ => False) (κ := fun i => [0, 0, 1, 0, 0, 1, 0, 0, 0].getD i 0) [0, 1, 2, 3, 4, 5, 6, 7, 8] (by kernel_rfl) (by kernel_rfl) (fun _ _ d _ _ h => by cases d <;> exact h) ?_
      (refine TD.val0 (v := ?v45) (by simp only [List.getElem?_toArray, List.getElem?_cons_succ, List.getElem?_cons_zero]; rfl) rfl ?hw45 (fun w1 => ?hy45) ?hn45; (case hw45 => rfl); (case hy45 => (go_simp; (try with_reducible rfl))); (try simp only [Act.put, List.setIfInBounds_toArray, List.set_cons_zero, List.set_cons_succ]))
      (refine TD.val0 (v := ?v46) (by simp only [List.getElem?_toArray, List.getElem?_cons_succ, List.getElem?_cons_zero]; rfl) rfl ?hw46 (fun w1 => ?hy46) ?hn46; (case hw46 => rfl); (case hy46 => (go_simp; (try with_reducible rfl))); (try simp only [Act.put, List.setIfInBounds_toArray, List.set_cons_zero, List.set_cons_succ]))
      (refine TD.load (v := ?v47) (p := ?p47) (Mod.refl _ _) (by simp only [List.getElem?_toArray, List.getElem?_cons_succ, List.getElem?_cons_zero]; rfl) rfl ?hw47 rfl ?hx47 (fun wq hSq => ?hy47) ?hn47; (case hw47 => rfl); (case hx47 => (simp only [Act.eval, Array.getD_eq_getD_getElem?, List.getElem?_toArray, List.getElem?_cons_succ, List.getElem?_cons_zero, Option.getD_some]; (try rfl))); (case hy47 => (have kp4q := hSq.at kp4 (fun h => h); have kp10q := hSq.at kp10 (fun h => h); have kp11q := hSq.at kp11 (fun h => h); go_simp; (try with_reducible rfl))); (try simp only [Act.put, List.setIfInBounds_toArray, List.set_cons_zero, List.set_cons_succ]))
      (refine TD.val0 (v := ?v48) (by simp only [List.getElem?_toArray, List.getElem?_cons_succ, List.getElem?_cons_zero]; rfl) rfl ?hw48 (fun w1 => ?hy48) ?hn48; (case hw48 => rfl); (case hy48 => (go_simp; (try with_reducible rfl))); (try simp only [Act.put, List.setIfInBounds_toArray, List.set_cons_zero, List.set_cons_succ]))
      (refine TD.val0 (v := ?v49) (by simp only [List.getElem?_toArray, List.getElem?_cons_succ, List.getElem?_cons_zero]; rfl) rfl ?hw49 (fun w1 => ?hy49) ?hn49; (case hw49 => rfl); (case hy49 => (go_simp; (try with_reducible rfl))); (try simp only [Act.put, List.setIfInBounds_toArray, List.set_cons_zero, List.set_cons_succ]))
      (refine TD.load (v := ?v50) (p := ?p50) (Mod.refl _ _) (by simp only [List.getElem?_toArray, List.getElem?_cons_succ, List.getElem?_cons_zero]; rfl) rfl ?hw50 rfl ?hx50 (fun wq hSq => ?hy50) ?hn50; (case hw50 => rfl); (case hx50 => (simp only [Act.eval, Array.getD_eq_getD_getElem?, List.getElem?_toArray, List.getElem?_cons_succ, List.getElem?_cons_zero, Option.getD_some]; (try rfl))); (case hy50 => (have kp4q := hSq.at kp4 (fun h => h); have kp10q := hSq.at kp10 (fun h => h); have kp11q := hSq.at kp11 (fun h => h); go_simp; (try with_reducible rfl))); (try simp only [Act.put, List.setIfInBounds_toArray, List.set_cons_zero, List.set_cons_succ]))
      (refine TD.val0 (v := ?v51) (by simp only [List.getElem?_toArray, List.getElem?_cons_succ, List.getElem?_cons_zero]; rfl) rfl ?hw51 (fun w1 => ?hy51) ?hn51; (case hw51 => rfl); (case hy51 => (go_simp; (try with_reducible rfl))); (try simp only [Act.put, List.setIfInBounds_toArray, List.set_cons_zero, List.set_cons_succ]))
      (refine TD.val0 (v := ?v52) (by simp only [List.getElem?_toArray, List.getElem?_cons_succ, List.getElem?_cons_zero]; rfl) rfl ?hw52 (fun w1 => ?hy52) ?hn52; (case hw52 => rfl); (case hy52 => (go_simp; (try with_reducible rfl))); (try simp only [Act.put, List.setIfInBounds_toArray, List.set_cons_zero, List.set_cons_succ]))
      (refine TD.val0 (v := ?v53) (by simp only [List.getElem?_toArray, List.getElem?_cons_succ, List.getElem?_cons_zero]; rfl) rfl ?hw53 (fun w1 => ?hy53) ?hn53; (case hw53 => rfl); (case hy53 => (go_simp; (try with_reducible rfl))); (try simp only [Act.put, List.setIfInBounds_toArray, List.set_cons_zero, List.set_cons_succ]))
      refine TD.nil (fun w7 hr => ?_)
      have kp4 := hr.mod.at kp4 (fun h => h)
      have kp10 := hr.mod.at kp10 (fun h => h)
      have kp11 := hr.mod.at kp11 (fun h => h)
      rw [min3]
      have mm := mm.then0 hr.mod
      have HT := Lib.hid (HT.out.mod0 hr.mod)
      obtain ⟨mv, hmv⟩ : ∃ mv : UInt64, mv.toNat = min n.toNat (min x0.c.toNat (18446744073709551615 - x1.c.toNat)) := u64of _ (by omega)
      rw [← hmv]
      have bm : mv.toNat ≤ x0.c.toNat ∧ mv.toNat ≤ 18446744073709551615 - x1.c.toNat := by omega
      have HMV := Lib.hid hmv
      clear hw1 hmv
      obtain ⟨y0, hy0⟩ : ∃ y : UInt64, y.toNat = x0.c.toNat - mv.toNat := u64of _ (by omega)
      obtain ⟨y1, hy1⟩ : ∃ y : UInt64, y.toNat = x1.c.toNat + mv.toNat := u64of _ (by omega)
      obtain ⟨s1, hs0⟩ := u64of ((x1.s.toNat + 1) % 18446744073709551616) (Nat.mod_lt _ (by omega))
      have hw4 : IntKind.u64.wrap ((x1.s.toNat : Int) + 1) = (s1.toNat : Int) := by
        rw [IntKind.wrap_u64, hs0]
        omega
      clear hs0
      have hw2 : IntKind.u64.wrap ((x0.c.toNat : Int) - (mv.toNat : Int)) = (y0.toNat : Int) := by
        rw [IntKind.wrap_u64, hy0]
        omega
      have hw3 : IntKind.u64.wrap ((x1.c.toNat : Int) + (mv.toNat : Int)) = (y1.toNat : Int) := by
        rw [IntKind.wrap_u64, hy1]
        omega
      have HY0 := Lib.hid hy0
      have HY1 := Lib.hid hy1
      clear hy0 hy1 bm b0 b1 bn
      go_upto_region 9 with fail
      have Lkp4 := lt_size kp4
      have Lkp10 := lt_size kp10
      have Lkp11 := lt_size kp11
      refine wp_pass0 (C := fun _ _ _ => False) (κ := fun i => [0, 1, 0, 0, 0, 5].getD i 0) [0, 1, 2, 3, 4, 5] (by kernel_rfl) (by kernel_rfl) (fun _ _ d _ _ h => by cases d <;> exact h) ?_
      (refine TD.val0 (v := ?v54) (by simp only [List.getElem?_toArray, List.getElem?_cons_succ, List.getElem?_cons_zero]; rfl) rfl ?hw54 (fun w1 => ?hy54) ?hn54; (case hw54 => rfl); (case hy54 => (go_simp; (try with_reducible rfl))); (try simp only [Act.put, List.setIfInBounds_toArray, List.set_cons_zero, List.set_cons_succ]))
      (refine TD.load (v := ?v55) (p := ?p55) (Mod.refl _ _) (by simp only [List.getElem?_toArray, List.getElem?_cons_succ, List.getElem?_cons_zero]; rfl) rfl ?hw55 rfl ?hx55 (fun wq hSq => ?hy55) ?hn55; (case hw55 => rfl); (case hx55 => (simp only [Act.eval, Array.getD_eq_getD_getElem?, List.getElem?_toArray, List.getElem?_cons_succ, List.getElem?_cons_zero, Option.getD_some]; (try rfl))); (case hy55 => (have kp4q := hSq.at kp4 (fun h => h); have kp10q := hSq.at kp10 (fun h => h); have kp11q := hSq.at kp11 (fun h => h); go_simp; (try with_reducible rfl))); (try simp only [Act.put, List.setIfInBounds_toArray, List.set_cons_zero, List.set_cons_succ]))
      (refine TD.val0 (v := ?v56) (by simp only [List.getElem?_toArray, List.getElem?_cons_succ, List.getElem?_cons_zero]; rfl) rfl ?hw56 (fun w1 => ?hy56) ?hn56; (case hw56 => rfl); (case hy56 => (go_simp; (try with_reducible rfl))); (try simp only [Act.put, List.setIfInBounds_toArray, List.set_cons_zero, List.set_cons_succ]))
      (refine TD.val0 (v := ?v57) (by simp only [List.getElem?_toArray, List.getElem?_cons_succ, List.getElem?_cons_zero]; rfl) rfl ?hw57 (fun w1 => ?hy57) ?hn57; (case hw57 => rfl); (case hy57 => (go_simp; (try with_reducible rfl))); (try simp only [Act.put, List.setIfInBounds_toArray, List.set_cons_zero, List.set_cons_succ]))
      (refine TD.val0 (v := ?v58) (by simp only [List.getElem?_toArray, List.getElem?_cons_succ, List.getElem?_cons_zero]; rfl) rfl ?hw58 (fun w1 => ?hy58) ?hn58; (case hw58 => rfl); (case hy58 => (go_simp; (try with_reducible rfl))); (try simp only [Act.put, List.setIfInBounds_toArray, List.set_cons_zero, List.set_cons_succ]))
      refine TD.eff (by simp only [List.getElem?_toArray, List.getElem?_cons_succ, List.getElem?_cons_zero]; rfl) rfl (fun wE hr => ?_)
      have kp4 := hr.mod.at0 kp4
      have kp10 := hr.mod.at0 kp10
      have kp11 := hr.mod.at0 kp11
      have mE := hr.mod
      (refine eff_store (X := ?X59) (Y := ?Y59) (w' := ?w59) (by simp only [List.getElem?_toArray, List.getElem?_cons_succ, List.getElem?_cons_zero]; rfl) ?hw59 rfl ?hx59 ?hz59 ?hy59 ?hn59; (case hw59 => rfl); (case hx59 => (simp only [Act.eval, Array.getD_eq_getD_getElem?, List.getElem?_toArray, List.getElem?_cons_succ, List.getElem?_cons_zero, Option.getD_some]; (try rfl))); (case hz59 => (simp only [Act.eval, Array.getD_eq_getD_getElem?, List.getElem?_toArray, List.getElem?_cons_succ, List.getElem?_cons_zero, Option.getD_some]; (try rfl))); (case hy59 => (go_simp; (try with_reducible rfl))))
      (first | refine TE.nil_set kp10 (fun w8 kp10 mS => ?_) | refine TE.nil_setCell kp10 (fun w8 kp10 mS => ?_))
      (try simp only [Array.setIfInBounds, List.setIfInBounds_toArray, List.set_cons_zero, List.set_cons_succ] at kp10)
      have kp4 := mS.at_ne kp4 (by omega)
      have kp11 := mS.at_ne kp11 (by omega)
      rw [av_set_c'] at kp10
      have mm := (mm.then0 mE).then mS (fun i hi e => by have := D10.out; omega)
      have HT := Lib.hid ((HT.out.mod0 mE).mod mS (fun e => D10.out.1 e) (fun e => D10.out.2.1 e))
      go_upto_region 10 with fail
      have Lkp4 := lt_size kp4
      have Lkp10 := lt_size kp10
      have Lkp11 := lt_size kp11
      refine wp_pass0 (C := fun _ _ _ => False) (κ := fun i => [0, 1, 0, 0, 0, 5].getD i 0) [0, 1, 2, 3, 4, 5] (by kernel_rfl) (by kernel_rfl) (fun _ _ d _ _ h => by cases d <;> exact h) ?_
      (refine TD.val0 (v := ?v60) (by simp only [List.getElem?_toArray, List.getElem?_cons_succ, List.getElem?_cons_zero]; rfl) rfl ?hw60 (fun w1 => ?hy60) ?hn60; (case hw60 => rfl); (case hy60 => (go_simp; (try with_reducible rfl))); (try simp only [Act.put, List.setIfInBounds_toArray, List.set_cons_zero, List.set_cons_succ]))
      (refine TD.load (v := ?v61) (p := ?p61) (Mod.refl _ _) (by simp only [List.getElem?_toArray, List.getElem?_cons_succ, List.getElem?_cons_zero]; rfl) rfl ?hw61 rfl ?hx61 (fun wq hSq => ?hy61) ?hn61; (case hw61 => rfl); (case hx61 => (simp only [Act.eval, Array.getD_eq_getD_getElem?, List.getElem?_toArray, List.getElem?_cons_succ, List.getElem?_cons_zero, Option.getD_some]; (try rfl))); (case hy61 => (have kp4q := hSq.at kp4 (fun h => h); have kp10q := hSq.at kp10 (fun h => h); have kp11q := hSq.at kp11 (fun h => h); go_simp; (try with_reducible rfl))); (try simp only [Act.put, List.setIfInBounds_toArray, List.set_cons_zero, List.set_cons_succ]))
      (refine TD.val0 (v := ?v62) (by simp only [List.getElem?_toArray, List.getElem?_cons_succ, List.getElem?_cons_zero]; rfl) rfl ?hw62 (fun w1 => ?hy62) ?hn62; (case hw62 => rfl); (case hy62 => (go_simp; (try with_reducible rfl))); (try simp only [Act.put, List.setIfInBounds_toArray, List.set_cons_zero, List.set_cons_succ]))
      (refine TD.val0 (v := ?v63) (by simp only [List.getElem?_toArray, List.getElem?_cons_succ, List.getElem?_cons_zero]; rfl) rfl ?hw63 (fun w1 => ?hy63) ?hn63; (case hw63 => rfl); (case hy63 => (go_simp; (try with_reducible rfl))); (try simp only [Act.put, List.setIfInBounds_toArray, List.set_cons_zero, List.set_cons_succ]))
      (refine TD.val0 (v := ?v64) (by simp only [List.getElem?_toArray, List.getElem?_cons_succ, List.getElem?_cons_zero]; rfl) rfl ?hw64 (fun w1 => ?hy64) ?hn64; (case hw64 => rfl); (case hy64 => (go_simp; (try with_reducible rfl))); (try simp only [Act.put, List.setIfInBounds_toArray, List.set_cons_zero, List.set_cons_succ]))
      refine TD.eff (by simp only [List.getElem?_toArray, List.getElem?_cons_succ, List.getElem?_cons_zero]; rfl) rfl (fun wE hr => ?_)
      have kp4 := hr.mod.at0 kp4
      have kp10 := hr.mod.at0 kp10
      have kp11 := hr.mod.at0 kp11
      have mE := hr.mod
      (refine eff_store (X := ?X65) (Y := ?Y65) (w' := ?w65) (by simp only [List.getElem?_toArray, List.getElem?_cons_succ, List.getElem?_cons_zero]; rfl) ?hw65 rfl ?hx65 ?hz65 ?hy65 ?hn65; (case hw65 => rfl); (case hx65 => (simp only [Act.eval, Array.getD_eq_getD_getElem?, List.getElem?_toArray, List.getElem?_cons_succ, List.getElem?_cons_zero, Option.getD_some]; (try rfl))); (case hz65 => (simp only [Act.eval, Array.getD_eq_getD_getElem?, List.getElem?_toArray, List.getElem?_cons_succ, List.getElem?_cons_zero, Option.getD_some]; (try rfl))); (case hy65 => (go_simp; (try with_reducible rfl))))
      (first | refine TE.nil_set kp11 (fun w9 kp11 mS => ?_) | refine TE.nil_setCell kp11 (fun w9 kp11 mS => ?_))
      (try simp only [Array.setIfInBounds, List.setIfInBounds_toArray, List.set_cons_zero, List.set_cons_succ] at kp11)
      have kp4 := mS.at_ne kp4 (by omega)
      have kp10 := mS.at_ne kp10 (by omega)
      rw [av_set_c'] at kp11
      have mm := (mm.then0 mE).then mS (fun i hi e => by have := D11.out; omega)
      have HT := Lib.hid ((HT.out.mod0 mE).mod mS (fun e => D11.out.1 e) (fun e => D11.out.2.1 e))
      go_upto_region 11 with fail
      have Lkp4 := lt_size kp4
      have Lkp10 := lt_size kp10
      have Lkp11 := lt_size kp11
      refine wp_pass0 (C := fun _ _ _ => False) (κ := fun i => [0, 1, 0, 0, 5].getD i 0) [0, 1, 2, 3, 4] (by kernel_rfl) (by kernel_rfl) (fun _ _ d _ _ h => by cases d <;> exact h) ?_
      (refine TD.val0 (v := ?v66) (by simp only [List.getElem?_toArray, List.getElem?_cons_succ, List.getElem?_cons_zero]; rfl) rfl ?hw66 (fun w1 => ?hy66) ?hn66; (case hw66 => rfl); (case hy66 => (go_simp; (try with_reducible rfl))); (try simp only [Act.put, List.setIfInBounds_toArray, List.set_cons_zero, List.set_cons_succ]))
      (refine TD.load (v := ?v67) (p := ?p67) (Mod.refl _ _) (by simp only [List.getElem?_toArray, List.getElem?_cons_succ, List.getElem?_cons_zero]; rfl) rfl ?hw67 rfl ?hx67 (fun wq hSq => ?hy67) ?hn67; (case hw67 => rfl); (case hx67 => (simp only [Act.eval, Array.getD_eq_getD_getElem?, List.getElem?_toArray, List.getElem?_cons_succ, List.getElem?_cons_zero, Option.getD_some]; (try rfl))); (case hy67 => (have kp4q := hSq.at kp4 (fun h => h); have kp10q := hSq.at kp10 (fun h => h); have kp11q := hSq.at kp11 (fun h => h); go_simp; (try with_reducible rfl))); (try simp only [Act.put, List.setIfInBounds_toArray, List.set_cons_zero, List.set_cons_succ]))
      (refine TD.val0 (v := ?v68) (by simp only [List.getElem?_toArray, List.getElem?_cons_succ, List.getElem?_cons_zero]; rfl) rfl ?hw68 (fun w1 => ?hy68) ?hn68; (case hw68 => rfl); (case hy68 => (go_simp; (try with_reducible rfl))); (try simp only [Act.put, List.setIfInBounds_toArray, List.set_cons_zero, List.set_cons_succ]))
      (refine TD.val0 (v := ?v69) (by simp only [List.getElem?_toArray, List.getElem?_cons_succ, List.getElem?_cons_zero]; rfl) rfl ?hw69 (fun w1 => ?hy69) ?hn69; (case hw69 => rfl); (case hy69 => (go_simp; (try with_reducible rfl))); (try simp only [Act.put, List.setIfInBounds_toArray, List.set_cons_zero, List.set_cons_succ]))
      refine TD.eff (by simp only [List.getElem?_toArray, List.getElem?_cons_succ, List.getElem?_cons_zero]; rfl) rfl (fun wE hr => ?_)
      have kp4 := hr.mod.at0 kp4
      have kp10 := hr.mod.at0 kp10
      have kp11 := hr.mod.at0 kp11
      have mE := hr.mod
      (refine eff_store (X := ?X70) (Y := ?Y70) (w' := ?w70) (by simp only [List.getElem?_toArray, List.getElem?_cons_succ, List.getElem?_cons_zero]; rfl) ?hw70 rfl ?hx70 ?hz70 ?hy70 ?hn70; (case hw70 => rfl); (case hx70 => (simp only [Act.eval, Array.getD_eq_getD_getElem?, List.getElem?_toArray, List.getElem?_cons_succ, List.getElem?_cons_zero, Option.getD_some]; (try rfl))); (case hz70 => (simp only [Act.eval, Array.getD_eq_getD_getElem?, List.getElem?_toArray, List.getElem?_cons_succ, List.getElem?_cons_zero, Option.getD_some]; (try rfl))); (case hy70 => (go_simp; (try with_reducible rfl))))
      (first | refine TE.nil_set kp11 (fun w10 kp11 mS => ?_) | refine TE.nil_setCell kp11 (fun w10 kp11 mS => ?_))
      (try simp only [Array.setIfInBounds, List.setIfInBounds_toArray, List.set_cons_zero, List.set_cons_succ] at kp11)
      have kp4 := mS.at_ne kp4 (by omega)
      have kp10 := mS.at_ne kp10 (by omega)
      rw [av_set_s'] at kp11
      have mm := (mm.then0 mE).then mS (fun i hi e => by have := D11.out; omega)
      have HT := Lib.hid ((HT.out.mod0 mE).mod mS (fun e => D11.out.1 e) (fun e => D11.out.2.1 e))
      have hb9 := bk9
      go_upto_region 12 with fail
      have Lkp4 := lt_size kp4
      have Lkp10 := lt_size kp10
      have Lkp11 := lt_size kp11
      refine wp_pass0 (C := fun _ _ _ => False) (κ := fun i => [0, 0, 5].getD i 0) [0, 1, 2] (by kernel_rfl) (by kernel_rfl) (fun _ _ d _ _ h => by cases d <;> exact h) ?_
      (refine TD.build (v := ?v71) (ps := ?p71) (by simp only [List.getElem?_toArray, List.getElem?_cons_succ, List.getElem?_cons_zero]; rfl) rfl ?hw71 rfl ?hx71 (fun w1 => ?hy71) ?hn71; (case hw71 => rfl); (case hx71 => (simp only [List.map_toArray, List.map_cons, List.map_nil, Act.eval, Array.getD_eq_getD_getElem?, List.getElem?_toArray, List.getElem?_cons_succ, List.getElem?_cons_zero, Option.getD_some]; (try rfl))); (case hy71 => (rw [hb9]; (try with_reducible rfl))); (try simp only [Act.put, List.setIfInBounds_toArray, List.set_cons_zero, List.set_cons_succ]))
      (refine TD.val0 (v := ?v72) (by simp only [List.getElem?_toArray, List.getElem?_cons_succ, List.getElem?_cons_zero]; rfl) rfl ?hw72 (fun w1 => ?hy72) ?hn72; (case hw72 => rfl); (case hy72 => (go_simp; (try with_reducible rfl))); (try simp only [Act.put, List.setIfInBounds_toArray, List.set_cons_zero, List.set_cons_succ]))
      refine TD.eff (by simp only [List.getElem?_toArray, List.getElem?_cons_succ, List.getElem?_cons_zero]; rfl) rfl (fun wE hr => ?_)
      have kp4 := hr.mod.at0 kp4
      have kp10 := hr.mod.at0 kp10
      have kp11 := hr.mod.at0 kp11
      have mE := hr.mod
      (refine eff_store (X := ?X73) (Y := ?Y73) (w' := ?w73) (by simp only [List.getElem?_toArray, List.getElem?_cons_succ, List.getElem?_cons_zero]; rfl) ?hw73 rfl ?hx73 ?hz73 ?hy73 ?hn73; (case hw73 => rfl); (case hx73 => (simp only [Act.eval, Array.getD_eq_getD_getElem?, List.getElem?_toArray, List.getElem?_cons_succ, List.getElem?_cons_zero, Option.getD_some]; (try rfl))); (case hz73 => (simp only [Act.eval, Array.getD_eq_getD_getElem?, List.getElem?_toArray, List.getElem?_cons_succ, List.getElem?_cons_zero, Option.getD_some]; (try rfl))); (case hy73 => (go_simp; (try with_reducible rfl))))
      (first | refine TE.nil_set kp10 (fun w11 kp10 mS => ?_) | refine TE.nil_setCell kp10 (fun w11 kp10 mS => ?_))
      (try simp only [Array.setIfInBounds, List.setIfInBounds_toArray, List.set_cons_zero, List.set_cons_succ] at kp10)
      have kp4 := mS.at_ne kp4 (by omega)
      have kp11 := mS.at_ne kp11 (by omega)
      rw [av_set_o] at kp10
      dsimp only at kp10 kp11
      have mm := (mm.then0 mE).then mS (fun i hi e => by have := D10.out; omega)
      have HT := Lib.hid ((HT.out.mod0 mE).mod mS (fun e => D10.out.1 e) (fun e => D10.out.2.1 e))
      obtain ⟨z0, hz0⟩ : ∃ z : Acct, z = ⟨y0, k9, x0.s⟩ := ⟨_, rfl⟩
      obtain ⟨z1, hz1⟩ : ∃ z : Acct, z = ⟨y1, x1.o, s1⟩ := ⟨_, rfl⟩
      rw [← hz0] at kp10
      rw [← hz1] at kp11
      have HZ0 := Lib.hid hz0
      have HZ1 := Lib.hid hz1
      clear hz0 hz1 hw2 hw3 hw4 hb9 mE mS hr
      go_upto_region 13 with fail
      have Lkp4 := lt_size kp4
      have Lkp10 := lt_size kp10
      have Lkp11 := lt_size kp11
      refine wp_pass0 (C := fun _ _ _ => False) (κ := fun i => [0, 0, 1, 1, 5].getD i 0) [0, 1, 2, 3, 4] (by kernel_rfl) (by kernel_rfl) (fun _ _ d _ _ h => by cases d <;> exact h) ?_
      (refine TD.val0 (v := ?v74) (by simp only [List.getElem?_toArray, List.getElem?_cons_succ, List.getElem?_cons_zero]; rfl) rfl ?hw74 (fun w1 => ?hy74) ?hn74; (case hw74 => rfl); (case hy74 => (go_simp; (try with_reducible rfl))); (try simp only [Act.put, List.setIfInBounds_toArray, List.set_cons_zero, List.set_cons_succ]))
      (refine TD.val0 (v := ?v75) (by simp only [List.getElem?_toArray, List.getElem?_cons_succ, List.getElem?_cons_zero]; rfl) rfl ?hw75 (fun w1 => ?hy75) ?hn75; (case hw75 => rfl); (case hy75 => (go_simp; (try with_reducible rfl))); (try simp only [Act.put, List.setIfInBounds_toArray, List.set_cons_zero, List.set_cons_succ]))
      (refine TD.load (v := ?v76) (p := ?p76) (Mod.refl _ _) (by simp only [List.getElem?_toArray, List.getElem?_cons_succ, List.getElem?_cons_zero]; rfl) rfl ?hw76 rfl ?hx76 (fun wq hSq => ?hy76) ?hn76; (case hw76 => rfl); (case hx76 => (simp only [Act.eval, Array.getD_eq_getD_getElem?, List.getElem?_toArray, List.getElem?_cons_succ, List.getElem?_cons_zero, Option.getD_some]; (try rfl))); (case hy76 => (have kp4q := hSq.at kp4 (fun h => h); have kp10q := hSq.at kp10 (fun h => h); have kp11q := hSq.at kp11 (fun h => h); go_simp; (try with_reducible rfl))); (try simp only [Act.put, List.setIfInBounds_toArray, List.set_cons_zero, List.set_cons_succ]))
      (refine TD.load (v := ?v77) (p := ?p77) (Mod.refl _ _) (by simp only [List.getElem?_toArray, List.getElem?_cons_succ, List.getElem?_cons_zero]; rfl) rfl ?hw77 rfl ?hx77 (fun wq hSq => ?hy77) ?hn77; (case hw77 => rfl); (case hx77 => (simp only [Act.eval, Array.getD_eq_getD_getElem?, List.getElem?_toArray, List.getElem?_cons_succ, List.getElem?_cons_zero, Option.getD_some]; (try rfl))); (case hy77 => (have kp4q := hSq.at kp4 (fun h => h); have kp10q := hSq.at kp10 (fun h => h); have kp11q := hSq.at kp11 (fun h => h); go_simp; (try with_reducible rfl))); (try simp only [Act.put, List.setIfInBounds_toArray, List.set_cons_zero, List.set_cons_succ]))
      refine TD.eff (by simp only [List.getElem?_toArray, List.getElem?_cons_succ, List.getElem?_cons_zero]; rfl) rfl (fun w12 hr => ?_)
      have kp4 := hr.mod.at kp4 (fun h => h)
      have kp10 := hr.mod.at kp10 (fun h => h)
      have kp11 := hr.mod.at kp11 (fun h => h)
      have mm := mm.then0 hr.mod
      have HT := Lib.hid (HT.out.mod0 hr.mod)
      obtain ⟨_, esb, clb, kb, _⟩ := HT.out
      have n4 : p4 ≠ b := ne_of_obj kp4 kb (by simp)
      have n10 : p10 ≠ b := ne_of_obj kp10 kb (by simp)
      have n11 : p11 ≠ b := ne_of_obj kp11 kb (by simp)
      clear kb
      have hput := put_c p b m k0 z0 w12 HT.out
      (refine eff_callP (by simp only [List.getElem?_toArray, List.getElem?_cons_succ, List.getElem?_cons_zero]; rfl) ?hw79 ?hy79 hput (fun wn hP => ?hn79); (case hw79 => rfl); (case hy79 => (go_simp; (try (first | with_reducible rfl | (constructor <;> with_reducible rfl))))); (try simp only [Act.put, List.setIfInBounds_toArray, List.set_cons_zero, List.set_cons_succ]))
      refine TE.nil ?_
      clear hput
      obtain ⟨hT3, m3⟩ := hP
      replace kp4 := m3.at kp4 n4
      replace kp10 := m3.at kp10 n10
      replace kp11 := m3.at kp11 n11
      have mm := mm.then m3 (fun i hi e => by have := HBW.out; omega)
      have HT := Lib.hid hT3
      clear hT3 m3
      go_upto_region 14 with fail
      have Lkp4 := lt_size kp4
      have Lkp10 := lt_size kp10
      have Lkp11 := lt_size kp11
      refine wp_pass0 (C := fun _ _ _ => False) (κ := fun i => [0, 0, 1, 1, 5].getD i 0) [0, 1, 2, 3, 4] (by kernel_rfl) (by kernel_rfl) (fun _ _ d _ _ h => by cases d <;> exact h) ?_
      (refine TD.val0 (v := ?v80) (by simp only [List.getElem?_toArray, List.getElem?_cons_succ, List.getElem?_cons_zero]; rfl) rfl ?hw80 (fun w1 => ?hy80) ?hn80; (case hw80 => rfl); (case hy80 => (go_simp; (try with_reducible rfl))); (try simp only [Act.put, List.setIfInBounds_toArray, List.set_cons_zero, List.set_cons_succ]))
      (refine TD.val0 (v := ?v81) (by simp only [List.getElem?_toArray, List.getElem?_cons_succ, List.getElem?_cons_zero]; rfl) rfl ?hw81 (fun w1 => ?hy81) ?hn81; (case hw81 => rfl); (case hy81 => (go_simp; (try with_reducible rfl))); (try simp only [Act.put, List.setIfInBounds_toArray, List.set_cons_zero, List.set_cons_succ]))
      (refine TD.load (v := ?v82) (p := ?p82) (Mod.refl _ _) (by simp only [List.getElem?_toArray, List.getElem?_cons_succ, List.getElem?_cons_zero]; rfl) rfl ?hw82 rfl ?hx82 (fun wq hSq => ?hy82) ?hn82; (case hw82 => rfl); (case hx82 => (simp only [Act.eval, Array.getD_eq_getD_getElem?, List.getElem?_toArray, List.getElem?_cons_succ, List.getElem?_cons_zero, Option.getD_some]; (try rfl))); (case hy82 => (have kp4q := hSq.at kp4 (fun h => h); have kp10q := hSq.at kp10 (fun h => h); have kp11q := hSq.at kp11 (fun h => h); go_simp; (try with_reducible rfl))); (try simp only [Act.put, List.setIfInBounds_toArray, List.set_cons_zero, List.set_cons_succ]))
      (refine TD.load (v := ?v83) (p := ?p83) (Mod.refl _ _) (by simp only [List.getElem?_toArray, List.getElem?_cons_succ, List.getElem?_cons_zero]; rfl) rfl ?hw83 rfl ?hx83 (fun wq hSq => ?hy83) ?hn83; (case hw83 => rfl); (case hx83 => (simp only [Act.eval, Array.getD_eq_getD_getElem?, List.getElem?_toArray, List.getElem?_cons_succ, List.getElem?_cons_zero, Option.getD_some]; (try rfl))); (case hy83 => (have kp4q := hSq.at kp4 (fun h => h); have kp10q := hSq.at kp10 (fun h => h); have kp11q := hSq.at kp11 (fun h => h); go_simp; (try with_reducible rfl))); (try simp only [Act.put, List.setIfInBounds_toArray, List.set_cons_zero, List.set_cons_succ]))
      refine TD.eff (by simp only [List.getElem?_toArray, List.getElem?_cons_succ, List.getElem?_cons_zero]; rfl) rfl (fun w14 hr => ?_)
      have kp4 := hr.mod.at kp4 (fun h => h)
      have kp10 := hr.mod.at kp10 (fun h => h)
      have kp11 := hr.mod.at kp11 (fun h => h)
      have mm := mm.then0 hr.mod
      have HT := Lib.hid (HT.out.mod0 hr.mod)
      have hput := put_c p b _ k1 z1 w14 HT.out
      (refine eff_callP (by simp only [List.getElem?_toArray, List.getElem?_cons_succ, List.getElem?_cons_zero]; rfl) ?hw85 ?hy85 hput (fun wn hP => ?hn85); (case hw85 => rfl); (case hy85 => (go_simp; (try (first | with_reducible rfl | (constructor <;> with_reducible rfl))))); (try simp only [Act.put, List.setIfInBounds_toArray, List.set_cons_zero, List.set_cons_succ]))
      refine TE.nil ?_
      clear hput
      obtain ⟨hT3, m3⟩ := hP
      replace kp4 := m3.at kp4 n4
      replace kp10 := m3.at kp10 n10
      have mm := mm.then m3 (fun i hi e => by have := HBW.out; omega)
      have HT := Lib.hid hT3
      clear hT3 m3 kp11 n11 hr
      obtain ⟨m2, hm2⟩ : ∃ m2, putA (putA m k0 z0) k1 z1 = m2 := ⟨_, rfl⟩
      rw [hm2] at HT
      have HM2 := Lib.hid hm2
      have hl2 : m2.length ≤ 152 := by
        have h1 := putA_len m k0 z0
        have h2 := putA_len (putA m k0 z0) k1 z1
        have h3 := HM.out
        rw [hm2] at h2
        omega
      have hS2 : sumC m2 = sumC m := by
        rw [← hm2]
        refine coins_law1 m HN.out HK.out n.toNat z0 z1 ?_ ?_
        · rw [HX0.out, HX1.out, HZ0.out, ← HMV.out]
          exact HY0.out
        · rw [HX0.out, HX1.out, HZ1.out, ← HMV.out]
          exact HY1.out
      have hcoins := coins_c p b m2 _ HT.out (by omega)
      rw [hS2, HHi.out, HLo.out] at hcoins
      have HS2 := Lib.hid hS2
      have HL2 := Lib.hid hl2
      clear hm2 hl2 hS2
      go_wp2_with fail
      go_at_call 12
      refine hcoins.mono ?_
      rintro e w15 ⟨rfl, m4⟩
      clear hcoins
      replace kp4 := m4.at0 kp4
      replace kp10 := m4.at0 kp10
      have mm := mm.then0 m4
      have HT := Lib.hid (HT.out.mod0 m4)
      clear m4
      go_upto_region 18 with fail
      have c0 := z0.c.toNat_lt
      have cn := n.toNat_lt
      have hw5 : IntKind.u64.wrap ((18446744073709551615 : Int) - (z0.c.toNat : Int)) = ((18446744073709551615 - z0.c.toNat : Nat) : Int) := by
        rw [IntKind.wrap_u64]
        omega
      have Lkp4 := lt_size kp4
      have Lkp10 := lt_size kp10
      refine wp_pass0 (C := fun _ _ _ => False) (κ := fun i => [0, 0, 0, 1, 0, 0, 0].getD i 0) [0, 1, 2, 3, 4, 5, 6] (by kernel_rfl) (by kernel_rfl) (fun _ _ d _ _ h => by cases d <;> exact h) ?_
      (refine TD.val0 (v := ?v86) (by simp only [List.getElem?_toArray, List.getElem?_cons_succ, List.getElem?_cons_zero]; rfl) rfl ?hw86 (fun w1 => ?hy86) ?hn86; (case hw86 => rfl); (case hy86 => (go_simp; (try with_reducible rfl))); (try simp only [Act.put, List.setIfInBounds_toArray, List.set_cons_zero, List.set_cons_succ]))
      (refine TD.val0 (v := ?v87) (by simp only [List.getElem?_toArray, List.getElem?_cons_succ, List.getElem?_cons_zero]; rfl) rfl ?hw87 (fun w1 => ?hy87) ?hn87; (case hw87 => rfl); (case hy87 => (go_simp; (try with_reducible rfl))); (try simp only [Act.put, List.setIfInBounds_toArray, List.set_cons_zero, List.set_cons_succ]))
      (refine TD.val0 (v := ?v88) (by simp only [List.getElem?_toArray, List.getElem?_cons_succ, List.getElem?_cons_zero]; rfl) rfl ?hw88 (fun w1 => ?hy88) ?hn88; (case hw88 => rfl); (case hy88 => (go_simp; (try with_reducible rfl))); (try simp only [Act.put, List.setIfInBounds_toArray, List.set_cons_zero, List.set_cons_succ]))
      (refine TD.load (v := ?v89) (p := ?p89) (Mod.refl _ _) (by simp only [List.getElem?_toArray, List.getElem?_cons_succ, List.getElem?_cons_zero]; rfl) rfl ?hw89 rfl ?hx89 (fun wq hSq => ?hy89) ?hn89; (case hw89 => rfl); (case hx89 => (simp only [Act.eval, Array.getD_eq_getD_getElem?, List.getElem?_toArray, List.getElem?_cons_succ, List.getElem?_cons_zero, Option.getD_some]; (try rfl))); (case hy89 => (have kp4q := hSq.at kp4 (fun h => h); have kp10q := hSq.at kp10 (fun h => h); go_simp; (try with_reducible rfl))); (try simp only [Act.put, List.setIfInBounds_toArray, List.set_cons_zero, List.set_cons_succ]))
      (refine TD.val0 (v := ?v90) (by simp only [List.getElem?_toArray, List.getElem?_cons_succ, List.getElem?_cons_zero]; rfl) rfl ?hw90 (fun w1 => ?hy90) ?hn90; (case hw90 => rfl); (case hy90 => (go_simp; (try with_reducible rfl))); (try simp only [Act.put, List.setIfInBounds_toArray, List.set_cons_zero, List.set_cons_succ]))
      (refine TD.val0 (v := ?v91) (by simp only [List.getElem?_toArray, List.getElem?_cons_succ, List.getElem?_cons_zero]; rfl) rfl ?hw91 (fun w1 => ?hy91) ?hn91; (case hw91 => rfl); (case hy91 => (go_simp; (try with_reducible rfl))); (try simp only [Act.put, List.setIfInBounds_toArray, List.set_cons_zero, List.set_cons_succ]))
      (refine TD.val0 (v := ?v92) (by simp only [List.getElem?_toArray, List.getElem?_cons_succ, List.getElem?_cons_zero]; rfl) rfl ?hw92 (fun w1 => ?hy92) ?hn92; (case hw92 => rfl); (case hy92 => (go_simp; (try with_reducible rfl))); (try simp only [Act.put, List.setIfInBounds_toArray, List.set_cons_zero, List.set_cons_succ]))
      refine TD.nil (fun w18 hr => ?_)
      have kp4 := hr.mod.at kp4 (fun h => h)
      have kp10 := hr.mod.at kp10 (fun h => h)
      rw [min2]
      have mm := mm.then0 hr.mod
      have HT := Lib.hid (HT.out.mod0 hr.mod)
      obtain ⟨mo, hmo⟩ := u64of (min n.toNat (18446744073709551615 - z0.c.toNat)) (by omega)
      rw [← hmo]
      obtain ⟨y2, hy2⟩ := u64of (z0.c.toNat + mo.toNat) (by omega)
      have hw6 : IntKind.u64.wrap ((z0.c.toNat : Int) + (mo.toNat : Int)) = (y2.toNat : Int) := by
        rw [IntKind.wrap_u64, hy2]
        omega
      have HMO := Lib.hid hmo
      have HY2 := Lib.hid hy2
      clear hmo hy2 hw5 c0 cn hr
      go_upto_region 19 with fail
      have Lkp4 := lt_size kp4
      have Lkp10 := lt_size kp10
      refine wp_pass0 (C := fun _ _ _ => False) (κ := fun i => [0, 1, 0, 0, 0, 5].getD i 0) [0, 1, 2, 3, 4, 5] (by kernel_rfl) (by kernel_rfl) (fun _ _ d _ _ h => by cases d <;> exact h) ?_
      (refine TD.val0 (v := ?v93) (by simp only [List.getElem?_toArray, List.getElem?_cons_succ, List.getElem?_cons_zero]; rfl) rfl ?hw93 (fun w1 => ?hy93) ?hn93; (case hw93 => rfl); (case hy93 => (go_simp; (try with_reducible rfl))); (try simp only [Act.put, List.setIfInBounds_toArray, List.set_cons_zero, List.set_cons_succ]))
      (refine TD.load (v := ?v94) (p := ?p94) (Mod.refl _ _) (by simp only [List.getElem?_toArray, List.getElem?_cons_succ, List.getElem?_cons_zero]; rfl) rfl ?hw94 rfl ?hx94 (fun wq hSq => ?hy94) ?hn94; (case hw94 => rfl); (case hx94 => (simp only [Act.eval, Array.getD_eq_getD_getElem?, List.getElem?_toArray, List.getElem?_cons_succ, List.getElem?_cons_zero, Option.getD_some]; (try rfl))); (case hy94 => (have kp4q := hSq.at kp4 (fun h => h); have kp10q := hSq.at kp10 (fun h => h); go_simp; (try with_reducible rfl))); (try simp only [Act.put, List.setIfInBounds_toArray, List.set_cons_zero, List.set_cons_succ]))
      (refine TD.val0 (v := ?v95) (by simp only [List.getElem?_toArray, List.getElem?_cons_succ, List.getElem?_cons_zero]; rfl) rfl ?hw95 (fun w1 => ?hy95) ?hn95; (case hw95 => rfl); (case hy95 => (go_simp; (try with_reducible rfl))); (try simp only [Act.put, List.setIfInBounds_toArray, List.set_cons_zero, List.set_cons_succ]))
      (refine TD.val0 (v := ?v96) (by simp only [List.getElem?_toArray, List.getElem?_cons_succ, List.getElem?_cons_zero]; rfl) rfl ?hw96 (fun w1 => ?hy96) ?hn96; (case hw96 => rfl); (case hy96 => (go_simp; (try with_reducible rfl))); (try simp only [Act.put, List.setIfInBounds_toArray, List.set_cons_zero, List.set_cons_succ]))
      (refine TD.val0 (v := ?v97) (by simp only [List.getElem?_toArray, List.getElem?_cons_succ, List.getElem?_cons_zero]; rfl) rfl ?hw97 (fun w1 => ?hy97) ?hn97; (case hw97 => rfl); (case hy97 => (go_simp; (try with_reducible rfl))); (try simp only [Act.put, List.setIfInBounds_toArray, List.set_cons_zero, List.set_cons_succ]))
      refine TD.eff (by simp only [List.getElem?_toArray, List.getElem?_cons_succ, List.getElem?_cons_zero]; rfl) rfl (fun wE hr => ?_)
      have kp4 := hr.mod.at0 kp4
      have kp10 := hr.mod.at0 kp10
      have mE := hr.mod
      (refine eff_store (X := ?X98) (Y := ?Y98) (w' := ?w98) (by simp only [List.getElem?_toArray, List.getElem?_cons_succ, List.getElem?_cons_zero]; rfl) ?hw98 rfl ?hx98 ?hz98 ?hy98 ?hn98; (case hw98 => rfl); (case hx98 => (simp only [Act.eval, Array.getD_eq_getD_getElem?, List.getElem?_toArray, List.getElem?_cons_succ, List.getElem?_cons_zero, Option.getD_some]; (try rfl))); (case hz98 => (simp only [Act.eval, Array.getD_eq_getD_getElem?, List.getElem?_toArray, List.getElem?_cons_succ, List.getElem?_cons_zero, Option.getD_some]; (try rfl))); (case hy98 => (go_simp; (try with_reducible rfl))))
      (first | refine TE.nil_set kp10 (fun w19 kp10 mS => ?_) | refine TE.nil_setCell kp10 (fun w19 kp10 mS => ?_))
      (try simp only [Array.setIfInBounds, List.setIfInBounds_toArray, List.set_cons_zero, List.set_cons_succ] at kp10)
      have kp4 := mS.at_ne kp4 (by omega)
      rw [av_set_c'] at kp10
      have mm := (mm.then0 mE).then mS (fun i hi e => by have := D10.out; omega)
      have HT := Lib.hid ((HT.out.mod0 mE).mod mS (fun e => D10.out.1 e) (fun e => D10.out.2.1 e))
      obtain ⟨z2, hz2⟩ : ∃ z : Acct, z = ⟨y2, z0.o, z0.s⟩ := ⟨_, rfl⟩
      rw [← hz2] at kp10
      have HZ2 := Lib.hid hz2
      clear hz2 hw6 mE mS hr
      go_upto_region 20 with fail
      have Lkp4 := lt_size kp4
      have Lkp10 := lt_size kp10
      refine wp_pass0 (C := fun _ _ _ => False) (κ := fun i => [0, 0, 1, 1, 5].getD i 0) [0, 1, 2, 3, 4] (by kernel_rfl) (by kernel_rfl) (fun _ _ d _ _ h => by cases d <;> exact h) ?_
      (refine TD.val0 (v := ?v99) (by simp only [List.getElem?_toArray, List.getElem?_cons_succ, List.getElem?_cons_zero]; rfl) rfl ?hw99 (fun w1 => ?hy99) ?hn99; (case hw99 => rfl); (case hy99 => (go_simp; (try with_reducible rfl))); (try simp only [Act.put, List.setIfInBounds_toArray, List.set_cons_zero, List.set_cons_succ]))
      (refine TD.val0 (v := ?v100) (by simp only [List.getElem?_toArray, List.getElem?_cons_succ, List.getElem?_cons_zero]; rfl) rfl ?hw100 (fun w1 => ?hy100) ?hn100; (case hw100 => rfl); (case hy100 => (go_simp; (try with_reducible rfl))); (try simp only [Act.put, List.setIfInBounds_toArray, List.set_cons_zero, List.set_cons_succ]))
      (refine TD.load (v := ?v101) (p := ?p101) (Mod.refl _ _) (by simp only [List.getElem?_toArray, List.getElem?_cons_succ, List.getElem?_cons_zero]; rfl) rfl ?hw101 rfl ?hx101 (fun wq hSq => ?hy101) ?hn101; (case hw101 => rfl); (case hx101 => (simp only [Act.eval, Array.getD_eq_getD_getElem?, List.getElem?_toArray, List.getElem?_cons_succ, List.getElem?_cons_zero, Option.getD_some]; (try rfl))); (case hy101 => (have kp4q := hSq.at kp4 (fun h => h); have kp10q := hSq.at kp10 (fun h => h); go_simp; (try with_reducible rfl))); (try simp only [Act.put, List.setIfInBounds_toArray, List.set_cons_zero, List.set_cons_succ]))
      (refine TD.load (v := ?v102) (p := ?p102) (Mod.refl _ _) (by simp only [List.getElem?_toArray, List.getElem?_cons_succ, List.getElem?_cons_zero]; rfl) rfl ?hw102 rfl ?hx102 (fun wq hSq => ?hy102) ?hn102; (case hw102 => rfl); (case hx102 => (simp only [Act.eval, Array.getD_eq_getD_getElem?, List.getElem?_toArray, List.getElem?_cons_succ, List.getElem?_cons_zero, Option.getD_some]; (try rfl))); (case hy102 => (have kp4q := hSq.at kp4 (fun h => h); have kp10q := hSq.at kp10 (fun h => h); go_simp; (try with_reducible rfl))); (try simp only [Act.put, List.setIfInBounds_toArray, List.set_cons_zero, List.set_cons_succ]))
      refine TD.eff (by simp only [List.getElem?_toArray, List.getElem?_cons_succ, List.getElem?_cons_zero]; rfl) rfl (fun w20 hr => ?_)
      have kp4 := hr.mod.at kp4 (fun h => h)
      have kp10 := hr.mod.at kp10 (fun h => h)
      have mm := mm.then0 hr.mod
      have HT := Lib.hid (HT.out.mod0 hr.mod)
      have hput := put_c p b _ k0 z2 w20 HT.out
      (refine eff_callP (by simp only [List.getElem?_toArray, List.getElem?_cons_succ, List.getElem?_cons_zero]; rfl) ?hw104 ?hy104 hput (fun wn hP => ?hn104); (case hw104 => rfl); (case hy104 => (go_simp; (try (first | with_reducible rfl | (constructor <;> with_reducible rfl))))); (try simp only [Act.put, List.setIfInBounds_toArray, List.set_cons_zero, List.set_cons_succ]))
      refine TE.nil ?_
      clear hput
      obtain ⟨hT3, m3⟩ := hP
      have mm := mm.then m3 (fun i hi e => by have := HBW.out; omega)
      have HT := Lib.hid hT3
      clear hT3 m3 kp4 kp10 n4 n10 hr
      have hS3 : sumC (putA m2 k0 z2) = sumC m + mo.toNat := by
        have h3 := sum_putA m2 k0 z2
        have e0 : getA m2 k0 = z0 := by
          rw [← HM2.out, getA_putA_ne _ (nodup_putA HN.out _ _) HK.out, getA_putA m HN.out]
        have e2 : z2.c.toNat = z0.c.toNat + mo.toNat := by
          rw [HZ2.out]
          exact HY2.out
        rw [e0, HS2.out] at h3
        omega
      have hcoins := coins_c p b _ _ HT.out (by have := putA_len m2 k0 z2; have := HL2.out; omega)
      rw [hS3] at hcoins
      have hle := sumC_le m
      have hml := HM.out
      have hbm := mo.toNat_lt
      have q1 := HHi.out
      have q2 := HLo.out
      have hmul : m.length * 18446744073709551616 ≤ 150 * 18446744073709551616 := Nat.mul_le_mul_right _ hml
      have hhi : hi ≤ 150 := by omega
      have hlo : lo < 18446744073709551616 := by omega
      have hw7 : IntKind.u64.wrap ((18446744073709551615 : Int) - (mo.toNat : Int)) = ((18446744073709551615 - mo.toNat : Nat) : Int) := by
        rw [IntKind.wrap_u64]
        omega
      have hw8 : IntKind.u64.wrap ((lo : Int) + (mo.toNat : Int)) = (((sumC m + mo.toNat) % 18446744073709551616 : Nat) : Int) := by
        rw [IntKind.wrap_u64]
        omega
      by_cases hc : 18446744073709551615 - mo.toNat < lo
      · have hw9 : IntKind.u64.wrap ((hi : Int) + 1) = (((sumC m + mo.toNat) / 18446744073709551616 : Nat) : Int) := by
          rw [IntKind.wrap_u64]
          omega
        generalize (sumC m + mo.toNat) / 18446744073709551616 = hi2 at *
        generalize (sumC m + mo.toNat) % 18446744073709551616 = lo2 at *
        clear hle hml hbm q1 q2 hmul hhi hlo hS3
        go_wp2_with fail
        go_at_call 12
        refine hcoins.mono ?_
        rintro e w21 ⟨rfl, m4⟩
        have mm := mm.then0 m4
        clear hcoins m4
        go_upto_region 25 with fail
        refine wp_pass0 (C := fun _ _ v => v = .bool true) (κ := fun i => [0, 0, 0, 0, 0, 0, 0, 0, 0, 0, 0, 0, 0, 2, 0, 0].getD i 0) [0, 1, 2, 3, 4, 5, 6, 7, 8, 9, 10, 11, 12, 13, 14, 15] (by kernel_rfl) (by kernel_rfl) (fun _ _ d _ _ h => by cases d <;> exact h) ?_
        (refine TD.val0 (v := ?v105) (by simp only [List.getElem?_toArray, List.getElem?_cons_succ, List.getElem?_cons_zero]; rfl) rfl ?hw105 (fun w1 => ?hy105) ?hn105; (case hw105 => rfl); (case hy105 => (go_simp; (try with_reducible rfl))); (try simp only [Act.put, List.setIfInBounds_toArray, List.set_cons_zero, List.set_cons_succ]))
        (refine TD.val0 (v := ?v106) (by simp only [List.getElem?_toArray, List.getElem?_cons_succ, List.getElem?_cons_zero]; rfl) rfl ?hw106 (fun w1 => ?hy106) ?hn106; (case hw106 => rfl); (case hy106 => (go_simp; (try with_reducible rfl))); (try simp only [Act.put, List.setIfInBounds_toArray, List.set_cons_zero, List.set_cons_succ]))
        (refine TD.val0 (v := ?v107) (by simp only [List.getElem?_toArray, List.getElem?_cons_succ, List.getElem?_cons_zero]; rfl) rfl ?hw107 (fun w1 => ?hy107) ?hn107; (case hw107 => rfl); (case hy107 => (go_simp; (try with_reducible rfl))); (try simp only [Act.put, List.setIfInBounds_toArray, List.set_cons_zero, List.set_cons_succ]))
        (refine TD.val0 (v := ?v108) (by simp only [List.getElem?_toArray, List.getElem?_cons_succ, List.getElem?_cons_zero]; rfl) rfl ?hw108 (fun w1 => ?hy108) ?hn108; (case hw108 => rfl); (case hy108 => (go_simp; (try with_reducible rfl))); (try simp only [Act.put, List.setIfInBounds_toArray, List.set_cons_zero, List.set_cons_succ]))
        (refine TD.val0 (v := ?v109) (by simp only [List.getElem?_toArray, List.getElem?_cons_succ, List.getElem?_cons_zero]; rfl) rfl ?hw109 (fun w1 => ?hy109) ?hn109; (case hw109 => rfl); (case hy109 => (go_simp; (try with_reducible rfl))); (try simp only [Act.put, List.setIfInBounds_toArray, List.set_cons_zero, List.set_cons_succ]))
        (refine TD.val0 (v := ?v110) (by simp only [List.getElem?_toArray, List.getElem?_cons_succ, List.getElem?_cons_zero]; rfl) rfl ?hw110 (fun w1 => ?hy110) ?hn110; (case hw110 => rfl); (case hy110 => (go_simp; (try with_reducible rfl))); (try simp only [Act.put, List.setIfInBounds_toArray, List.set_cons_zero, List.set_cons_succ]))
        (refine TD.val0 (v := ?v111) (by simp only [List.getElem?_toArray, List.getElem?_cons_succ, List.getElem?_cons_zero]; rfl) rfl ?hw111 (fun w1 => ?hy111) ?hn111; (case hw111 => rfl); (case hy111 => (go_simp; (try with_reducible rfl))); (try simp only [Act.put, List.setIfInBounds_toArray, List.set_cons_zero, List.set_cons_succ]))
        (refine TD.val0 (v := ?v112) (by simp only [List.getElem?_toArray, List.getElem?_cons_succ, List.getElem?_cons_zero]; rfl) rfl ?hw112 (fun w1 => ?hy112) ?hn112; (case hw112 => rfl); (case hy112 => (go_simp; (try with_reducible rfl))); (try simp only [Act.put, List.setIfInBounds_toArray, List.set_cons_zero, List.set_cons_succ]))
        (refine TD.val0 (v := ?v113) (by simp only [List.getElem?_toArray, List.getElem?_cons_succ, List.getElem?_cons_zero]; rfl) rfl ?hw113 (fun w1 => ?hy113) ?hn113; (case hw113 => rfl); (case hy113 => (go_simp; (try with_reducible rfl))); (try simp only [Act.put, List.setIfInBounds_toArray, List.set_cons_zero, List.set_cons_succ]))
        (refine TD.val0 (v := ?v114) (by simp only [List.getElem?_toArray, List.getElem?_cons_succ, List.getElem?_cons_zero]; rfl) rfl ?hw114 (fun w1 => ?hy114) ?hn114; (case hw114 => rfl); (case hy114 => (go_simp; (try with_reducible rfl))); (try simp only [Act.put, List.setIfInBounds_toArray, List.set_cons_zero, List.set_cons_succ]))
        (refine TD.val0 (v := ?v115) (by simp only [List.getElem?_toArray, List.getElem?_cons_succ, List.getElem?_cons_zero]; rfl) rfl ?hw115 (fun w1 => ?hy115) ?hn115; (case hw115 => rfl); (case hy115 => (go_simp; (try with_reducible rfl))); (try simp only [Act.put, List.setIfInBounds_toArray, List.set_cons_zero, List.set_cons_succ]))
        (refine TD.val0 (v := ?v116) (by simp only [List.getElem?_toArray, List.getElem?_cons_succ, List.getElem?_cons_zero]; rfl) rfl ?hw116 (fun w1 => ?hy116) ?hn116; (case hw116 => rfl); (case hy116 => (go_simp; (try with_reducible rfl))); (try simp only [Act.put, List.setIfInBounds_toArray, List.set_cons_zero, List.set_cons_succ]))
        (refine TD.val0 (v := ?v117) (by simp only [List.getElem?_toArray, List.getElem?_cons_succ, List.getElem?_cons_zero]; rfl) rfl ?hw117 (fun w1 => ?hy117) ?hn117; (case hw117 => rfl); (case hy117 => (go_simp; (try with_reducible rfl))); (try simp only [Act.put, List.setIfInBounds_toArray, List.set_cons_zero, List.set_cons_succ]))
        (refine TD.call (f := ?f118) (args := ?r118) (Mod.refl _ _) (by simp only [List.getElem?_toArray, List.getElem?_cons_succ, List.getElem?_cons_zero]; rfl) rfl ?hw118 (fun w1 => ?hy118) ?hsp118 ?hn118; (case hw118 => rfl); (case hy118 => (go_simp; (first | with_reducible rfl | (constructor <;> with_reducible rfl)))); (case hsp118 => (intro wq hSq; exact (lives_c wq).mono (fun e w' h => ⟨_, h.1, rfl, h.2⟩))); rintro _ rfl; (try simp only [Act.put, List.setIfInBounds_toArray, List.set_cons_zero, List.set_cons_succ]))
        (refine TD.val0 (v := ?v119) (by simp only [List.getElem?_toArray, List.getElem?_cons_succ, List.getElem?_cons_zero]; rfl) rfl ?hw119 (fun w1 => ?hy119) ?hn119; (case hw119 => rfl); (case hy119 => (go_simp; (try with_reducible rfl))); (try simp only [Act.put, List.setIfInBounds_toArray, List.set_cons_zero, List.set_cons_succ]))
        (refine TD.val0 (v := ?v120) (by simp only [List.getElem?_toArray, List.getElem?_cons_succ, List.getElem?_cons_zero]; rfl) rfl ?hw120 (fun w1 => ?hy120) ?hn120; (case hw120 => rfl); (case hy120 => (go_simp; (try with_reducible rfl))); (try simp only [Act.put, List.setIfInBounds_toArray, List.set_cons_zero, List.set_cons_succ]))
        refine TD.nil (fun w25 hr => ?_)
        have mm := mm.then0 hr.mod
        go_wp2_with fail
        go_ret
        exact ⟨rfl, mm⟩
      · have hw9 : IntKind.u64.wrap ((hi : Int) + 0) = (((sumC m + mo.toNat) / 18446744073709551616 : Nat) : Int) := by
          rw [IntKind.wrap_u64]
          omega
        rw [Int.add_zero] at hw9
        have hw10 : ((sumC m + mo.toNat) / 18446744073709551616 : Nat) = hi := by omega
        have hw11 : IntKind.u64.wrap (hi : Int) = (hi : Int) := by
          rw [IntKind.wrap_u64]
          omega
        rw [hw10] at hcoins
        generalize (sumC m + mo.toNat) % 18446744073709551616 = lo2 at *
        clear hle hml hbm q1 q2 hmul hhi hlo hS3 hw9 hw10
        go_wp2_with fail
        go_at_call 12
        refine hcoins.mono ?_
        rintro e w21 ⟨rfl, m4⟩
        have mm := mm.then0 m4
        clear hcoins m4
        go_upto_region 25 with fail
        refine wp_pass0 (C := fun _ _ v => v = .bool true) (κ := fun i => [0, 0, 0, 0, 0, 0, 0, 0, 0, 0, 0, 0, 0, 2, 0, 0].getD i 0) [0, 1, 2, 3, 4, 5, 6, 7, 8, 9, 10, 11, 12, 13, 14, 15] (by kernel_rfl) (by kernel_rfl) (fun _ _ d _ _ h => by cases d <;> exact h) ?_
        (refine TD.val0 (v := ?v121) (by simp only [List.getElem?_toArray, List.getElem?_cons_succ, List.getElem?_cons_zero]; rfl) rfl ?hw121 (fun w1 => ?hy121) ?hn121; (case hw121 => rfl); (case hy121 => (go_simp; (try with_reducible rfl))); (try simp only [Act.put, List.setIfInBounds_toArray, List.set_cons_zero, List.set_cons_succ]))
        (refine TD.val0 (v := ?v122) (by simp only [List.getElem?_toArray, List.getElem?_cons_succ, List.getElem?_cons_zero]; rfl) rfl ?hw122 (fun w1 => ?hy122) ?hn122; (case hw122 => rfl); (case hy122 => (go_simp; (try with_reducible rfl))); (try simp only [Act.put, List.setIfInBounds_toArray, List.set_cons_zero, List.set_cons_succ]))
        (refine TD.val0 (v := ?v123) (by simp only [List.getElem?_toArray, List.getElem?_cons_succ, List.getElem?_cons_zero]; rfl) rfl ?hw123 (fun w1 => ?hy123) ?hn123; (case hw123 => rfl); (case hy123 => (go_simp; (try with_reducible rfl))); (try simp only [Act.put, List.setIfInBounds_toArray, List.set_cons_zero, List.set_cons_succ]))
        (refine TD.val0 (v := ?v124) (by simp only [List.getElem?_toArray, List.getElem?_cons_succ, List.getElem?_cons_zero]; rfl) rfl ?hw124 (fun w1 => ?hy124) ?hn124; (case hw124 => rfl); (case hy124 => (go_simp; (try with_reducible rfl))); (try simp only [Act.put, List.setIfInBounds_toArray, List.set_cons_zero, List.set_cons_succ]))
        (refine TD.val0 (v := ?v125) (by simp only [List.getElem?_toArray, List.getElem?_cons_succ, List.getElem?_cons_zero]; rfl) rfl ?hw125 (fun w1 => ?hy125) ?hn125; (case hw125 => rfl); (case hy125 => (go_simp; (try with_reducible rfl))); (try simp only [Act.put, List.setIfInBounds_toArray, List.set_cons_zero, List.set_cons_succ]))
        (refine TD.val0 (v := ?v126) (by simp only [List.getElem?_toArray, List.getElem?_cons_succ, List.getElem?_cons_zero]; rfl) rfl ?hw126 (fun w1 => ?hy126) ?hn126; (case hw126 => rfl); (case hy126 => (go_simp; (try with_reducible rfl))); (try simp only [Act.put, List.setIfInBounds_toArray, List.set_cons_zero, List.set_cons_succ]))
        (refine TD.val0 (v := ?v127) (by simp only [List.getElem?_toArray, List.getElem?_cons_succ, List.getElem?_cons_zero]; rfl) rfl ?hw127 (fun w1 => ?hy127) ?hn127; (case hw127 => rfl); (case hy127 => (go_simp; (try with_reducible rfl))); (try simp only [Act.put, List.setIfInBounds_toArray, List.set_cons_zero, List.set_cons_succ]))
        (refine TD.val0 (v := ?v128) (by simp only [List.getElem?_toArray, List.getElem?_cons_succ, List.getElem?_cons_zero]; rfl) rfl ?hw128 (fun w1 => ?hy128) ?hn128; (case hw128 => rfl); (case hy128 => (go_simp; (try with_reducible rfl))); (try simp only [Act.put, List.setIfInBounds_toArray, List.set_cons_zero, List.set_cons_succ]))
        (refine TD.val0 (v := ?v129) (by simp only [List.getElem?_toArray, List.getElem?_cons_succ, List.getElem?_cons_zero]; rfl) rfl ?hw129 (fun w1 => ?hy129) ?hn129; (case hw129 => rfl); (case hy129 => (go_simp; (try with_reducible rfl))); (try simp only [Act.put, List.setIfInBounds_toArray, List.set_cons_zero, List.set_cons_succ]))
        (refine TD.val0 (v := ?v130) (by simp only [List.getElem?_toArray, List.getElem?_cons_succ, List.getElem?_cons_zero]; rfl) rfl ?hw130 (fun w1 => ?hy130) ?hn130; (case hw130 => rfl); (case hy130 => (go_simp; (try with_reducible rfl))); (try simp only [Act.put, List.setIfInBounds_toArray, List.set_cons_zero, List.set_cons_succ]))
        (refine TD.val0 (v := ?v131) (by simp only [List.getElem?_toArray, List.getElem?_cons_succ, List.getElem?_cons_zero]; rfl) rfl ?hw131 (fun w1 => ?hy131) ?hn131; (case hw131 => rfl); (case hy131 => (go_simp; (try with_reducible rfl))); (try simp only [Act.put, List.setIfInBounds_toArray, List.set_cons_zero, List.set_cons_succ]))
        (refine TD.val0 (v := ?v132) (by simp only [List.getElem?_toArray, List.getElem?_cons_succ, List.getElem?_cons_zero]; rfl) rfl ?hw132 (fun w1 => ?hy132) ?hn132; (case hw132 => rfl); (case hy132 => (go_simp; (try with_reducible rfl))); (try simp only [Act.put, List.setIfInBounds_toArray, List.set_cons_zero, List.set_cons_succ]))
        (refine TD.val0 (v := ?v133) (by simp only [List.getElem?_toArray, List.getElem?_cons_succ, List.getElem?_cons_zero]; rfl) rfl ?hw133 (fun w1 => ?hy133) ?hn133; (case hw133 => rfl); (case hy133 => (go_simp; (try with_reducible rfl))); (try simp only [Act.put, List.setIfInBounds_toArray, List.set_cons_zero, List.set_cons_succ]))
        (refine TD.call (f := ?f134) (args := ?r134) (Mod.refl _ _) (by simp only [List.getElem?_toArray, List.getElem?_cons_succ, List.getElem?_cons_zero]; rfl) rfl ?hw134 (fun w1 => ?hy134) ?hsp134 ?hn134; (case hw134 => rfl); (case hy134 => (go_simp; (first | with_reducible rfl | (constructor <;> with_reducible rfl)))); (case hsp134 => (intro wq hSq; exact (lives_c wq).mono (fun e w' h => ⟨_, h.1, rfl, h.2⟩))); rintro _ rfl; (try simp only [Act.put, List.setIfInBounds_toArray, List.set_cons_zero, List.set_cons_succ]))
        (refine TD.val0 (v := ?v135) (by simp only [List.getElem?_toArray, List.getElem?_cons_succ, List.getElem?_cons_zero]; rfl) rfl ?hw135 (fun w1 => ?hy135) ?hn135; (case hw135 => rfl); (case hy135 => (go_simp; (try with_reducible rfl))); (try simp only [Act.put, List.setIfInBounds_toArray, List.set_cons_zero, List.set_cons_succ]))
        (refine TD.val0 (v := ?v136) (by simp only [List.getElem?_toArray, List.getElem?_cons_succ, List.getElem?_cons_zero]; rfl) rfl ?hw136 (fun w1 => ?hy136) ?hn136; (case hw136 => rfl); (case hy136 => (go_simp; (try with_reducible rfl))); (try simp only [Act.put, List.setIfInBounds_toArray, List.set_cons_zero, List.set_cons_succ]))
        refine TD.nil (fun w25 hr => ?_)
        have mm := mm.then0 hr.mod
        go_wp2_with fail
        go_ret
        exact ⟨rfl, mm⟩
end Go.Proofs.Ytknmiojegnbakaa
