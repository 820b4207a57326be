/- The lemmas of the proof, part 4: how the program and its data lie in memory, and what its functions do. -/
import Derived.Test.YtdeghpmlhcaedaaGreatDoorK3
import Derived.Deep.CutBlock
import Derived.Scope
import Derived.WalkMore
set_option linter.unusedSimpArgs false
set_option linter.unusedVariables false
set_option linter.unusedSectionVars false
namespace Go.Proofs.YtdeghpmlhcaedaaGreatDoor
open Go.RowKit
open Go.ChangeMaps (setBlock)
attribute [local go_sem ↓] wlItem ldItem stItem
attribute [local go_sem] cell_blk frozen_blk one_int one_bool one_ptr one_slice one_map Value.cells itr_size itr_all itr_one itr_one' zItem_size
def occ (R : List (Option ItR)) (i : Nat) : Bool := (R[i]?.getD none).isSome
theorem occ_some {R : List (Option ItR)} {i : Nat} {y : ItR} (h : R[i]? = some (some y)) : occ R i = true := by simp [occ, h]
theorem occ_none {R : List (Option ItR)} {i : Nat} (h : R[i]? = some none) : occ R i = false := by simp [occ, h]
theorem occ_out {R : List (Option ItR)} {i : Nat} (h : R.length ≤ i) : occ R i = false := by simp [occ, List.getElem?_eq_none h]
theorem occ_set {R : List (Option ItR)} {i j : Nat} {o : Option ItR} (hi : i < R.length) : occ (R.set i o) j = if j = i then o.isSome else occ R j := by
 unfold occ
 rw [List.getElem?_set]
 by_cases h : j = i
 ·subst h
  simp [hi]
 ·rw [if_neg (fun e => h e.symm), if_neg h]
def wcell (n : Nat) : Value := .int .u64 (n : Int)
def WordsOf (R : List (Option ItR)) (us : List Nat) : Prop := us.length = (R.length + 63) / 64 ∧ ∀ (j x : Nat), us[j]? = some x → x < 2 ^ 64 ∧ ∀ k, k < 64 → x.testBit k = occ R (64 * j + k)
def RowsOf (R : List (Option ItR)) (cur : Array Value) : Prop := cur.size = R.length * 51 ∧ ∀ (i : Nat) y, R[i]? = some (some y) → cur.extract (i * 51) (i * 51 + 51) = itr y
structure Slb (w : World) (s g u : Nat) (R : List (Option ItR)) (cur : Array Value) (us : List Nat) : Prop where
 ks : w.heap[s]? = some (.cells #[.slice (some ⟨g, 0, none⟩) R.length R.length, .slice (some ⟨u, 0, none⟩) us.length us.length, .int .i64 (R.countP Option.isSome : Nat)] 94 (0, 0))
 kg : w.heap[g]? = some (.cells cur 60 (0, 0))
 rows : RowsOf R cur
 ku : w.heap[u]? = some (.cells (us.map wcell).toArray 32 (0, 0))
 words : WordsOf R us
 len : 1 ≤ R.length ∧ R.length ≤ 4096
theorem wcell_get {us : List Nat} {j x : Nat} (h : us[j]? = some x) : (us.map wcell).toArray[j]? = some (.int .u64 (x : Int)) := by
 simp [h, wcell]
theorem Slb.word {w : World} {s g u : Nat} {R : List (Option ItR)} {cur : Array Value} {us : List Nat} (H : Slb w s g u R cur us) {i : Nat} (hi : i < R.length) : ∃ x, us[i / 64]? = some x ∧ x < 18446744073709551616 ∧ (∀ k, k < 64 → x.testBit k = occ R (64 * (i / 64) + k)) ∧ x.testBit (i % 64) = occ R i := by
 obtain ⟨h1, h2⟩ := H.words
 have hj : i / 64 < us.length := by rw [h1]; omega
 have hx := List.getElem?_eq_getElem hj
 obtain ⟨h3, h4⟩ := h2 _ _ hx
 refine ⟨_, hx, h3, h4, ?_⟩
 rw [h4 _ (Nat.mod_lt _ (by omega)), Nat.div_add_mod]
def SAt (s : Nat) (R : List (Option ItR)) (T : Nat → Prop) (w : World) : Prop := ∃ g u cur us, Slb w s g u R cur us ∧ T s ∧ T g ∧ T u
theorem Slb.mod {w w' : World} {s g u : Nat} {R : List (Option ItR)} {cur : Array Value} {us : List Nat} {S : Nat → Prop} (H : Slb w s g u R cur us) (hm : Mod S w w') (h1 : ¬ S s) (h2 : ¬ S g) (h3 : ¬ S u) : Slb w' s g u R cur us :=
 ⟨hm.at H.ks h1, hm.at H.kg h2, H.rows, hm.at H.ku h3, H.words, H.len⟩
theorem SAt.good (s : Nat) (R : List (Option ItR)) : Good (SAt s R) where
 cl := by
  rintro T w w' ⟨g, u, cur, us, H, h1, h2, h3⟩ hm
  exact ⟨g, u, cur, us, H.mod hm (fun e => e h1) (fun e => e h2) (fun e => e h3), h1, h2, h3⟩
 gr := by
  rintro T T' w hT ⟨g, u, cur, us, H, h1, h2, h3⟩
  exact ⟨g, u, cur, us, H, hT _ h1, hT _ h2, hT _ h3⟩
theorem bit_and1 (x i : Nat) (hx : x < 18446744073709551616) : bits .and .u64 ((x : Int) / 2 ^ i) 1 = if x.testBit i then 1 else 0 := by
 have h1 := u64_and_nat (x / 2 ^ i) 1 (Nat.lt_of_le_of_lt (Nat.div_le_self _ _) hx) (by omega)
 have e : ((x / 2 ^ i : Nat) : Int) = (x : Int) / 2 ^ i := by simp
 rw [e] at h1
 have h2 : ((1 : Nat) : Int) = 1 := rfl
 rw [h2] at h1
 rw [h1, Nat.and_one_is_mod, Nat.testBit_eq_decide_div_mod_eq]
 have := Nat.mod_lt (x / 2 ^ i) (show 0 < 2 by omega)
 by_cases h : x / 2 ^ i % 2 = 1
 ·simp [h]
 ·have : x / 2 ^ i % 2 = 0 := by omega
  simp [this]
theorem eqSl (w : World) (a : Option Addr) (n c : Nat) : (binOp .eql 92 (.slice a n c) (.slice none 0 0)).run Tryz.prog w = .ok (.bool a.isNone) w := by
 cases a <;> kernel_rfl
attribute [local go_sem] eqSl
set_option maxRecDepth 20000 in
set_option maxHeartbeats 1600000 in
theorem has1_c {w : World} {s g u : Nat} {R : List (Option ItR)} {cur : Array Value} {us : List Nat} (H : Slb w s g u R cur us) {i : Nat} (hi : i < R.length) : Calls Tryz.prog 70 #[ptrV s, .int .i64 (i : Int)] w fun e w' => e = .returned (.int .i64 (if occ R i then 0 else 11)) ∧ w' = w := by
 obtain ⟨x, hx, hlt, _, hb⟩ := H.word hi
 have ks := H.ks
 have ku := H.ku
 have hc := wcell_get hx
 have hl : i ≤ 4095 := by have := H.len; omega
 have hus : us.length = (R.length + 63) / 64 := H.words.1
 have ha := bit_and1 x (i % 64) hlt
 rw [hb] at ha
 have hj : i / 64 < us.length := by rw [hus]; omega
 have hrl := H.len.2
 have hi0 : decide ((i : Int) < 0) = false := decide_eq_false (by omega)
 generalize R.countP Option.isSome = many at *
 generalize R.length = rl at *
 generalize us.length = ul at *
 generalize (us.map wcell).toArray = U at *
 have hir : decide (rl ≤ i) = false := decide_eq_false (by omega)
 clear H hx hb hus
 have key : ∀ z : Int, z = (if occ R i then 1 else 0) → bits .and .u64 ((x : Int) / 2 ^ (i % 64)) 1 = z → Calls Tryz.prog 70 #[ptrV s, .int .i64 (i : Int)] w fun e w' => e = .returned (.int .i64 (if occ R i then 0 else 11)) ∧ w' = w := by
  intro z hz hb
  clear ha
  cases ho : occ R i
  ·rw [ho] at hz
   simp only [Bool.false_eq_true, if_false] at hz
   subst hz
   clear ho
   go_enter Tryz.func70, Tryz.ntmps70
   go_wp2_with fail
   go_ret
   exact ⟨rfl, rfl⟩
  ·rw [ho] at hz
   simp only [if_true] at hz
   subst hz
   clear ho
   go_enter Tryz.func70, Tryz.ntmps70
   go_wp2_with fail
   go_ret
   exact ⟨rfl, rfl⟩
 exact key _ rfl ha
end Go.Proofs.YtdeghpmlhcaedaaGreatDoor
namespace Go.Proofs.YtdeghpmlhcaedaaGreatDoor
open Go.RowKit
open Go.ChangeMaps (setBlock)
attribute [local go_sem ↓] wlItem ldItem stItem
attribute [local go_sem] cell_blk frozen_blk one_int one_bool one_ptr one_slice one_map Value.cells itr_size itr_all itr_one itr_one' zItem_size eqSl
theorem zItem_all : zItem.extract 0 51 = zItem := itr_all _
theorem zItem_one : zItem.all (·.oneCell') 0 51 = true := itr_one _
attribute [local go_sem] zItem_all zItem_one
theorem RowsOf.set {R : List (Option ItR)} {cur : Array Value} (h : RowsOf R cur) {i : Nat} (hi : i < R.length) {o : Option ItR} {vs : Array Value} (hs : vs.size = 51) (ho : ∀ y, o = some y → vs = itr y) : RowsOf (R.set i o) (wr cur (i * 51) vs.toList) := by
 obtain ⟨h1, h2⟩ := h
 refine ⟨by rw [wr_size, h1, List.length_set], fun j y hy => ?_⟩
 have hl : vs.toList.length = 51 := by rw [Array.length_toList, hs]
 have hii : (i + 1) * 51 ≤ R.length * 51 := Nat.mul_le_mul_right _ hi
 have hget := fun t => wr_get vs.toList cur (i * 51) (by rw [hl]; omega) t
 rw [hl] at hget
 by_cases hj : j = i
 ·subst hj
  rw [List.getElem?_set_self hi] at hy
  have hv := ho y (Option.some.inj hy)
  rw [← hv]
  apply Array.ext_getElem?
  intro t
  rw [Array.getElem?_extract, wr_size]
  by_cases ht : t < 51
  ·rw [if_pos (by omega), hget, if_pos (by omega), Nat.add_sub_cancel_left, Array.getElem?_toList]
  ·rw [if_neg (by omega), Array.getElem?_eq_none (by omega)]
 ·rw [List.getElem?_set_ne (fun e => hj e.symm)] at hy
  rw [← h2 j y hy]
  apply Array.ext_getElem?
  intro t
  rw [Array.getElem?_extract, Array.getElem?_extract, wr_size]
  by_cases ht : t < 51
  ·have h9 : ¬ (i * 51 ≤ j * 51 + t ∧ j * 51 + t < i * 51 + 51) := by omega
   rw [hget, if_neg h9]
  ·rw [if_neg (by omega), if_neg (by omega)]
theorem RowsOf.le {R : List (Option ItR)} {cur : Array Value} (h : RowsOf R cur) {i : Nat} (hi : i < R.length) : i * 51 + 51 ≤ cur.size := by
 rw [h.1]
 omega
section
variable {w : World} {s g u : Nat} {R : List (Option ItR)} {cur : Array Value} {us : List Nat}
set_option maxRecDepth 20000 in
set_option maxHeartbeats 1600000 in
theorem has0_c (H : Slb w s g u R cur us) {n : Int} (hn : n < 0 ∨ (R.length : Int) ≤ n) : Calls Tryz.prog 70 #[ptrV s, .int .i64 n] w fun e w' => e = .returned (.int .i64 11) ∧ w' = w := by
 have ks := H.ks
 generalize R.countP Option.isSome = many at *
 generalize R.length = rl at *
 generalize us.length = ul at *
 clear H
 rcases hn with hn | hn
 ·have hd := decide_eq_true hn
  clear hn
  go_enter Tryz.func70, Tryz.ntmps70
  go_wp2_with fail
  go_ret
  exact ⟨rfl, rfl⟩
 ·have hd := decide_eq_true hn
  have hd0 : decide (n < 0) = false := decide_eq_false (by omega)
  clear hn
  go_enter Tryz.func70, Tryz.ntmps70
  go_wp2_with fail
  go_ret
  exact ⟨rfl, rfl⟩
def Away (R : List (Option ItR)) (n : Int) : Prop := n < 0 ∨ (R.length : Int) ≤ n ∨ R[n.toNat]? = some none
theorem hasN_c (H : Slb w s g u R cur us) {n : Int} (hn : Away R n) : Calls Tryz.prog 70 #[ptrV s, .int .i64 n] w fun e w' => e = .returned (.int .i64 11) ∧ w' = w := by
 rcases hn with h | h | h
 ·exact has0_c H (.inl h)
 ·exact has0_c H (.inr h)
 ·by_cases h0 : n < 0
  ·exact has0_c H (.inl h0)
  ·have hi := (List.getElem?_eq_some_iff.1 h).1
   have := has1_c H hi
   rw [occ_none h, Int.toNat_of_nonneg (by omega)] at this
   exact this
theorem hasY_c (H : Slb w s g u R cur us) {i : Nat} {y : ItR} (hy : R[i]? = some (some y)) : Calls Tryz.prog 70 #[ptrV s, .int .i64 (i : Int)] w fun e w' => e = .returned (.int .i64 0) ∧ w' = w := by
 have := has1_c H (List.getElem?_eq_some_iff.1 hy).1
 rw [occ_some hy] at this
 exact this
theorem Slb.mod0 {w' : World} (H : Slb w s g u R cur us) (hm : Mod (fun _ => False) w w') : Slb w' s g u R cur us := H.mod hm (fun h => h) (fun h => h) (fun h => h)
set_option maxRecDepth 20000 in
set_option maxHeartbeats 3200000 in
theorem getN_c (H : Slb w s g u R cur us) {n : Int} (hn : Away R n) : Calls Tryz.prog 52 #[ptrV s, .int .i64 n] w fun e w' => e = .returned (.tuple #[.agg zItem, .int .i64 11]) ∧ Mod (fun _ => False) w w' := by
 have HH := Lib.hid (And.intro H hn)
 clear H hn
 go_enter Tryz.func52, Tryz.ntmps52
 go_upto_region 0 with fail
 refine wp_pass0 (C := fun _ _ _ => False) (κ := fun i => [3, 0].getD i 0) [0, 1] (by kernel_rfl) (by kernel_rfl) (fun _ _ d _ _ h => by cases d <;> first | exact h | exact absurd h (hP _ _ _)) ?_
 (refine TD.allocB (by simp only [zK]; rfl) rfl (by rfl) rfl rfl alItem (fun p4 hp4 => ?n1); try simp only [Act.put, zL])
 (refine TD.val0 (v := ?v2) (by simp only [zK]; rfl) rfl (by rfl) (fun w1 => ?y2) ?n2; (case y2 => go_simp; try with_reducible rfl); try simp only [Act.put, zL])
 refine TD.nil (fun w1 hr => ?_)
 have kp4 := hr.box p4 _ (by first | exact Bx.set_same _ _ _ | (simp only [Bx.set_same]; rfl)); dsimp only [Value.cells] at kp4; obtain ⟨gp4, kp4⟩ := kp4
 have m1 := hr.mod
 clear hr
 go_wp2_with fail
 go_at_call 70
 refine (hasN_c (HH.out.1.mod0 m1) HH.out.2).mono ?_
 rintro e w2 ⟨rfl, rfl⟩
 go_upto_region 3 with fail
 have Lkp4 := lt_size kp4
 refine wp_pass0 (C := fun _ _ _ => False) (κ := fun i => [1, 0, 5, 0].getD i 0) [0, 1, 2, 3] (by kernel_rfl) (by kernel_rfl) (fun _ _ d _ _ h => by cases d <;> first | exact h | exact absurd h (hP _ _ _)) ?_
 (refine TD.load (v := ?v3) (p := ?p3) (Mod.refl _ _) (by simp only [zK]; rfl) rfl (by rfl) rfl ?hx3 (fun wq hSq => ?y3) ?n3; (case hx3 => simp only [Act.eval, zM]; try rfl); (case y3 => (have kp4q := hSq.at kp4 (fun h => h); go_simp; (try with_reducible rfl))); try simp only [Act.put, zL])
 (refine TD.val0 (v := ?v4) (by simp only [zK]; rfl) rfl (by rfl) (fun w1 => ?y4) ?n4; (case y4 => go_simp; try with_reducible rfl); try simp only [Act.put, zL])
 refine TD.eff (by simp only [zK]; rfl) rfl (fun w3 hr => ?_)
 have kp4 := hr.mod.at kp4 (fun h => h)
 have m3 := m1.then0 hr.mod
 clear hr
 (refine eff_store (X := ?X6) (Y := ?Y6) (w' := ?w6) (by simp only [zK]; rfl) (by rfl) rfl ?hx6 ?hz6 ?y6 ?n6; (case hx6 => simp only [Act.eval, zM]; try rfl); (case hz6 => simp only [Act.eval, zM]; try rfl); (case y6 => go_simp; try with_reducible rfl))
 (first | refine TE.mid_set kp4 (fun wn kp4 mS => ?_) | refine TE.mid_setCell kp4 (fun wn kp4 mS => ?_))
 (try simp only [Array.setIfInBounds, zL] at kp4)
 have m4 := m3.thenB mS (.inl gp4)
 clear mS
 (refine TE.val0 (v := ?v7) (by simp only [zK]; rfl) (by rfl) (fun w1 => ?y7) ?n7; (case y7 => go_simp; try with_reducible rfl); try simp only [Act.put, zL])
 refine TE.nil ?_
 go_wp2_with fail
 exact bodyPost_ret (results_cell2 (x := .agg zItem) rfl rfl (by rw [ldItem]; simp [kp4, zItem, itr_all, itr_size])) rfl ⟨rfl, m4⟩
theorem RowsOf.size (h : RowsOf R cur) {i : Nat} (hi : i < R.length) : i * 51 + 51 ≤ cur.size := by
 rw [h.1]
 omega
set_option maxRecDepth 20000 in
set_option maxHeartbeats 3200000 in
theorem getY_c (H : Slb w s g u R cur us) {i : Nat} {y : ItR} (hy : R[i]? = some (some y)) : Calls Tryz.prog 52 #[ptrV s, .int .i64 (i : Int)] w fun e w' => e = .returned (.tuple #[.agg (itr y), .int .i64 0]) ∧ Mod (fun _ => False) w w' := by
 have HH := Lib.hid (And.intro H hy)
 have hi := (List.getElem?_eq_some_iff.1 hy).1
 have hsz := H.rows.size hi
 have hrow := H.rows.2 i y hy
 have ks := H.ks
 have kg := H.kg
 have hi2 : (i : Int) < (R.length : Int) := by omega
 generalize R.countP Option.isSome = many at *
 generalize R.length = rl at *
 clear H hy
 go_enter Tryz.func52, Tryz.ntmps52
 go_upto_region 0 with fail
 have Lks := lt_size ks
 have Lkg := lt_size kg
 refine wp_pass0 (C := fun _ _ _ => False) (κ := fun i => [3, 0].getD i 0) [0, 1] (by kernel_rfl) (by kernel_rfl) (fun _ _ d _ _ h => by cases d <;> first | exact h | exact absurd h (hP _ _ _)) ?_
 (refine TD.allocB (by simp only [zK]; rfl) rfl (by rfl) rfl rfl alItem (fun p4 hp4 => ?n8); try simp only [Act.put, zL])
 (refine TD.val0 (v := ?v9) (by simp only [zK]; rfl) rfl (by rfl) (fun w1 => ?y9) ?n9; (case y9 => go_simp; try with_reducible rfl); try simp only [Act.put, zL])
 refine TD.nil (fun w1 hr => ?_)
 have ks := hr.mod.at ks (fun h => h)
 have kg := hr.mod.at kg (fun h => h)
 have kp4 := hr.box p4 _ (by first | exact Bx.set_same _ _ _ | (simp only [Bx.set_same]; rfl)); dsimp only [Value.cells] at kp4; obtain ⟨gp4, kp4⟩ := kp4
 have m1 := hr.mod
 clear hr
 go_wp2_with fail
 go_at_call 70
 refine (hasY_c (HH.out.1.mod0 m1) HH.out.2).mono ?_
 rintro e w2 ⟨rfl, rfl⟩
 go_upto_region 4 with fail
 have Lks := lt_size ks
 have Lkg := lt_size kg
 have Lkp4 := lt_size kp4
 refine wp_pass0 (C := fun _ _ _ => False) (κ := fun i => [0, 0, 0, 1, 0, 0, 1, 5, 0].getD i 0) [0, 1, 2, 3, 4, 5, 6, 7, 8] (by kernel_rfl) (by kernel_rfl) (fun _ _ d _ _ h => by cases d <;> first | exact h | exact absurd h (hP _ _ _)) ?_
 (refine TD.val0 (v := ?v10) (by simp only [zK]; rfl) rfl (by rfl) (fun w1 => ?y10) ?n10; (case y10 => go_simp; try with_reducible rfl); try simp only [Act.put, zL])
 (refine TD.val0 (v := ?v11) (by simp only [zK]; rfl) rfl (by rfl) (fun w1 => ?y11) ?n11; (case y11 => go_simp; try with_reducible rfl); try simp only [Act.put, zL])
 (refine TD.val0 (v := ?v12) (by simp only [zK]; rfl) rfl (by rfl) (fun w1 => ?y12) ?n12; (case y12 => go_simp; try with_reducible rfl); try simp only [Act.put, zL])
 (refine TD.load (v := ?v13) (p := ?p13) (Mod.refl _ _) (by simp only [zK]; rfl) rfl (by rfl) rfl ?hx13 (fun wq hSq => ?y13) ?n13; (case hx13 => simp only [Act.eval, zM]; try rfl); (case y13 => (have ksq := hSq.at ks (fun h => h); have kgq := hSq.at kg (fun h => h); have kp4q := hSq.at kp4 (fun h => h); go_simp; (try with_reducible rfl))); try simp only [Act.put, zL])
 (refine TD.val0 (v := ?v14) (by simp only [zK]; rfl) rfl (by rfl) (fun w1 => ?y14) ?n14; (case y14 => go_simp; try with_reducible rfl); try simp only [Act.put, zL])
 (refine TD.val0 (v := ?v15) (by simp only [zK]; rfl) rfl (by rfl) (fun w1 => ?y15) ?n15; (case y15 => go_simp; try with_reducible rfl); try simp only [Act.put, zL])
 (refine TD.load (v := ?v16) (p := ?p16) (Mod.refl _ _) (by simp only [zK]; rfl) rfl (by rfl) rfl ?hx16 (fun wq hSq => ?y16) ?n16; (case hx16 => simp only [Act.eval, zM]; try rfl); (case y16 => (have ksq := hSq.at ks (fun h => h); have kgq := hSq.at kg (fun h => h); have kp4q := hSq.at kp4 (fun h => h); go_simp; (try with_reducible rfl))); try simp only [Act.put, zL])
 refine TD.eff (by simp only [zK]; rfl) rfl (fun w3 hr => ?_)
 have ks := hr.mod.at ks (fun h => h)
 have kg := hr.mod.at kg (fun h => h)
 have kp4 := hr.mod.at kp4 (fun h => h)
 have m3 := m1.then0 hr.mod
 clear hr
 (refine eff_store (X := ?X18) (Y := ?Y18) (w' := ?w18) (by simp only [zK]; rfl) (by rfl) rfl ?hx18 ?hz18 ?y18 ?n18; (case hx18 => simp only [Act.eval, zM]; try rfl); (case hz18 => simp only [Act.eval, zM]; try rfl); (case y18 => go_simp; try with_reducible rfl))
 (first | refine TE.mid_set kp4 (fun wn kp4 mS => ?_) | refine TE.mid_setCell kp4 (fun wn kp4 mS => ?_))
 (try simp only [Array.setIfInBounds, zL] at kp4)
 have m4 := m3.thenB mS (.inl gp4)
 clear mS
 (refine TE.val0 (v := ?v19) (by simp only [zK]; rfl) (by rfl) (fun w1 => ?y19) ?n19; (case y19 => go_simp; try with_reducible rfl); try simp only [Act.put, zL])
 refine TE.nil ?_
 go_wp2_with fail
 exact bodyPost_ret (results_cell2 (x := .agg (itr y)) rfl rfl (by rw [ldItem]; simp [kp4, itr_all, itr_size])) rfl ⟨rfl, m4⟩
set_option maxRecDepth 20000 in
set_option maxHeartbeats 3200000 in
theorem setY_c (H : Slb w s g u R cur us) {i : Nat} {y : ItR} (hy : R[i]? = some (some y)) (z : ItR) : Calls Tryz.prog 57 #[ptrV s, .int .i64 (i : Int), .agg (itr z)] w fun e w' => e = .returned (.int .i64 0) ∧ ∃ cur', Slb w' s g u (R.set i (some z)) cur' us ∧ Mod (fun b => b = g) w w' := by
 have HH := Lib.hid (And.intro H hy)
 have hi := (List.getElem?_eq_some_iff.1 hy).1
 have hsz := H.rows.size hi
 have ks := H.ks
 have kg := H.kg
 have hsg : s ≠ g := ne_of_obj ks kg (obj_ty (by decide))
 have hug : u ≠ g := ne_of_obj H.ku kg (obj_ty (by decide))
 have hi2 : (i : Int) < (R.length : Int) := by omega
 generalize hmany : R.countP Option.isSome = many at *
 generalize hrl : R.length = rl at *
 have HE := Lib.hid (And.intro hmany (And.intro hrl (And.intro hsg hug)))
 clear H hy hmany hrl
 go_enter Tryz.func57, Tryz.ntmps57
 go_upto_region 0 with fail
 have Lks := lt_size ks
 have Lkg := lt_size kg
 refine wp_pass0 (C := fun _ _ _ => False) (κ := fun i => [3, 0].getD i 0) [0, 1] (by kernel_rfl) (by kernel_rfl) (fun _ _ d _ _ h => by cases d <;> first | exact h | exact absurd h (hP _ _ _)) ?_
 (refine TD.box (v := ?v20) (by simp only [zK]; rfl) rfl (by rfl) rfl rfl ?hx20 (fun p5 hp5 => ?n20); (case hx20 => simp only [Act.eval, zM]; try rfl); try simp only [Act.put, zL])
 (refine TD.val0 (v := ?v21) (by simp only [zK]; rfl) rfl (by rfl) (fun w1 => ?y21) ?n21; (case y21 => go_simp; try with_reducible rfl); try simp only [Act.put, zL])
 refine TD.nil (fun w1 hr => ?_)
 have ks := hr.mod.at ks (fun h => h)
 have kg := hr.mod.at kg (fun h => h)
 have kp5 := hr.box p5 _ (by first | exact Bx.set_same _ _ _ | (simp only [Bx.set_same]; rfl)); dsimp only [Value.cells] at kp5; obtain ⟨gp5, kp5⟩ := kp5
 have m1 := hr.mod
 clear hr
 go_wp2_with fail
 go_at_call 70
 refine (hasY_c (HH.out.1.mod0 m1) HH.out.2).mono ?_
 rintro e w2 ⟨rfl, rfl⟩
 go_upto_region 3 with fail
 have Lks := lt_size ks
 have Lkp5 := lt_size kp5
 have Lkg := lt_size kg
 refine wp_pass (C := fun _ _ _ => False) (κ := fun i => [0, 0, 0, 1, 0, 1, 0, 5].getD i 0) [0, 1, 2, 3, 4, 5, 6, 7] (by kernel_rfl) (by kernel_rfl) (fun _ _ d _ _ h => by cases d <;> first | exact h | exact absurd h (hP _ _ _)) ?_
 (refine TD.val0 (v := ?v22) (by simp only [zK]; rfl) rfl (by rfl) (fun w1 => ?y22) ?n22; (case y22 => go_simp; try with_reducible rfl); try simp only [Act.put, zL])
 (refine TD.val0 (v := ?v23) (by simp only [zK]; rfl) rfl (by rfl) (fun w1 => ?y23) ?n23; (case y23 => go_simp; try with_reducible rfl); try simp only [Act.put, zL])
 (refine TD.val0 (v := ?v24) (by simp only [zK]; rfl) rfl (by rfl) (fun w1 => ?y24) ?n24; (case y24 => go_simp; try with_reducible rfl); try simp only [Act.put, zL])
 (refine TD.load (v := ?v25) (p := ?p25) (Mod.refl _ _) (by simp only [zK]; rfl) rfl (by rfl) rfl ?hx25 (fun wq hSq => ?y25) ?n25; (case hx25 => simp only [Act.eval, zM]; try rfl); (case y25 => (have ksq := hSq.at ks (fun h => h); have kp5q := hSq.at kp5 (fun h => h); have kgq := hSq.at kg (fun h => h); go_simp; (try with_reducible rfl))); try simp only [Act.put, zL])
 (refine TD.val0 (v := ?v26) (by simp only [zK]; rfl) rfl (by rfl) (fun w1 => ?y26) ?n26; (case y26 => go_simp; try with_reducible rfl); try simp only [Act.put, zL])
 (refine TD.load (v := ?v27) (p := ?p27) (Mod.refl _ _) (by simp only [zK]; rfl) rfl (by rfl) rfl ?hx27 (fun wq hSq => ?y27) ?n27; (case hx27 => simp only [Act.eval, zM]; try rfl); (case y27 => (have ksq := hSq.at ks (fun h => h); have kp5q := hSq.at kp5 (fun h => h); have kgq := hSq.at kg (fun h => h); go_simp; (try with_reducible rfl))); try simp only [Act.put, zL])
 (refine TD.val0 (v := ?v28) (by simp only [zK]; rfl) rfl (by rfl) (fun w1 => ?y28) ?n28; (case y28 => go_simp; try with_reducible rfl); try simp only [Act.put, zL])
 refine TD.eff (by simp only [zK]; rfl) rfl (fun wE hr => ?_)
 have ks := hr.mod.at0 ks
 have kp5 := hr.mod.at0 kp5
 have kg := hr.mod.at0 kg
 have mE := hr.mod
 (refine eff_store (X := ?X29) (Y := ?Y29) (w' := ?w29) (by simp only [zK]; rfl) (by rfl) rfl ?hx29 ?hz29 ?y29 ?n29; (case hx29 => simp only [Act.eval, zM]; try rfl); (case hz29 => simp only [Act.eval, zM]; try rfl); (case y29 => go_simp; try with_reducible rfl))
 (first | refine TE.nil_set kg (fun w3 kg mS => ?_) | refine TE.nil_setCell kg (fun w3 kg mS => ?_))
 (try simp only [Array.setIfInBounds, zL] at kg)
 have ks := mS.at_ne ks (by omega)
 have kp5 := mS.at_ne kp5 (by omega)
 have m3 : Mod (fun b => b = g) w w3 := ((m1.then0 mE).mono (fun _ _ h => h.elim)).then mS (fun _ _ h => h)
 clear hr mE mS
 go_wp2_with fail
 go_ret
 have hz : (itr z).size = 51 := itr_size z
 have hi3 : i < R.length := (List.getElem?_eq_some_iff.1 HH.out.2).1
 refine ⟨rfl, wr cur (i * 51) (itr z).toList, ?_, m3⟩
 have H := HH.out.1
 have hcnt : (R.set i (some z)).countP Option.isSome = R.countP Option.isSome := by
  rw [List.countP_set hi3]
  have h9 : R[i] = some y := (List.getElem?_eq_some_iff.1 HH.out.2).2
  have hp : 0 < R.countP Option.isSome := List.countP_pos_iff.2 ⟨R[i], List.getElem_mem _, by rw [h9]; rfl⟩
  simp [h9]
  omega
 refine ⟨?_, ?_, H.rows.set hi3 hz (fun y' e => by cases e; rfl), ?_, ?_, by rw [List.length_set]; exact H.len⟩
 ·rw [List.length_set, hcnt]
  exact m3.at H.ks (HE.out.2.2.1)
 ·rw [kg]
  congr 2
  exact ite_wr hz
 ·exact m3.at H.ku (HE.out.2.2.2)
 ·refine ⟨by rw [List.length_set]; exact H.words.1, fun j x hx => ⟨(H.words.2 j x hx).1, fun k hk => ?_⟩⟩
  rw [(H.words.2 j x hx).2 k hk, occ_set hi3]
  split
  ·rename_i e
   rw [e, occ_some HH.out.2]
   rfl
  ·rfl
set_option maxRecDepth 20000 in
theorem slen_c (H : Slb w s g u R cur us) : Calls Tryz.prog 58 #[ptrV s] w fun e w' => e = .returned (.int .i64 (R.countP Option.isSome : Nat)) ∧ w' = w := by
 have ks := H.ks
 clear H
 generalize R.countP Option.isSome = many at *
 go_enter Tryz.func58, Tryz.ntmps58
 go_wp2_with fail
 go_ret
 exact ⟨rfl, rfl⟩
theorem WordsOf.set (h : WordsOf R us) {i : Nat} (hi : i < R.length) {o : Option ItR} {x : Nat} (hx : x < 2 ^ 64) (hb : ∀ k, k < 64 → x.testBit k = if k = i % 64 then o.isSome else occ R (64 * (i / 64) + k)) : WordsOf (R.set i o) (us.set (i / 64) x) := by
 obtain ⟨h1, h2⟩ := h
 refine ⟨by rw [List.length_set, List.length_set]; exact h1, fun j y hy => ?_⟩
 by_cases hj : j = i / 64
 ·subst hj
  rw [List.getElem?_set_self (by rw [h1]; omega)] at hy
  cases hy
  refine ⟨hx, fun k hk => ?_⟩
  rw [hb k hk, occ_set hi]
  by_cases hki : k = i % 64
  ·rw [if_pos hki, if_pos (by omega)]
  ·rw [if_neg hki, if_neg (by omega)]
 ·rw [List.getElem?_set_ne (fun e => hj e.symm)] at hy
  refine ⟨(h2 j y hy).1, fun k hk => ?_⟩
  rw [(h2 j y hy).2 k hk, occ_set hi, if_neg (by omega)]
theorem words_set {us : List Nat} {j x : Nat} : (us.map wcell).toArray.setIfInBounds j (.int .u64 (x : Int)) = ((us.set j x).map wcell).toArray := by
 rw [List.map_set]
 simp [wcell]
theorem count_set {i : Nat} {o o' : Option ItR} (h : R[i]? = some o) : ((R.set i o').countP Option.isSome : Int) = (R.countP Option.isSome : Int) - (if o.isSome then 1 else 0) + (if o'.isSome then 1 else 0) := by
 obtain ⟨hi, h9⟩ := List.getElem?_eq_some_iff.1 h
 rw [List.countP_set hi, h9]
 have hp : o.isSome = true → 0 < R.countP Option.isSome := fun e => List.countP_pos_iff.2 ⟨R[i], List.getElem_mem _, by rw [h9]; exact e⟩
 cases ho : o.isSome
 ·cases o'.isSome <;> simp
 ·have := hp ho
  cases o'.isSome <;> simp <;> omega
theorem pow_wrap (i : Nat) : IntKind.u64.wrap ((2 : Int) ^ (i % 64)) = ((2 ^ (i % 64) : Nat) : Int) ∧ 2 ^ (i % 64) < 18446744073709551616 := by
 have he : i % 64 < 64 := Nat.mod_lt _ (by omega)
 have hp0 : 2 ^ (i % 64) < 2 ^ 64 := Nat.pow_lt_pow_right (by omega) he
 rw [show (2 : Int) ^ (i % 64) = ((2 ^ (i % 64) : Nat) : Int) by simp]
 generalize 2 ^ (i % 64) = P at *
 rw [IntKind.wrap_u64]
 omega
theorem andNot_facts {x i : Nat} (hlt : x < 18446744073709551616) : ∃ P xn : Nat, IntKind.u64.wrap ((2 : Int) ^ (i % 64)) = (P : Int) ∧ bits .andNot .u64 (x : Int) (P : Int) = (xn : Int) ∧ xn < 18446744073709551616 ∧ ∀ k, k < 64 → xn.testBit k = if k = i % 64 then false else x.testBit k := by
 obtain ⟨h1, h2⟩ := pow_wrap i
 refine ⟨_, _, h1, u64_andNot_nat _ _ hlt h2, Nat.and_lt_two_pow (n := 64) _ ?_, fun k hk => ?_⟩
 ·generalize 2 ^ (i % 64) = P at *
  omega
 rw [Nat.testBit_and, show 18446744073709551615 - 2 ^ (i % 64) = 2 ^ 64 - 1 - 2 ^ (i % 64) from rfl, compl_bit h2, Nat.testBit_two_pow, decide_eq_true hk]
 by_cases hki : k = i % 64
 ·rw [if_pos hki, decide_eq_true hki.symm]
  simp
 ·rw [if_neg hki, show decide (i % 64 = k) = false from decide_eq_false (fun e => hki e.symm)]
  simp
theorem or_facts {x i : Nat} (hlt : x < 18446744073709551616) : ∃ P xn : Nat, IntKind.u64.wrap ((2 : Int) ^ (i % 64)) = (P : Int) ∧ bits .or .u64 (x : Int) (P : Int) = (xn : Int) ∧ xn < 18446744073709551616 ∧ ∀ k, k < 64 → xn.testBit k = if k = i % 64 then true else x.testBit k := by
 obtain ⟨h1, h2⟩ := pow_wrap i
 refine ⟨_, _, h1, u64_or_nat _ _ hlt h2, Nat.or_lt_two_pow (n := 64) hlt h2, fun k hk => ?_⟩
 rw [Nat.testBit_or, Nat.testBit_two_pow]
 by_cases hki : k = i % 64
 ·rw [if_pos hki, decide_eq_true hki.symm]
  simp
 ·rw [if_neg hki, show decide (i % 64 = k) = false from decide_eq_false (fun e => hki e.symm)]
  simp
set_option maxRecDepth 20000 in
set_option maxHeartbeats 3200000 in
theorem freeY_c (H : Slb w s g u R cur us) {i : Nat} {y : ItR} (hy : R[i]? = some (some y)) : Calls Tryz.prog 42 #[ptrV s, .int .i64 (i : Int)] w fun e w' => e = .returned (.int .i64 0) ∧ ∃ cur' us', Slb w' s g u (R.set i none) cur' us' ∧ Mod (fun b => b = g ∨ b = u ∨ b = s) w w' := by
 have HH := Lib.hid (And.intro H hy)
 have hi := (List.getElem?_eq_some_iff.1 hy).1
 have hsz := H.rows.size hi
 have ks := H.ks
 have kg := H.kg
 have ku := H.ku
 obtain ⟨x, hx, hlt, hbs, hb⟩ := H.word hi
 have hc := wcell_get hx
 have hsg : s ≠ g := ne_of_obj ks kg (obj_ty (by decide))
 have hug : u ≠ g := ne_of_obj ku kg (obj_ty (by decide))
 have hsu : s ≠ u := ne_of_obj ks ku (obj_ty (by decide))
 have hgu : g ≠ u := Ne.symm hug
 have hgs : g ≠ s := Ne.symm hsg
 have hus : u ≠ s := Ne.symm hsu
 have hi2 : (i : Int) < (R.length : Int) := by omega
 have hj : i / 64 < us.length := (List.getElem?_eq_some_iff.1 hx).1
 have hl : i ≤ 4095 := by have := H.len; omega
 have hmp : 0 < R.countP Option.isSome ∧ R.countP Option.isSome ≤ 4096 := ⟨List.countP_pos_iff.2 ⟨R[i], List.getElem_mem _, by rw [(List.getElem?_eq_some_iff.1 hy).2]; rfl⟩, Nat.le_trans List.countP_le_length H.len.2⟩
 generalize hmany : R.countP Option.isSome = many at *
 generalize hrl : R.length = rl at *
 generalize hul : us.length = ul at *
 generalize hU : (us.map wcell).toArray = U at *
 have hUs : i / 64 < U.size := by rw [← hU]; simp; omega
 have hms : IntKind.i64.wrap ((many : Int) - 1) = ((many - 1 : Nat) : Int) := by
  rw [IntKind.wrap_i64]
  omega
 have q1 : IntKind.i64.wrap ((i : Int) / 64) = ((i / 64 : Nat) : Int) := by
  rw [IntKind.wrap_i64]
  omega
 have q2 : Int.tmod (i : Int) 64 = ((i % 64 : Nat) : Int) := by
  rw [Int.tmod_eq_emod_of_nonneg (by omega)]
  omega
 have he : i % 64 < 64 := Nat.mod_lt _ (by omega)
 have he2 : ((i % 64 : Nat) : Int) ≤ 64 := by omega
 have he3 : i % 64 ≤ 64 := by omega
 obtain ⟨P, xn, q3, q4, hn2, hn3⟩ := andNot_facts (i := i) hlt
 have hc2 : ∀ h : i / 64 < U.size, U[i / 64] = .int .u64 (x : Int) := fun h => at_get hc h
 have HE := Lib.hid (And.intro hmany (And.intro hrl (And.intro hul (And.intro hU (And.intro hx (And.intro hlt (And.intro hn2 (And.intro hn3 hbs))))))))
 clear H hy hmany hrl hul hU hx hbs hb hn2 hn3
 generalize hdd : i / 64 = d at *
 generalize hee : i % 64 = ee at *
 have HDE := Lib.hid (And.intro hdd hee)
 clear hdd hee
 go_enter Tryz.func42, Tryz.ntmps42
 go_wp2_with fail
 go_at_call 70
 refine (hasY_c HH.out.1 HH.out.2).mono ?_
 rintro e w1 ⟨rfl, rfl⟩
 go_upto_region 3 with fail
 have Lks := lt_size ks
 have Lkg := lt_size kg
 have Lku := lt_size ku
 refine wp_pass0 (C := fun _ _ _ => False) (κ := fun i => [3].getD i 0) [0] (by kernel_rfl) (by kernel_rfl) (fun _ _ d _ _ h => by cases d <;> first | exact h | exact absurd h (hP _ _ _)) ?_
 (refine TD.allocB (by simp only [zK]; rfl) rfl (by rfl) rfl rfl alItem (fun p6 hp6 => ?n30); try simp only [Act.put, zL])
 refine TD.nil (fun w2 hr => ?_)
 have ks := hr.mod.at ks (fun h => h)
 have kg := hr.mod.at kg (fun h => h)
 have ku := hr.mod.at ku (fun h => h)
 have kp6 := hr.box p6 _ (by first | exact Bx.set_same _ _ _ | (simp only [Bx.set_same]; rfl)); dsimp only [Value.cells] at kp6; obtain ⟨gp6, kp6⟩ := kp6
 have m2 := hr.mod
 clear hr
 go_upto_region 4 with fail
 have Lks := lt_size ks
 have Lku := lt_size ku
 have Lkp6 := lt_size kp6
 have Lkg := lt_size kg
 refine wp_pass (C := fun _ _ _ => False) (κ := fun i => [0, 0, 0, 1, 0, 1, 0, 5].getD i 0) [0, 1, 2, 3, 4, 5, 6, 7] (by kernel_rfl) (by kernel_rfl) (fun _ _ d _ _ h => by cases d <;> first | exact h | exact absurd h (hP _ _ _)) ?_
 (refine TD.val0 (v := ?v31) (by simp only [zK]; rfl) rfl (by rfl) (fun w1 => ?y31) ?n31; (case y31 => go_simp; try with_reducible rfl); try simp only [Act.put, zL])
 (refine TD.val0 (v := ?v32) (by simp only [zK]; rfl) rfl (by rfl) (fun w1 => ?y32) ?n32; (case y32 => go_simp; try with_reducible rfl); try simp only [Act.put, zL])
 (refine TD.val0 (v := ?v33) (by simp only [zK]; rfl) rfl (by rfl) (fun w1 => ?y33) ?n33; (case y33 => go_simp; try with_reducible rfl); try simp only [Act.put, zL])
 (refine TD.load (v := ?v34) (p := ?p34) (Mod.refl _ _) (by simp only [zK]; rfl) rfl (by rfl) rfl ?hx34 (fun wq hSq => ?y34) ?n34; (case hx34 => simp only [Act.eval, zM]; try rfl); (case y34 => (have ksq := hSq.at ks (fun h => h); have kuq := hSq.at ku (fun h => h); have kp6q := hSq.at kp6 (fun h => h); have kgq := hSq.at kg (fun h => h); go_simp; (try with_reducible rfl))); try simp only [Act.put, zL])
 (refine TD.val0 (v := ?v35) (by simp only [zK]; rfl) rfl (by rfl) (fun w1 => ?y35) ?n35; (case y35 => go_simp; try with_reducible rfl); try simp only [Act.put, zL])
 (refine TD.load (v := ?v36) (p := ?p36) (Mod.refl _ _) (by simp only [zK]; rfl) rfl (by rfl) rfl ?hx36 (fun wq hSq => ?y36) ?n36; (case hx36 => simp only [Act.eval, zM]; try rfl); (case y36 => (have ksq := hSq.at ks (fun h => h); have kuq := hSq.at ku (fun h => h); have kp6q := hSq.at kp6 (fun h => h); have kgq := hSq.at kg (fun h => h); go_simp; (try with_reducible rfl))); try simp only [Act.put, zL])
 (refine TD.val0 (v := ?v37) (by simp only [zK]; rfl) rfl (by rfl) (fun w1 => ?y37) ?n37; (case y37 => go_simp; try with_reducible rfl); try simp only [Act.put, zL])
 refine TD.eff (by simp only [zK]; rfl) rfl (fun wE hr => ?_)
 have ks := hr.mod.at0 ks
 have ku := hr.mod.at0 ku
 have kp6 := hr.mod.at0 kp6
 have kg := hr.mod.at0 kg
 have mE := hr.mod
 (refine eff_store (X := ?X38) (Y := ?Y38) (w' := ?w38) (by simp only [zK]; rfl) (by rfl) rfl ?hx38 ?hz38 ?y38 ?n38; (case hx38 => simp only [Act.eval, zM]; try rfl); (case hz38 => simp only [Act.eval, zM]; try rfl); (case y38 => go_simp; try with_reducible rfl))
 (first | refine TE.nil_set kg (fun w3 kg mS => ?_) | refine TE.nil_setCell kg (fun w3 kg mS => ?_))
 (try simp only [Array.setIfInBounds, zL] at kg)
 have ks := mS.at_ne ks (by omega)
 have ku := mS.at_ne ku (by omega)
 have kp6 := mS.at_ne kp6 (by omega)
 have m3 : Mod (fun b => b = g) w1 w3 := ((m2.then0 mE).mono (fun _ _ h => h.elim)).then mS (fun _ _ h => h)
 clear hr mE mS
 go_upto_region 5 with fail
 have Lks := lt_size ks
 have Lkg := lt_size kg
 have Lku := lt_size ku
 refine wp_pass (C := fun _ _ _ => False) (κ := fun i => [0, 0, 0, 1, 0, 0, 0, 1, 0, 0, 0, 0, 0, 5].getD i 0) [0, 1, 2, 3, 4, 5, 6, 7, 8, 9, 10, 11, 12, 13] (by kernel_rfl) (by kernel_rfl) (fun _ _ d _ _ h => by cases d <;> first | exact h | exact absurd h (hP _ _ _)) ?_
 (refine TD.val0 (v := ?v39) (by simp only [zK]; rfl) rfl (by rfl) (fun w1 => ?y39) ?n39; (case y39 => go_simp; try with_reducible rfl); try simp only [Act.put, zL])
 (refine TD.val0 (v := ?v40) (by simp only [zK]; rfl) rfl (by rfl) (fun w1 => ?y40) ?n40; (case y40 => go_simp; try with_reducible rfl); try simp only [Act.put, zL])
 (refine TD.val0 (v := ?v41) (by simp only [zK]; rfl) rfl (by rfl) (fun w1 => ?y41) ?n41; (case y41 => go_simp; try with_reducible rfl); try simp only [Act.put, zL])
 (refine TD.load (v := ?v42) (p := ?p42) (Mod.refl _ _) (by simp only [zK]; rfl) rfl (by rfl) rfl ?hx42 (fun wq hSq => ?y42) ?n42; (case hx42 => simp only [Act.eval, zM]; try rfl); (case y42 => (have ksq := hSq.at ks (fun h => h); have kgq := hSq.at kg (fun h => h); have kuq := hSq.at ku (fun h => h); go_simp; (try with_reducible rfl))); try simp only [Act.put, zL])
 (refine TD.val0 (v := ?v43) (by simp only [zK]; rfl) rfl (by rfl) (fun w1 => ?y43) ?n43; (case y43 => go_simp; try with_reducible rfl); try simp only [Act.put, zL])
 (refine TD.val0 (v := ?v44) (by simp only [zK]; rfl) rfl (by rfl) (fun w1 => ?y44) ?n44; (case y44 => go_simp; try with_reducible rfl); try simp only [Act.put, zL])
 (refine TD.val0 (v := ?v45) (by simp only [zK]; rfl) rfl (by rfl) (fun w1 => ?y45) ?n45; (case y45 => go_simp; try with_reducible rfl); try simp only [Act.put, zL])
 (refine TD.load (v := ?v46) (p := ?p46) (Mod.refl _ _) (by simp only [zK]; rfl) rfl (by rfl) rfl ?hx46 (fun wq hSq => ?y46) ?n46; (case hx46 => simp only [Act.eval, zM]; try rfl); (case y46 => (have ksq := hSq.at ks (fun h => h); have kgq := hSq.at kg (fun h => h); have kuq := hSq.at ku (fun h => h); go_simp; (try with_reducible rfl))); try simp only [Act.put, zL])
 (refine TD.val0 (v := ?v47) (by simp only [zK]; rfl) rfl (by rfl) (fun w1 => ?y47) ?n47; (case y47 => go_simp; try with_reducible rfl); try simp only [Act.put, zL])
 (refine TD.val0 (v := ?v48) (by simp only [zK]; rfl) rfl (by rfl) (fun w1 => ?y48) ?n48; (case y48 => go_simp; try with_reducible rfl); try simp only [Act.put, zL])
 (refine TD.val0 (v := ?v49) (by simp only [zK]; rfl) rfl (by rfl) (fun w1 => ?y49) ?n49; (case y49 => go_simp; try with_reducible rfl); try simp only [Act.put, zL])
 (refine TD.val0 (v := ?v50) (by simp only [zK]; rfl) rfl (by rfl) (fun w1 => ?y50) ?n50; (case y50 => go_simp; try with_reducible rfl); try simp only [Act.put, zL])
 (refine TD.val0 (v := ?v51) (by simp only [zK]; rfl) rfl (by rfl) (fun w1 => ?y51) ?n51; (case y51 => go_simp; try with_reducible rfl); try simp only [Act.put, zL])
 refine TD.eff (by simp only [zK]; rfl) rfl (fun wE hr => ?_)
 have ks := hr.mod.at0 ks
 have kg := hr.mod.at0 kg
 have ku := hr.mod.at0 ku
 have mE := hr.mod
 (refine eff_store (X := ?X52) (Y := ?Y52) (w' := ?w52) (by simp only [zK]; rfl) (by rfl) rfl ?hx52 ?hz52 ?y52 ?n52; (case hx52 => simp only [Act.eval, zM]; try rfl); (case hz52 => simp only [Act.eval, zM]; try rfl); (case y52 => go_simp; try with_reducible rfl))
 (first | refine TE.nil_set ku (fun w4 ku mS => ?_) | refine TE.nil_setCell ku (fun w4 ku mS => ?_))
 have ks := mS.at_ne ks (by omega)
 have kg := mS.at_ne kg (by omega)
 have m4 : Mod (fun b => b = g ∨ b = u) w1 w4 := ((m3.then0 mE).mono (fun _ _ h => .inl h)).then mS (fun _ _ h => .inr h)
 clear hr mE mS
 go_upto_region 6 with fail
 have Lkg := lt_size kg
 have Lku := lt_size ku
 have Lks := lt_size ks
 refine wp_pass0 (C := fun _ _ _ => False) (κ := fun i => [0, 0, 0, 1, 0, 0, 0, 5].getD i 0) [0, 1, 2, 3, 4, 5, 6, 7] (by kernel_rfl) (by kernel_rfl) (fun _ _ d _ _ h => by cases d <;> first | exact h | exact absurd h (hP _ _ _)) ?_
 (refine TD.val0 (v := ?v53) (by simp only [zK]; rfl) rfl (by rfl) (fun w1 => ?y53) ?n53; (case y53 => go_simp; try with_reducible rfl); try simp only [Act.put, zL])
 (refine TD.val0 (v := ?v54) (by simp only [zK]; rfl) rfl (by rfl) (fun w1 => ?y54) ?n54; (case y54 => go_simp; try with_reducible rfl); try simp only [Act.put, zL])
 (refine TD.val0 (v := ?v55) (by simp only [zK]; rfl) rfl (by rfl) (fun w1 => ?y55) ?n55; (case y55 => go_simp; try with_reducible rfl); try simp only [Act.put, zL])
 (refine TD.load (v := ?v56) (p := ?p56) (Mod.refl _ _) (by simp only [zK]; rfl) rfl (by rfl) rfl ?hx56 (fun wq hSq => ?y56) ?n56; (case hx56 => simp only [Act.eval, zM]; try rfl); (case y56 => (have kgq := hSq.at kg (fun h => h); have kuq := hSq.at ku (fun h => h); have ksq := hSq.at ks (fun h => h); go_simp; (try with_reducible rfl))); try simp only [Act.put, zL])
 (refine TD.val0 (v := ?v57) (by simp only [zK]; rfl) rfl (by rfl) (fun w1 => ?y57) ?n57; (case y57 => go_simp; try with_reducible rfl); try simp only [Act.put, zL])
 (refine TD.val0 (v := ?v58) (by simp only [zK]; rfl) rfl (by rfl) (fun w1 => ?y58) ?n58; (case y58 => go_simp; try with_reducible rfl); try simp only [Act.put, zL])
 (refine TD.val0 (v := ?v59) (by simp only [zK]; rfl) rfl (by rfl) (fun w1 => ?y59) ?n59; (case y59 => go_simp; try with_reducible rfl); try simp only [Act.put, zL])
 refine TD.eff (by simp only [zK]; rfl) rfl (fun wE hr => ?_)
 have kg := hr.mod.at0 kg
 have ku := hr.mod.at0 ku
 have ks := hr.mod.at0 ks
 have mE := hr.mod
 (refine eff_store (X := ?X60) (Y := ?Y60) (w' := ?w60) (by simp only [zK]; rfl) (by rfl) rfl ?hx60 ?hz60 ?y60 ?n60; (case hx60 => simp only [Act.eval, zM]; try rfl); (case hz60 => simp only [Act.eval, zM]; try rfl); (case y60 => go_simp; try with_reducible rfl))
 (first | refine TE.nil_set ks (fun w5 ks mS => ?_) | refine TE.nil_setCell ks (fun w5 ks mS => ?_))
 (try simp only [Array.setIfInBounds, zL] at ks)
 have kg := mS.at_ne kg (by omega)
 have ku := mS.at_ne ku (by omega)
 have m5 : Mod (fun b => b = g ∨ b = u ∨ b = s) w1 w5 := ((m4.then0 mE).mono (fun i _ h => by rcases h with h | h <;> simp [h])).then mS (fun _ _ h => .inr (.inr h))
 clear hr mE mS
 go_wp2_with fail
 go_ret
 obtain ⟨H, hy⟩ := HH.out
 obtain ⟨hmany, hrl, hul, hU, hx, hlt, hn2, hn3, hbs⟩ := HE.out
 obtain ⟨hdd, hee⟩ := HDE.out
 have hz : zItem.size = 51 := zItem_size
 have hi3 : i < R.length := by omega
 have hcnt := count_set hy (o' := none)
 have hcnt2 : (R.set i none).countP Option.isSome = many - 1 := by
  simp only [Option.isSome_some, if_true, Option.isSome_none, Bool.false_eq_true, if_false] at hcnt
  omega
 refine ⟨rfl, wr cur (i * 51) zItem.toList, us.set d xn, ?_, m5⟩
 refine ⟨?_, ?_, H.rows.set hi3 hz (fun y' e => by cases e), ?_, ?_, by rw [List.length_set]; exact H.len⟩
 ·rw [List.length_set, List.length_set, hcnt2, hrl, hul]
  exact ks
 ·rw [kg, ite_wr hz]
 ·rw [ku, ← hU, words_set]
 ·rw [← hdd]
  refine H.words.set hi3 hn2 (fun k hk => ?_)
  rw [hn3 k hk, hee]
  by_cases hke : k = ee
  ·rw [if_pos hke, if_pos hke]
   rfl
  ·rw [if_neg hke, if_neg hke, hdd]
   exact hbs k hk
end
end Go.Proofs.YtdeghpmlhcaedaaGreatDoor
namespace Go.Proofs.YtdeghpmlhcaedaaGreatDoor
open Go.RowKit
open Go.ChangeMaps (setBlock)
attribute [local go_sem ↓] wlItem ldItem stItem
attribute [local go_sem] cell_blk frozen_blk one_int one_bool one_ptr one_slice one_map Value.cells itr_size itr_all itr_one itr_one' zItem_size eqSl zItem_all zItem_one
section
variable {w : World} {s g u : Nat} {R : List (Option ItR)} {cur : Array Value} {us : List Nat}
set_option maxRecDepth 20000 in
set_option maxHeartbeats 3200000 in
theorem putN_c (H : Slb w s g u R cur us) (hf : R.countP Option.isSome = R.length) (y : ItR) : Calls Tryz.prog 37 #[ptrV s, .agg (itr y)] w fun e w' => e = .returned (.tuple #[.int .i64 0, .int .i64 3]) ∧ Mod (fun _ => False) w w' := by
 have ks := H.ks
 rw [hf] at ks
 generalize R.length = rl at *
 clear H hf
 go_enter Tryz.func37, Tryz.ntmps37
 go_upto_region 0 with fail
 have Lks := lt_size ks
 refine wp_pass0 (C := fun _ _ _ => False) (κ := fun i => [3, 0, 0].getD i 0) [0, 1, 2] (by kernel_rfl) (by kernel_rfl) (fun _ _ d _ _ h => by cases d <;> first | exact h | exact absurd h (hP _ _ _)) ?_
 (refine TD.box (v := ?v1) (by simp only [zK]; rfl) rfl (by rfl) rfl rfl ?hx1 (fun p3 hp3 => ?n1); (case hx1 => simp only [Act.eval, zM]; try rfl); try simp only [Act.put, zL])
 (refine TD.val0 (v := ?v2) (by simp only [zK]; rfl) rfl (by rfl) (fun w1 => ?y2) ?n2; (case y2 => go_simp; try with_reducible rfl); try simp only [Act.put, zL])
 (refine TD.val0 (v := ?v3) (by simp only [zK]; rfl) rfl (by rfl) (fun w1 => ?y3) ?n3; (case y3 => go_simp; try with_reducible rfl); try simp only [Act.put, zL])
 refine TD.nil (fun w1 hr => ?_)
 have ks := hr.mod.at ks (fun h => h)
 have kp3 := hr.box p3 _ (by first | exact Bx.set_same _ _ _ | (simp only [Bx.set_same]; rfl)); dsimp only [Value.cells] at kp3; obtain ⟨gp3, kp3⟩ := kp3
 have m1 := hr.mod
 clear hr
 go_upto_block 0 with fail
 refine wp_scope_straight ?_
 refine wp_seq_k fun K hK => ?_
 refine wp_block ?_
 go_upto_region 3 with fail
 have Lks := lt_size ks
 refine wp_pass (C := fun _ _ _ => False) (κ := fun i => [0, 0, 0, 1, 0, 0, 0, 1, 0, 0, 0].getD i 0) [0, 1, 2, 3, 4, 5, 6, 7, 8, 9, 10] (by kernel_rfl) (by kernel_rfl) (fun _ _ d _ _ h => by cases d <;> first | exact h | exact absurd h (hP _ _ _)) ?_
 (refine TD.val0 (v := ?v4) (by simp only [zK]; rfl) rfl (by rfl) (fun w1 => ?y4) ?n4; (case y4 => go_simp; try with_reducible rfl); try simp only [Act.put, zL])
 (refine TD.val0 (v := ?v5) (by simp only [zK]; rfl) rfl (by rfl) (fun w1 => ?y5) ?n5; (case y5 => go_simp; try with_reducible rfl); try simp only [Act.put, zL])
 (refine TD.val0 (v := ?v6) (by simp only [zK]; rfl) rfl (by rfl) (fun w1 => ?y6) ?n6; (case y6 => go_simp; try with_reducible rfl); try simp only [Act.put, zL])
 (refine TD.load (v := ?v7) (p := ?p7) (Mod.refl _ _) (by simp only [zK]; rfl) rfl (by rfl) rfl ?hx7 (fun wq hSq => ?y7) ?n7; (case hx7 => simp only [Act.eval, zM]; try rfl); (case y7 => (have ksq := hSq.at ks (fun h => h); go_simp; (try with_reducible rfl))); try simp only [Act.put, zL])
 (refine TD.val0 (v := ?v8) (by simp only [zK]; rfl) rfl (by rfl) (fun w1 => ?y8) ?n8; (case y8 => go_simp; try with_reducible rfl); try simp only [Act.put, zL])
 (refine TD.val0 (v := ?v9) (by simp only [zK]; rfl) rfl (by rfl) (fun w1 => ?y9) ?n9; (case y9 => go_simp; try with_reducible rfl); try simp only [Act.put, zL])
 (refine TD.val0 (v := ?v10) (by simp only [zK]; rfl) rfl (by rfl) (fun w1 => ?y10) ?n10; (case y10 => go_simp; try with_reducible rfl); try simp only [Act.put, zL])
 (refine TD.load (v := ?v11) (p := ?p11) (Mod.refl _ _) (by simp only [zK]; rfl) rfl (by rfl) rfl ?hx11 (fun wq hSq => ?y11) ?n11; (case hx11 => simp only [Act.eval, zM]; try rfl); (case y11 => (have ksq := hSq.at ks (fun h => h); go_simp; (try with_reducible rfl))); try simp only [Act.put, zL])
 (refine TD.val0 (v := ?v12) (by simp only [zK]; rfl) rfl (by rfl) (fun w1 => ?y12) ?n12; (case y12 => go_simp; try with_reducible rfl); try simp only [Act.put, zL])
 (refine TD.val0 (v := ?v13) (by simp only [zK]; rfl) rfl (by rfl) (fun w1 => ?y13) ?n13; (case y13 => go_simp; try with_reducible rfl); try simp only [Act.put, zL])
 (refine TD.val0 (v := ?v14) (by simp only [zK]; rfl) rfl (by rfl) (fun w1 => ?y14) ?n14; (case y14 => go_simp; try with_reducible rfl); try simp only [Act.put, zL])
 refine TD.nil (fun w2 hr => ?_)
 have ks := hr.mod.at ks (fun h => h)
 have m2 := m1.then0 hr.mod
 clear hr
 go_wp2_with fail
 rw [Exit.noGoto_ret]
 exact bodyPost_ret (results_tmp2 rfl _ _ _) rfl ⟨rfl, m2⟩
theorem xor_max {x : Nat} (hx : x < 2 ^ 64) : bits .xor .u64 IntKind.u64.max (x : Int) = ((2 ^ 64 - 1 - x : Nat) : Int) := by
 have h := u64_xor_nat 18446744073709551615 x (by omega) hx
 rw [show IntKind.u64.max = ((18446744073709551615 : Nat) : Int) by decide, h]
 congr 1
 apply Nat.eq_of_testBit_eq
 intro i
 rw [Nat.testBit_xor, compl_bit hx, show 18446744073709551615 = 2 ^ 64 - 1 from rfl, Nat.testBit_two_pow_sub_one]
 by_cases hi : i < 64
 ·simp [hi]
 ·rw [decide_eq_false hi, Nat.testBit_lt_two_pow (Nat.lt_of_lt_of_le hx (Nat.pow_le_pow_right (by omega) (by omega)))]
  rfl
def FreeAt (R : List (Option ItR)) (n : Nat) : Prop := R[n]? = some none ∧ ∀ i, i < n → occ R i = true
theorem exists_free (hf : R.countP Option.isSome ≠ R.length) : ∃ i, i < R.length ∧ occ R i = false := by
 have h1 : ¬ ∀ a ∈ R, Option.isSome a = true := fun h => hf (List.countP_eq_length.2 h)
 have : ∃ a ∈ R, a = none := by
  refine Classical.byContradiction fun hc => h1 fun a ha => ?_
  cases a with
  | none => exact absurd ⟨none, ha, rfl⟩ hc
  | some y => rfl
 obtain ⟨a, ha, rfl⟩ := this
 obtain ⟨i, hi⟩ := List.mem_iff_getElem?.1 ha
 exact ⟨i, (List.getElem?_eq_some_iff.1 hi).1, occ_none hi⟩
set_option maxRecDepth 20000 in
set_option maxHeartbeats 3200000 in
theorem putY_c (H : Slb w s g u R cur us) (hw : TabW w) (hf : R.countP Option.isSome ≠ R.length) (y : ItR) : Calls Tryz.prog 37 #[ptrV s, .agg (itr y)] w fun e w' => ∃ n : Nat, FreeAt R n ∧ e = .returned (.tuple #[.int .i64 (n : Int), .int .i64 0]) ∧ ∃ cur' us', Slb w' s g u (R.set n (some y)) cur' us' ∧ Mod (fun b => b = g ∨ b = u ∨ b = s) w w' := by
 obtain ⟨i0, hi0, ho0⟩ := exists_free hf
 have HH := Lib.hid (And.intro H (And.intro hi0 ho0))
 have ks := H.ks
 have kg := H.kg
 have ku := H.ku
 have hsg : s ≠ g := ne_of_obj ks kg (obj_ty (by decide))
 have hug : u ≠ g := ne_of_obj ku kg (obj_ty (by decide))
 have hsu : s ≠ u := ne_of_obj ks ku (obj_ty (by decide))
 have hgu : g ≠ u := Ne.symm hug
 have hgs : g ≠ s := Ne.symm hsg
 have hus : u ≠ s := Ne.symm hsu
 have hmp : R.countP Option.isSome < 4096 := Nat.lt_of_lt_of_le (Nat.lt_of_le_of_ne List.countP_le_length hf) H.len.2
 have hrl4 := H.len.2
 have hulr := H.words.1
 have hde : ((R.countP Option.isSome : Int) == (R.length : Int)) = false := by
  rw [beq_eq_false_iff_ne]
  exact fun e => hf (by exact_mod_cast e)
 generalize hmany : R.countP Option.isSome = many at *
 generalize hrl : R.length = rl at *
 generalize hul : us.length = ul at *
 generalize hU : (us.map wcell).toArray = U at *
 have HE := Lib.hid (And.intro hmany (And.intro hrl (And.intro hul (And.intro hU hulr))))
 have hulB : ul ≤ 64 := by omega
 clear H hi0 ho0 hmany hrl hul hU hulr hf
 go_enter Tryz.func37, Tryz.ntmps37
 go_upto_region 0 with fail
 have Lks := lt_size ks
 have Lkg := lt_size kg
 have Lku := lt_size ku
 refine wp_pass0 (C := fun _ _ _ => False) (κ := fun i => [3, 0, 0].getD i 0) [0, 1, 2] (by kernel_rfl) (by kernel_rfl) (fun _ _ d _ _ h => by cases d <;> first | exact h | exact absurd h (hP _ _ _)) ?_
 (refine TD.box (v := ?v15) (by simp only [zK]; rfl) rfl (by rfl) rfl rfl ?hx15 (fun p3 hp3 => ?n15); (case hx15 => simp only [Act.eval, zM]; try rfl); try simp only [Act.put, zL])
 (refine TD.val0 (v := ?v16) (by simp only [zK]; rfl) rfl (by rfl) (fun w1 => ?y16) ?n16; (case y16 => go_simp; try with_reducible rfl); try simp only [Act.put, zL])
 (refine TD.val0 (v := ?v17) (by simp only [zK]; rfl) rfl (by rfl) (fun w1 => ?y17) ?n17; (case y17 => go_simp; try with_reducible rfl); try simp only [Act.put, zL])
 refine TD.nil (fun w1 hr => ?_)
 have ks := hr.mod.at ks (fun h => h)
 have kg := hr.mod.at kg (fun h => h)
 have ku := hr.mod.at ku (fun h => h)
 have kp3 := hr.box p3 _ (by first | exact Bx.set_same _ _ _ | (simp only [Bx.set_same]; rfl)); dsimp only [Value.cells] at kp3; obtain ⟨gp3, kp3⟩ := kp3
 have m1 := hr.mod
 have hw1 := Lib.hid (hw.mod0 hr.mod)
 clear hr hw
 go_upto_block 0 with fail
 refine wp_scope_straight ?_
 refine wp_seq_k fun K hK => ?_
 refine wp_block ?_
 go_upto_region 3 with fail
 have Lks := lt_size ks
 have Lkg := lt_size kg
 have Lku := lt_size ku
 have Lkp3 := lt_size kp3
 refine wp_pass (C := fun _ _ _ => False) (κ := fun i => [0, 0, 0, 1, 0, 0, 0, 1, 0, 0, 0].getD i 0) [0, 1, 2, 3, 4, 5, 6, 7, 8, 9, 10] (by kernel_rfl) (by kernel_rfl) (fun _ _ d _ _ h => by cases d <;> first | exact h | exact absurd h (hP _ _ _)) ?_
 (refine TD.val0 (v := ?v18) (by simp only [zK]; rfl) rfl (by rfl) (fun w1 => ?y18) ?n18; (case y18 => go_simp; try with_reducible rfl); try simp only [Act.put, zL])
 (refine TD.val0 (v := ?v19) (by simp only [zK]; rfl) rfl (by rfl) (fun w1 => ?y19) ?n19; (case y19 => go_simp; try with_reducible rfl); try simp only [Act.put, zL])
 (refine TD.val0 (v := ?v20) (by simp only [zK]; rfl) rfl (by rfl) (fun w1 => ?y20) ?n20; (case y20 => go_simp; try with_reducible rfl); try simp only [Act.put, zL])
 (refine TD.load (v := ?v21) (p := ?p21) (Mod.refl _ _) (by simp only [zK]; rfl) rfl (by rfl) rfl ?hx21 (fun wq hSq => ?y21) ?n21; (case hx21 => simp only [Act.eval, zM]; try rfl); (case y21 => (have ksq := hSq.at ks (fun h => h); have kgq := hSq.at kg (fun h => h); have kuq := hSq.at ku (fun h => h); have kp3q := hSq.at kp3 (fun h => h); go_simp; (try with_reducible rfl))); try simp only [Act.put, zL])
 (refine TD.val0 (v := ?v22) (by simp only [zK]; rfl) rfl (by rfl) (fun w1 => ?y22) ?n22; (case y22 => go_simp; try with_reducible rfl); try simp only [Act.put, zL])
 (refine TD.val0 (v := ?v23) (by simp only [zK]; rfl) rfl (by rfl) (fun w1 => ?y23) ?n23; (case y23 => go_simp; try with_reducible rfl); try simp only [Act.put, zL])
 (refine TD.val0 (v := ?v24) (by simp only [zK]; rfl) rfl (by rfl) (fun w1 => ?y24) ?n24; (case y24 => go_simp; try with_reducible rfl); try simp only [Act.put, zL])
 (refine TD.load (v := ?v25) (p := ?p25) (Mod.refl _ _) (by simp only [zK]; rfl) rfl (by rfl) rfl ?hx25 (fun wq hSq => ?y25) ?n25; (case hx25 => simp only [Act.eval, zM]; try rfl); (case y25 => (have ksq := hSq.at ks (fun h => h); have kgq := hSq.at kg (fun h => h); have kuq := hSq.at ku (fun h => h); have kp3q := hSq.at kp3 (fun h => h); go_simp; (try with_reducible rfl))); try simp only [Act.put, zL])
 (refine TD.val0 (v := ?v26) (by simp only [zK]; rfl) rfl (by rfl) (fun w1 => ?y26) ?n26; (case y26 => go_simp; try with_reducible rfl); try simp only [Act.put, zL])
 (refine TD.val0 (v := ?v27) (by simp only [zK]; rfl) rfl (by rfl) (fun w1 => ?y27) ?n27; (case y27 => go_simp; try with_reducible rfl); try simp only [Act.put, zL])
 (refine TD.val0 (v := ?v28) (by simp only [zK]; rfl) rfl (by rfl) (fun w1 => ?y28) ?n28; (case y28 => go_simp; try with_reducible rfl); try simp only [Act.put, zL])
 refine TD.nil (fun w2 hr => ?_)
 have ks := hr.mod.at ks (fun h => h)
 have kg := hr.mod.at kg (fun h => h)
 have ku := hr.mod.at ku (fun h => h)
 have kp3 := hr.mod.at kp3 (fun h => h)
 have m2 := m1.then0 hr.mod
 have hw2 := Lib.hid (hw1.out.mod0 hr.mod)
 clear hr hw1
 go_wp2_with fail
 go_step3
 go_wp2_with fail
 go_loopw [35, 4, 6, 7, 8] (fun s35 s4 s6 s7 s8 ws => ∃ j : Nat, j ≤ ul ∧ s35 = .int .i64 (j : Int) ∧ Hid (∀ i, i < 64 * j → occ R i = true) ∧ ws = w2) (fun s35 _ _ _ _ _ => ul - (intOf s35).toNat)
 case atStart => exact ⟨0, by omega, rfl, Lib.hid (fun i hi => by omega), rfl⟩
 case round =>
  obtain ⟨j, hj, rfl, HO, rfl⟩ := hrel
  by_cases hlt : j < ul
  ·obtain ⟨hmany, hrl, hul, hU, hulr⟩ := HE.out
   have hx := List.getElem?_eq_getElem (l := us) (i := j) (by omega)
   generalize us[j] = x at hx
   obtain ⟨hx64, hbs⟩ := HH.out.1.words.2 j x hx
   have hc : U[j]? = some (.int .u64 (x : Int)) := by rw [← hU]; exact wcell_get hx
   have hc2 : ∀ h : j < U.size, U[j] = .int .u64 (x : Int) := fun h => at_get hc h
   have hcb := compl_bit hx64
   have hwc : bits .xor .u64 IntKind.u64.max (x : Int) = ((2 ^ 64 - 1 - x : Nat) : Int) := xor_max hx64
   have hns : IntKind.u64.signed = false := rfl
   have hy64 : 2 ^ 64 - 1 - x < 2 ^ 64 := by omega
   generalize 2 ^ 64 - 1 - x = z at *
   have HX := Lib.hid (And.intro hx (And.intro hx64 (And.intro hbs (And.intro hcb hy64))))
   clear hmany hrl hul hU hulr hx hx64 hbs hcb hy64
   go_wp2_with fail
   go_at_call 66
   rcases Nat.eq_zero_or_pos z with rfl | hz
   ·refine (tz0_c _).mono ?_
    rintro e w3 ⟨rfl, rfl⟩
    go_wp2_with fail
    go_roundw
    case rel => exact ⟨j + 1, by omega, by go_num, Lib.hid (fun i hi => by
     by_cases h9 : i < 64 * j
     ·exact HO.out i h9
     ·obtain ⟨_, _, hbs, hcb, _⟩ := HX.out
      have h8 := hcb (i - 64 * j)
      rw [Nat.zero_testBit, decide_eq_true (by omega), Bool.true_and] at h8
      have h7 := hbs (i - 64 * j) (by omega)
      rw [show 64 * j + (i - 64 * j) = i by omega] at h7
      rw [← h7]
      simpa using h8.symm), trivial⟩
    case measure => simp [intOf]; omega
   ·obtain ⟨k, h1, h0⟩ := least_bit hz
    have hk := bit_lt HX.out.2.2.2.2 h1
    have hkd := decide_eq_true hk
    refine (tz_c HX.out.2.2.2.2 h1 h0 hw2.out).mono ?_
    rintro e w3 ⟨rfl, rfl⟩
    have HK := Lib.hid (And.intro h1 h0)
    clear h1 h0
    obtain ⟨n, hn, hnI⟩ : ∃ n : Nat, n = 64 * j + k ∧ (j : Int) * 64 + (k : Int) = (n : Int) := ⟨64 * j + k, rfl, by omega⟩
    have hfree : FreeAt R n := by
     obtain ⟨hmany, hrl, hul, hU, hulr⟩ := HE.out
     obtain ⟨_, _, hbs, hcb, _⟩ := HX.out
     obtain ⟨h1, h0⟩ := HK.out
     have hbelow : ∀ i, i < n → occ R i = true := fun i hi => by
      by_cases h9 : i < 64 * j
      ·exact HO.out i h9
      ·have h8 := hcb (i - 64 * j)
       rw [h0 _ (by omega), decide_eq_true (by omega), Bool.true_and] at h8
       have h7 := hbs (i - 64 * j) (by omega)
       rw [show 64 * j + (i - 64 * j) = i by omega] at h7
       rw [← h7]
       simpa using h8.symm
     have hnot : occ R n = false := by
      have h8 := hcb k
      rw [h1, decide_eq_true hk, Bool.true_and] at h8
      rw [hn, ← hbs k hk]
      simpa using h8.symm
     obtain ⟨H, hi0, ho0⟩ := HH.out
     have hnl : n < R.length := by
      rcases Nat.lt_or_ge i0 n with h | h
      ·rw [hbelow i0 h] at ho0
       cases ho0
      ·omega
     refine ⟨?_, hbelow⟩
     cases hR : R[n]? with
     | none => rw [List.getElem?_eq_none_iff] at hR; omega
     | some o =>
      cases o with
      | none => rfl
      | some y => rw [occ_some hR] at hnot; cases hnot
    have hnl : n < R.length := (List.getElem?_eq_some_iff.1 hfree.1).1
    have hsz := HH.out.1.rows.size hnl
    have hrlE := HE.out.2.1
    have hnr : n < rl := by omega
    have hnr2 : (n : Int) < (rl : Int) := by omega
    have hn4 : n ≤ 4095 := by omega
    obtain ⟨P, xn, q3, q4, hn2, hn3⟩ := or_facts (i := n) HX.out.2.1
    have hmk : n % 64 = k := by omega
    have hdj : n / 64 = j := by omega
    rw [hmk] at q3
    have q1 : IntKind.i64.wrap ((n : Int) / 64) = (j : Int) := by
     rw [IntKind.wrap_i64]
     omega
    have q2 : Int.tmod (n : Int) 64 = (k : Int) := by
     rw [Int.tmod_eq_emod_of_nonneg (by omega)]
     omega
    have q5 : IntKind.i64.wrap ((many : Int) + 1) = ((many + 1 : Nat) : Int) := by
     rw [IntKind.wrap_i64]
     omega
    have hk3 : k ≤ 64 := by omega
    have HN := Lib.hid (And.intro hfree (And.intro hn (And.intro hn2 (And.intro hn3 (And.intro hmk hdj)))))
    clear hfree hn hn2 hn3 hmk hdj hnl hrlE
    go_upto_region 12 with fail
    clear hnI
    have Lks := lt_size ks
    have Lkg := lt_size kg
    have Lkp3 := lt_size kp3
    have Lku := lt_size ku
    refine wp_pass (C := fun _ _ _ => False) (κ := fun i => [0, 0, 0, 1, 0, 0, 0, 1, 0, 0, 0, 0, 0, 5].getD i 0) [0, 1, 2, 3, 4, 5, 6, 7, 8, 9, 10, 11, 12, 13] (by kernel_rfl) (by kernel_rfl) (fun _ _ d _ _ h => by cases d <;> first | exact h | exact absurd h (hP _ _ _)) ?_
    (refine TD.val0 (v := ?v29) (by simp only [zK]; rfl) rfl (by rfl) (fun w1 => ?y29) ?n29; (case y29 => go_simp; try with_reducible rfl); try simp only [Act.put, zL])
    (refine TD.val0 (v := ?v30) (by simp only [zK]; rfl) rfl (by rfl) (fun w1 => ?y30) ?n30; (case y30 => go_simp; try with_reducible rfl); try simp only [Act.put, zL])
    (refine TD.val0 (v := ?v31) (by simp only [zK]; rfl) rfl (by rfl) (fun w1 => ?y31) ?n31; (case y31 => go_simp; try with_reducible rfl); try simp only [Act.put, zL])
    (refine TD.load (v := ?v32) (p := ?p32) (Mod.refl _ _) (by simp only [zK]; rfl) rfl (by rfl) rfl ?hx32 (fun wq hSq => ?y32) ?n32; (case hx32 => simp only [Act.eval, zM]; try rfl); (case y32 => (have ksq := hSq.at ks (fun h => h); have kgq := hSq.at kg (fun h => h); have kp3q := hSq.at kp3 (fun h => h); have kuq := hSq.at ku (fun h => h); go_simp; (try with_reducible rfl))); try simp only [Act.put, zL])
    (refine TD.val0 (v := ?v33) (by simp only [zK]; rfl) rfl (by rfl) (fun w1 => ?y33) ?n33; (case y33 => go_simp; try with_reducible rfl); try simp only [Act.put, zL])
    (refine TD.val0 (v := ?v34) (by simp only [zK]; rfl) rfl (by rfl) (fun w1 => ?y34) ?n34; (case y34 => go_simp; try with_reducible rfl); try simp only [Act.put, zL])
    (refine TD.val0 (v := ?v35) (by simp only [zK]; rfl) rfl (by rfl) (fun w1 => ?y35) ?n35; (case y35 => go_simp; try with_reducible rfl); try simp only [Act.put, zL])
    (refine TD.load (v := ?v36) (p := ?p36) (Mod.refl _ _) (by simp only [zK]; rfl) rfl (by rfl) rfl ?hx36 (fun wq hSq => ?y36) ?n36; (case hx36 => simp only [Act.eval, zM]; try rfl); (case y36 => (have ksq := hSq.at ks (fun h => h); have kgq := hSq.at kg (fun h => h); have kp3q := hSq.at kp3 (fun h => h); have kuq := hSq.at ku (fun h => h); go_simp; (try with_reducible rfl))); try simp only [Act.put, zL])
    (refine TD.val0 (v := ?v37) (by simp only [zK]; rfl) rfl (by rfl) (fun w1 => ?y37) ?n37; (case y37 => go_simp; try with_reducible rfl); try simp only [Act.put, zL])
    (refine TD.val0 (v := ?v38) (by simp only [zK]; rfl) rfl (by rfl) (fun w1 => ?y38) ?n38; (case y38 => go_simp; try with_reducible rfl); try simp only [Act.put, zL])
    (refine TD.val0 (v := ?v39) (by simp only [zK]; rfl) rfl (by rfl) (fun w1 => ?y39) ?n39; (case y39 => go_simp; try with_reducible rfl); try simp only [Act.put, zL])
    (refine TD.val0 (v := ?v40) (by simp only [zK]; rfl) rfl (by rfl) (fun w1 => ?y40) ?n40; (case y40 => go_simp; try with_reducible rfl); try simp only [Act.put, zL])
    (refine TD.val0 (v := ?v41) (by simp only [zK]; rfl) rfl (by rfl) (fun w1 => ?y41) ?n41; (case y41 => go_simp; try with_reducible rfl); try simp only [Act.put, zL])
    refine TD.eff (by simp only [zK]; rfl) rfl (fun wE hr => ?_)
    have ks := hr.mod.at0 ks
    have kg := hr.mod.at0 kg
    have kp3 := hr.mod.at0 kp3
    have ku := hr.mod.at0 ku
    have mE := hr.mod
    (refine eff_store (X := ?X42) (Y := ?Y42) (w' := ?w42) (by simp only [zK]; rfl) (by rfl) rfl ?hx42 ?hz42 ?y42 ?n42; (case hx42 => simp only [Act.eval, zM]; try rfl); (case hz42 => simp only [Act.eval, zM]; try rfl); (case y42 => go_simp; try with_reducible rfl))
    (first | refine TE.nil_set ku (fun w4 ku mS => ?_) | refine TE.nil_setCell ku (fun w4 ku mS => ?_))
    have ks := mS.at_ne ks (by omega)
    have kg := mS.at_ne kg (by omega)
    have kp3 := mS.at_ne kp3 (by omega)
    have m4 : Mod (fun b => b = u) w3 w4 := (mE.mono (fun _ _ h => h.elim)).then mS (fun _ _ h => h)
    clear hr mE mS
    go_upto_region 13 with fail
    have Lks := lt_size ks
    have Lku := lt_size ku
    have Lkp3 := lt_size kp3
    have Lkg := lt_size kg
    refine wp_pass (C := fun _ _ _ => False) (κ := fun i => [0, 0, 0, 1, 0, 1, 0, 5].getD i 0) [0, 1, 2, 3, 4, 5, 6, 7] (by kernel_rfl) (by kernel_rfl) (fun _ _ d _ _ h => by cases d <;> first | exact h | exact absurd h (hP _ _ _)) ?_
    (refine TD.val0 (v := ?v43) (by simp only [zK]; rfl) rfl (by rfl) (fun w1 => ?y43) ?n43; (case y43 => go_simp; try with_reducible rfl); try simp only [Act.put, zL])
    (refine TD.val0 (v := ?v44) (by simp only [zK]; rfl) rfl (by rfl) (fun w1 => ?y44) ?n44; (case y44 => go_simp; try with_reducible rfl); try simp only [Act.put, zL])
    (refine TD.val0 (v := ?v45) (by simp only [zK]; rfl) rfl (by rfl) (fun w1 => ?y45) ?n45; (case y45 => go_simp; try with_reducible rfl); try simp only [Act.put, zL])
    (refine TD.load (v := ?v46) (p := ?p46) (Mod.refl _ _) (by simp only [zK]; rfl) rfl (by rfl) rfl ?hx46 (fun wq hSq => ?y46) ?n46; (case hx46 => simp only [Act.eval, zM]; try rfl); (case y46 => (have ksq := hSq.at ks (fun h => h); have kuq := hSq.at ku (fun h => h); have kp3q := hSq.at kp3 (fun h => h); have kgq := hSq.at kg (fun h => h); go_simp; (try with_reducible rfl))); try simp only [Act.put, zL])
    (refine TD.val0 (v := ?v47) (by simp only [zK]; rfl) rfl (by rfl) (fun w1 => ?y47) ?n47; (case y47 => go_simp; try with_reducible rfl); try simp only [Act.put, zL])
    (refine TD.load (v := ?v48) (p := ?p48) (Mod.refl _ _) (by simp only [zK]; rfl) rfl (by rfl) rfl ?hx48 (fun wq hSq => ?y48) ?n48; (case hx48 => simp only [Act.eval, zM]; try rfl); (case y48 => (have ksq := hSq.at ks (fun h => h); have kuq := hSq.at ku (fun h => h); have kp3q := hSq.at kp3 (fun h => h); have kgq := hSq.at kg (fun h => h); go_simp; (try with_reducible rfl))); try simp only [Act.put, zL])
    (refine TD.val0 (v := ?v49) (by simp only [zK]; rfl) rfl (by rfl) (fun w1 => ?y49) ?n49; (case y49 => go_simp; try with_reducible rfl); try simp only [Act.put, zL])
    refine TD.eff (by simp only [zK]; rfl) rfl (fun wE hr => ?_)
    have ks := hr.mod.at0 ks
    have ku := hr.mod.at0 ku
    have kp3 := hr.mod.at0 kp3
    have kg := hr.mod.at0 kg
    have mE := hr.mod
    (refine eff_store (X := ?X50) (Y := ?Y50) (w' := ?w50) (by simp only [zK]; rfl) (by rfl) rfl ?hx50 ?hz50 ?y50 ?n50; (case hx50 => simp only [Act.eval, zM]; try rfl); (case hz50 => simp only [Act.eval, zM]; try rfl); (case y50 => go_simp; try with_reducible rfl))
    (first | refine TE.nil_set kg (fun w5 kg mS => ?_) | refine TE.nil_setCell kg (fun w5 kg mS => ?_))
    (try simp only [Array.setIfInBounds, zL] at kg)
    have ks := mS.at_ne ks (by omega)
    have ku := mS.at_ne ku (by omega)
    have kp3 := mS.at_ne kp3 (by omega)
    have m5 : Mod (fun b => b = g ∨ b = u) w3 w5 := ((m4.then0 mE).mono (fun _ _ h => .inr h)).then mS (fun _ _ h => .inl h)
    clear hr mE mS
    go_upto_region 14 with fail
    have Lkg := lt_size kg
    have Lku := lt_size ku
    have Lks := lt_size ks
    refine wp_pass0 (C := fun _ _ _ => False) (κ := fun i => [0, 0, 0, 1, 0, 0, 0, 5].getD i 0) [0, 1, 2, 3, 4, 5, 6, 7] (by kernel_rfl) (by kernel_rfl) (fun _ _ d _ _ h => by cases d <;> first | exact h | exact absurd h (hP _ _ _)) ?_
    (refine TD.val0 (v := ?v51) (by simp only [zK]; rfl) rfl (by rfl) (fun w1 => ?y51) ?n51; (case y51 => go_simp; try with_reducible rfl); try simp only [Act.put, zL])
    (refine TD.val0 (v := ?v52) (by simp only [zK]; rfl) rfl (by rfl) (fun w1 => ?y52) ?n52; (case y52 => go_simp; try with_reducible rfl); try simp only [Act.put, zL])
    (refine TD.val0 (v := ?v53) (by simp only [zK]; rfl) rfl (by rfl) (fun w1 => ?y53) ?n53; (case y53 => go_simp; try with_reducible rfl); try simp only [Act.put, zL])
    (refine TD.load (v := ?v54) (p := ?p54) (Mod.refl _ _) (by simp only [zK]; rfl) rfl (by rfl) rfl ?hx54 (fun wq hSq => ?y54) ?n54; (case hx54 => simp only [Act.eval, zM]; try rfl); (case y54 => (have kgq := hSq.at kg (fun h => h); have kuq := hSq.at ku (fun h => h); have ksq := hSq.at ks (fun h => h); go_simp; (try with_reducible rfl))); try simp only [Act.put, zL])
    (refine TD.val0 (v := ?v55) (by simp only [zK]; rfl) rfl (by rfl) (fun w1 => ?y55) ?n55; (case y55 => go_simp; try with_reducible rfl); try simp only [Act.put, zL])
    (refine TD.val0 (v := ?v56) (by simp only [zK]; rfl) rfl (by rfl) (fun w1 => ?y56) ?n56; (case y56 => go_simp; try with_reducible rfl); try simp only [Act.put, zL])
    (refine TD.val0 (v := ?v57) (by simp only [zK]; rfl) rfl (by rfl) (fun w1 => ?y57) ?n57; (case y57 => go_simp; try with_reducible rfl); try simp only [Act.put, zL])
    refine TD.eff (by simp only [zK]; rfl) rfl (fun wE hr => ?_)
    have kg := hr.mod.at0 kg
    have ku := hr.mod.at0 ku
    have ks := hr.mod.at0 ks
    have mE := hr.mod
    (refine eff_store (X := ?X58) (Y := ?Y58) (w' := ?w58) (by simp only [zK]; rfl) (by rfl) rfl ?hx58 ?hz58 ?y58 ?n58; (case hx58 => simp only [Act.eval, zM]; try rfl); (case hz58 => simp only [Act.eval, zM]; try rfl); (case y58 => go_simp; try with_reducible rfl))
    (first | refine TE.nil_set ks (fun w6 ks mS => ?_) | refine TE.nil_setCell ks (fun w6 ks mS => ?_))
    (try simp only [Array.setIfInBounds, zL] at ks)
    have kg := mS.at_ne kg (by omega)
    have ku := mS.at_ne ku (by omega)
    have m6 : Mod (fun b => b = g ∨ b = u ∨ b = s) w3 w6 := ((m5.then0 mE).mono (fun i _ h => by rcases h with h | h <;> simp [h])).then mS (fun _ _ h => .inr (.inr h))
    clear hr mE mS
    have mF := (m2.mono (T := fun b => b = g ∨ b = u ∨ b = s) (fun _ _ h => h.elim)).trans m6
    go_wp2_with fail
    try rw [Exit.noGoto_ret]
    obtain ⟨H, hi0, ho0⟩ := HH.out
    obtain ⟨hmany, hrl, hul, hU, hulr⟩ := HE.out
    obtain ⟨hfree, hn, hn2, hn3, hmk, hdj⟩ := HN.out
    have hz : (itr y).size = 51 := itr_size y
    have hnl : n < R.length := by omega
    have hcnt := count_set hfree.1 (o' := some y)
    have hcnt2 : (R.set n (some y)).countP Option.isSome = many + 1 := by
     simp only [Option.isSome_some, if_true, Option.isSome_none, Bool.false_eq_true, if_false] at hcnt
     omega
    refine bodyPost_ret (results_tmp2 rfl _ _ _) rfl ⟨n, hfree, rfl, wr cur (n * 51) (itr y).toList, us.set j xn, ?_, mF⟩
    refine ⟨?_, ?_, H.rows.set hnl hz (fun y' e => by cases e; rfl), ?_, ?_, by rw [List.length_set]; exact H.len⟩
    ·rw [List.length_set, List.length_set, hcnt2, hrl, hul]
     exact ks
    ·rw [kg, ite_wr hz]
    ·rw [ku, ← hU, words_set]
    ·rw [← hdj]
     refine H.words.set hnl hn2 (fun k' hk' => ?_)
     rw [hn3 k' hk']
     by_cases hke : k' = n % 64
     ·rw [if_pos hke, if_pos hke]
      rfl
     ·rw [if_neg hke, if_neg hke, hdj]
      exact HX.out.2.2.1 k' hk'
  ·exfalso
   obtain ⟨hmany, hrl, hul, hU, hulr⟩ := HE.out
   obtain ⟨H, hi0, ho0⟩ := HH.out
   rw [HO.out i0 (by omega)] at ho0
   cases ho0
end
end Go.Proofs.YtdeghpmlhcaedaaGreatDoor
namespace Go.Proofs.YtdeghpmlhcaedaaGreatDoor
open Go.RowKit
open Go.ChangeMaps (setBlock)
attribute [local go_sem ↓] wlItem ldItem stItem
attribute [local go_sem] cell_blk frozen_blk one_int one_bool one_ptr one_slice one_map Value.cells eqSl
def nums (R : List (Option ItR)) (n : Nat) : List Nat := (List.range n).filter (occ R)
theorem nums_succ (R : List (Option ItR)) (n : Nat) : nums R (n + 1) = nums R n ++ (if occ R n then [n] else []) := by
 unfold nums
 rw [List.range_succ, List.filter_append]
 congr 1
 cases h : occ R n <;> simp [h]
theorem nums_gap (R : List (Option ItR)) {a b : Nat} (hab : a ≤ b) (h : ∀ i, a ≤ i → i < b → occ R i = false) : nums R b = nums R a := by
 induction b with
 | zero =>
  obtain rfl : a = 0 := by omega
  rfl
 | succ b ih =>
  by_cases e : a = b + 1
  ·rw [e]
  ·rw [nums_succ, h b (by omega) (by omega), ih (by omega) (fun i h1 h2 => h i h1 (by omega))]
   simp
theorem nums_len (R : List (Option ItR)) (n : Nat) : (nums R n).length ≤ n := by
 have := List.length_filter_le (occ R) (List.range n)
 rw [List.length_range] at this
 exact this
theorem own_empty {w : World} {base q cap : Nat} {cur : Array Value} (hb : base ≤ q) (hg : w.heap[q]? = some (.cells cur 3 (0, 0))) (hs : cur.size = cap) (hm : cap ≤ maxLen) : SlOwn ic 1 3 w base (.slice (some ⟨q, 0, none⟩) 0 cap) [] :=
 ⟨rfl, .inr ⟨q, cap, cur, rfl, hb, hg, Nat.zero_le _, hm, by omega, by simp [cellsOf]⟩⟩
theorem bsI (x : Int) (w : World) : (Instr.buildSlice 79 1 #[(0, .int .i64 x)]).run Tryz.prog w = .ok (.slice (some ⟨w.heap.size, 0, none⟩) 1 1) (w.alloc (.cells #[.int .i64 x] 3)) := by
 go_simp
 try rfl
section
variable {w : World} {s g u : Nat} {R : List (Option ItR)} {cur : Array Value} {us : List Nat}
set_option maxRecDepth 20000 in
set_option maxHeartbeats 3200000 in
theorem numbers_c (H : Slb w s g u R cur us) (hw : TabW w) : Calls Tryz.prog 50 #[ptrV s] w fun e w' => ∃ v, e = .returned v ∧ SlOwn ic 1 3 w' w.heap.size v ((nums R R.length).map idn) ∧ Mod (fun _ => False) w w' := by
 have HH := Lib.hid H
 have ks := H.ks
 have ku := H.ku
 have hmp : R.countP Option.isSome ≤ 4096 := Nat.le_trans List.countP_le_length H.len.2
 have hrl4 := H.len.2
 have hulr := H.words.1
 generalize hmany : R.countP Option.isSome = many at *
 generalize hrl : R.length = rl at *
 generalize hul : us.length = ul at *
 generalize hU : (us.map wcell).toArray = U at *
 have hulB : ul ≤ 64 := by omega
 have HE := Lib.hid (And.intro hmany (And.intro hrl (And.intro hul (And.intro hU hulr))))
 have HW := Lib.hid hw
 have HW0 := Lib.hid hw
 clear H hmany hrl hul hU hulr hw
 obtain ⟨i0, z, hi, hz, hz1, hz2, hz3⟩ := intT.info
 have hmk : (Instr.makeSlice 79 (.int .i64 0) (.int .i64 (many : Int))).run Tryz.prog w = .ok (.slice (some ⟨w.heap.size, 0, none⟩) 0 many) (w.alloc (.cells (madeCells z.cells (many * i0.size)) 3)) := by
  have := run_make (P := Tryz.prog) w 79 3 i0 z Tryz.underlying79 hi hz .i64 .i64 (0 : Int) (many : Int) (by omega) (by omega) (by rw [hz2]; omega) (by omega)
  simpa using this
 have hcs : (madeCells z.cells (many * i0.size)).size = many := by rw [size_madeCells, hz1, Nat.mul_one]
 generalize madeCells z.cells (many * i0.size) = cur0 at *
 clear hi hz hz1 hz2 hz3
 go_enter Tryz.func50, Tryz.ntmps50
 go_upto_region 4 with fail
 have kq := heap_alloc_new w (.cells cur0 3)
 have m1 : Mod (fun _ => False) w (w.alloc (.cells cur0 3)) := (Mod.refl _ _).alloc _
 have HO0 : Hid (SlOwn ic 1 3 (w.alloc (.cells cur0 3)) w.heap.size (.slice (some ⟨w.heap.size, 0, none⟩) 0 many) ((nums R 0).map idn)) := Lib.hid (own_empty (Nat.le_refl _) kq hcs (by simp [maxLen]; omega))
 have ks1 := m1.at0 ks
 have ku1 := m1.at0 ku
 have HW1 := Lib.hid (HW.out.mod0 m1)
 generalize hw1 : w.alloc (.cells cur0 3) = w1 at *
 generalize hqe : w.heap.size = q at *
 have HQ := Lib.hid hqe
 clear hqe
 clear hmk hw1 kq ks ku HW hcs
 go_wp2_with fail
 go_loopw [18, 3, 4, 5] (fun s18 s3 s4 s5 ws => ∃ j : Nat, j ≤ ul ∧ s18 = .int .i64 (j : Int) ∧ Hid (SlOwn ic 1 3 ws q s3 ((nums R (64 * j)).map idn)) ∧ Mod (fun _ => False) w ws ∧ Hid (TabW ws) ∧ ws.heap[u]? = some (.cells U 32 (0, 0))) (fun s18 _ _ _ _ => ul - (intOf s18).toNat)
 case atStart => exact ⟨0, by omega, rfl, HO0, m1, HW1, ku1⟩
 case round =>
  obtain ⟨j, hj, rfl, HO, m2, HT, ku2⟩ := hrel
  by_cases hlt : j < ul
  ·obtain ⟨hmany, hrl, hul, hU, hulr⟩ := HE.out
   have hx := List.getElem?_eq_getElem (l := us) (i := j) (by omega)
   generalize us[j] = x at hx
   obtain ⟨hx64, hbs⟩ := HH.out.words.2 j x hx
   have hc : U[j]? = some (.int .u64 (x : Int)) := by rw [← hU]; exact wcell_get hx
   have hc2 : ∀ h : j < U.size, U[j] = .int .u64 (x : Int) := fun h => at_get hc h
   have HX := Lib.hid (And.intro hx64 hbs)
   obtain ⟨wa, rfl⟩ : ∃ wa : World, wa = wr := ⟨_, rfl⟩
   clear hmany hrl hul hU hulr hx hx64 hbs
   go_wp2_with fail
   go_loopw [3, 5] (fun s3 s5 ws => ∃ x t : Nat, x < 18446744073709551616 ∧ t ≤ 64 ∧ s5 = .int .u64 (x : Int) ∧ Hid (∀ k, k < 64 → x.testBit k = (decide (t ≤ k) && occ R (64 * j + k))) ∧ Hid (SlOwn ic 1 3 ws q s3 ((nums R (64 * j + t)).map idn)) ∧ Mod (fun _ => False) w ws ∧ Hid (TabW ws) ∧ ws.heap[u]? = some (.cells U 32 (0, 0))) (fun _ s5 _ => (intOf s5).toNat)
   case atStart => exact ⟨x, 0, HX.out.1, by omega, rfl, Lib.hid (fun k hk => by rw [HX.out.2 k hk]; simp), HO, m2, HT, ku2⟩
   case round =>
    obtain ⟨y, t, hy, ht, rfl, HBt, HO2, m4, HT2, ku3⟩ := hrel
    rcases Nat.eq_zero_or_pos y with rfl | hz
    ·have HO3 : Hid (SlOwn ic 1 3 wr q u3 ((nums R (64 * (j + 1))).map idn)) := Lib.hid (by
      rw [nums_gap R (a := 64 * j + t) (by omega) (fun i h1 h2 => ?_)]
      ·exact HO2.out
      ·have h3 := HBt.out (i - 64 * j) (by omega)
       rw [Nat.zero_testBit, decide_eq_true (by omega), Bool.true_and, show 64 * j + (i - 64 * j) = i by omega] at h3
       exact h3.symm)
     go_wp2_with fail
     go_roundw
     case rel => exact ⟨j + 1, by omega, by go_num, HO3, m4, HT2, ku3⟩
     case measure => simp [intOf]; omega
    ·obtain ⟨k, h1, h0⟩ := least_bit hz
     have hk := bit_lt hy h1
     have hb := HBt.out k hk
     rw [h1] at hb
     have hb2 : t ≤ k ∧ occ R (64 * j + k) = true := by
      simpa using hb.symm
     obtain ⟨n, hn, hnI⟩ : ∃ n : Nat, n = 64 * j + k ∧ (j : Int) * 64 + (k : Int) = (n : Int) := ⟨64 * j + k, rfl, by omega⟩
     have hne : ((y : Int) != 0) = true := by rw [bne_iff_ne]; omega
     have hn4 : n ≤ 4096 := by omega
     have hnid : (idn n).toInt = (n : Int) := idn_toInt (by omega)
     have hmw : IntKind.i64.wrap ((j : Int) * 64) = (j : Int) * 64 := by rw [IntKind.wrap_i64]; omega
     have hnw : IntKind.i64.wrap (n : Int) = (n : Int) := by rw [IntKind.wrap_i64]; omega
     have hand : bits .and .u64 (y : Int) ((y : Int) - 1) = ((y &&& (y - 1) : Nat) : Int) := by
      rw [show (y : Int) - 1 = ((y - 1 : Nat) : Int) by omega]
      exact u64_and_nat y (y - 1) hy (by omega)
     have hlt3 : y &&& (y - 1) < y := Nat.lt_of_le_of_lt Nat.and_le_right (by omega)
     have hbit3 : ∀ k', k' < 64 → (y &&& (y - 1)).testBit k' = (decide (k + 1 ≤ k') && occ R (64 * j + k')) := fun k' hk' => by
      rw [drop_low h1 h0, HBt.out k' hk']
      by_cases h9 : k' < k
      ·have h8 := HBt.out k' hk'
       rw [h0 k' h9] at h8
       rw [← h8]
       simp
       omega
      ·by_cases he : k' = k
       ·subst he
        rw [show decide (k' ≠ k') = false from decide_eq_false (fun h => h rfl), decide_eq_false (show ¬ k' + 1 ≤ k' by omega)]
        simp
       ·rw [decide_eq_true (show t ≤ k' by omega), decide_eq_true he, decide_eq_true (show k + 1 ≤ k' by omega)]
        simp
     have hnums : nums R (64 * j + (k + 1)) = nums R (64 * j + t) ++ [n] := by
      rw [show 64 * j + (k + 1) = 64 * j + k + 1 by omega, nums_succ, hb2.2, if_pos rfl, nums_gap R (a := 64 * j + t) (by omega) (fun i h1' h2' => ?_), hn]
      have h3 := HBt.out (i - 64 * j) (by omega)
      rw [h0 _ (by omega), decide_eq_true (by omega), Bool.true_and, show 64 * j + (i - 64 * j) = i by omega] at h3
      exact h3.symm
     have hlen := nums_len R (64 * j + t)
     have HD := Lib.hid (And.intro h1 (And.intro h0 (And.intro hbit3 (And.intro hnums hlen))))
     have hbs := bsI (n : Int)
     obtain ⟨a3, c3, hv3, _⟩ := HO2.out.at intT
     generalize hll : ((nums R (64 * j + t)).map idn).length = ll at hv3
     have HLL := Lib.hid hll
     subst hv3
     generalize y &&& (y - 1) = y2 at *
     clear h1 h0 hbit3 hnums hlen hb hb2 hn hll
     go_upto_region 9 with fail
     have Lku3 := lt_size ku3
     refine wp_pass0 (C := fun _ _ v => v = .int .i64 (k : Int)) (κ := fun i => [0, 0, 0, 0, 2, 0, 3, 5, 0].getD i 0) [0, 1, 2, 3, 4, 5, 6, 7, 8] (by kernel_rfl) (by kernel_rfl) (fun _ _ d _ _ h => by cases d <;> first | exact h | exact absurd h (hP _ _ _)) ?_
     (refine TD.val0 (v := ?v1) (by simp only [zK]; rfl) rfl (by rfl) (fun w1 => ?y1) ?n1; (case y1 => go_simp; try with_reducible rfl); try simp only [Act.put, zL])
     (refine TD.val0 (v := ?v2) (by simp only [zK]; rfl) rfl (by rfl) (fun w1 => ?y2) ?n2; (case y2 => go_simp; try with_reducible rfl); try simp only [Act.put, zL])
     (refine TD.val0 (v := ?v3) (by simp only [zK]; rfl) rfl (by rfl) (fun w1 => ?y3) ?n3; (case y3 => go_simp; try with_reducible rfl); try simp only [Act.put, zL])
     (refine TD.val0 (v := ?v4) (by simp only [zK]; rfl) rfl (by rfl) (fun w1 => ?y4) ?n4; (case y4 => go_simp; try with_reducible rfl); try simp only [Act.put, zL])
     (refine TD.call (f := ?f5) (args := ?r5) (Mod.refl _ _) (by simp only [zK]; rfl) rfl (by rfl) (fun w1 => ?y5) ?hsp5 ?n5; (case y5 => (go_simp; (first | with_reducible rfl | (constructor <;> with_reducible rfl)))); (case hsp5 => (intro wq hSq; have ku3q := hSq.at ku3 (fun h => h); exact (tz_c hy HD.out.1 HD.out.2.1 (HT2.out.mod0 hSq)).mono (fun e w' h => ⟨_, h.1, rfl, by rw [h.2]; exact Mod.refl _ _⟩))); rintro _ rfl; try simp only [Act.put, zL])
     (refine TD.val0 (v := ?v6) (by simp only [zK]; rfl) rfl (by rfl) (fun w1 => ?y6) ?n6; (case y6 => go_simp; try with_reducible rfl); try simp only [Act.put, zL])
     (refine TD.bslice (by simp only [zK]; rfl) rfl (by rfl) rfl rfl ?hx7 hbs (fun p35 hp35 => ?n7); (case hx7 => (simp only [List.map_toArray, List.map_cons, List.map_nil, Act.eval, zM]; (try rfl))); try simp only [Act.put, zL])
     refine TD.eff (by simp only [zK]; rfl) rfl (fun w5 hr => ?_)
     have ku3 := hr.mod.at ku3 (fun h => h)
     have kp35 := hr.box p35 _ (by first | exact Bx.set_same _ _ _ | (simp only [Bx.set_same]; rfl)); dsimp only [Value.cells] at kp35; obtain ⟨gp35, kp35⟩ := kp35
     have mm := m4.then0 hr.mod
     have hone : SlAt ic 1 w5 (some ⟨p35, 0, none⟩) [idn n] := SlAt.one kp35 (idn n) (by rw [ic, hnid]) rfl
     have hO5 := HO2.out.mod0 hr.mod
     have hlt2 := hO5.lt
     have HT5 := Lib.hid (HT2.out.mod0 hr.mod)
     obtain ⟨v3, w6, hap, hO6, m6, hn6⟩ := SlOwn.append intT (c := 1) hO5 hone (by rw [List.length_map]; simp; have := HD.out.2.2.2.2; omega) (by decide) (by have := HQ.out; have := mm.size; omega) 79
     have mF : Mod (fun _ => False) w w6 := mm.then m6 (fun i hi e => by have := (hlt2 i e).1; have := HQ.out; omega)
     have hsz5 := mm.size
     have hu5 : u < q := by have := HQ.out; have := lt_size HH.out.ku; omega
     have ku6 := m6.at ku3 (fun e => by have := (hlt2 u e).1; omega)
     have HT6 : Hid (TabW w6) := Lib.hid (by
      have h0 : (0 : Nat) < q := by
       obtain ⟨C, U', fr, h1, _⟩ := HW0.out
       have := lt_size h1
       have := HQ.out
       omega
      exact HT5.out.mod m6 (fun e => by have := (hlt2 0 e).1; omega))
     have HO6 : Hid (SlOwn ic 1 3 w6 q v3 ((nums R (64 * j + (k + 1))).map idn)) := Lib.hid (by
      rw [HD.out.2.2.2.1, List.map_append]
      exact hO6)
     clear hr hone hO5 hlt2 hO6 m6 hn6 mm hbs kp35 HT5
     (refine eff_append (by simp only [zK]; rfl) (by rfl) rfl ?hx9 ?hz9 hap ?n9; (case hx9 => simp only [Act.eval, zM]; try rfl); (case hz9 => simp only [Act.eval, zM]; try rfl); try simp only [Act.put, zL])
     (refine TE.val0 (v := ?v10) (by simp only [zK]; rfl) (by rfl) (fun w1 => ?y10) ?n10; (case y10 => go_simp; try with_reducible rfl); try simp only [Act.put, zL])
     refine TE.nil ?_
     clear hap
     go_wp2_with fail
     go_roundw
     case rel => exact ⟨y2, k + 1, by omega, by omega, rfl, Lib.hid HD.out.2.2.1, HO6, mF, HT6, ku6⟩
     case measure => simp [intOf]; omega
  ·have hje : j = ul := by omega
   go_wp2_with fail
   go_ret
   refine ⟨_, rfl, ?_, m2⟩
   obtain ⟨hmany, hrl, hul, hU, hulr⟩ := HE.out
   have h9 := HO.out
   rw [HQ.out]
   rw [hje, nums_gap R (a := rl) (by omega) (fun i h1 h2 => occ_out (by omega))] at h9
   exact h9
end
end Go.Proofs.YtdeghpmlhcaedaaGreatDoor
namespace Go.Proofs.YtdeghpmlhcaedaaGreatDoor
section
variable {P : Program} {ops : Array Oper} {Q : Exit → Act → World → Prop} {S : World → Prop} {C : FuncId → Array Value → Value → Prop} {w0 : World} {κ : Nat → Nat}
theorem TD.mks {i : Nat} {r : List Nat} {a : Act} {B : Bx} {o : Oper} {d : Tmp} {T E : TypeId} {n m : Nat} {x y : Operand} {X Y : Value} {z : Array Value} (ho : ops[i]? = some o) (hk : κ i = 3)
  (hw : Region.wanted o (yielded ops a.tmps) = true) (hd : o.dst = some d) (hop : o.op = .makeSlice T x y) (hx : a.eval x = X) (hy : a.eval y = Y)
  (hr : ∀ w, (Instr.makeSlice T X Y).run P w = .ok (.slice (some ⟨w.heap.size, 0, none⟩) n m) (w.alloc (.cells z E)))
  (h : ∀ p, B p = none → TD P ops Q S C w0 κ r (a.put o.dst (.slice (some ⟨p, 0, none⟩) n m)) (B.set p ⟨z, E, d⟩)) : TD P ops Q S C w0 κ (i :: r) a B :=
 .alloc (fun p => .slice (some ⟨p, 0, none⟩) n m) ho hk hw hd (fun w => by subst hx; subst hy; simp [execOp, hop, hr w]) h
end
end Go.Proofs.YtdeghpmlhcaedaaGreatDoor
namespace Go.Proofs.YtdeghpmlhcaedaaGreatDoor
open Go.RowKit
open Go.ChangeMaps (setBlock)
attribute [local go_sem ↓] wlItem ldItem stItem
attribute [local go_sem] cell_blk frozen_blk one_int one_bool one_ptr one_slice one_map Value.cells eqSl
theorem infoItem : ∃ i0, Tryz.prog.info? 60 = some i0 ∧ i0.zero = some (.agg zItem) ∧ i0.size = 51 ∧ i0.bytes ≤ 1000 := by
 obtain ⟨i0, hi, hz0, hz1, hz2⟩ := info_parts (show (Tryz.prog.info? 60).map (fun i => (i.zero, i.size, i.bytes)) = some (some (.agg zItem), 51, 248) by kernel_rfl)
 exact ⟨i0, hi, hz0, hz1, by omega⟩
theorem infoU64 : ∃ i0, Tryz.prog.info? 32 = some i0 ∧ i0.zero = some (.int .u64 0) ∧ i0.size = 1 ∧ i0.bytes = 8 := by
 obtain ⟨i0, hi, hz0, hz1, hz2⟩ := info_parts (show (Tryz.prog.info? 32).map (fun i => (i.zero, i.size, i.bytes)) = some (some (.int .u64 0), 1, 8) by kernel_rfl)
 exact ⟨i0, hi, hz0, hz1, hz2⟩
set_option maxRecDepth 20000 in
set_option maxHeartbeats 1600000 in
theorem newN_c (w : World) {n : Int} (hn : n < 1 ∨ 4096 < n) : Calls Tryz.prog 9 #[.int .i64 n] w fun e w' => e = .returned (.tuple #[.pointer none, .int .i64 1]) ∧ w' = w := by
 rcases hn with hn | hn
 ·have hd := decide_eq_true hn
  clear hn
  go_enter Tryz.func9, Tryz.ntmps9
  go_wp2_with fail
  exact bodyPost_ret (results_tmp2 rfl _ _ _) rfl ⟨rfl, rfl⟩
 ·have hd := decide_eq_true hn
  have hd0 : decide (n < 1) = false := decide_eq_false (by omega)
  clear hn
  go_enter Tryz.func9, Tryz.ntmps9
  go_wp2_with fail
  exact bodyPost_ret (results_tmp2 rfl _ _ _) rfl ⟨rfl, rfl⟩
theorem words_new (n : Nat) : WordsOf (List.replicate n none) (List.replicate ((n + 63) / 64) 0) := by
 refine ⟨by simp, fun j x hx => ?_⟩
 obtain ⟨_, hx⟩ := List.getElem?_eq_some_iff.1 hx
 rw [List.getElem_replicate] at hx
 subst hx
 refine ⟨by omega, fun k hk => ?_⟩
 rw [Nat.zero_testBit]
 symm
 unfold occ
 rw [List.getElem?_replicate]
 split <;> rfl
theorem bldSlab (a b : Addr) (n m : Nat) (w : World) : (Instr.build 94 #[(0, .slice (some a) n n), (1, .slice (some b) m m)]).run Tryz.prog w = .ok (.agg #[.slice (some a) n n, .slice (some b) m m, .int .i64 0]) w := by kernel_rfl
set_option maxRecDepth 20000 in
set_option maxHeartbeats 1600000 in
theorem newY_c (w : World) {n : Nat} (h1 : 1 ≤ n) (h2 : n ≤ 4096) : Calls Tryz.prog 9 #[.int .i64 (n : Int)] w fun e w' => ∃ s g u cur us, e = .returned (.tuple #[ptrV s, .int .i64 0]) ∧ Slb w' s g u (List.replicate n none) cur us ∧ w.heap.size ≤ s ∧ w.heap.size ≤ g ∧ w.heap.size ≤ u ∧ Mod (fun _ => False) w w' := by
 obtain ⟨i0, hi, hz, hz1, hz2⟩ := infoItem
 obtain ⟨i1, hi1, hzu, hzu1, hzu2⟩ := infoU64
 have hmk : ∀ w, (Instr.makeSlice 92 (.int .i64 (n : Int)) (.int .i64 (n : Int))).run Tryz.prog w = .ok (.slice (some ⟨w.heap.size, 0, none⟩) n n) (w.alloc (.cells (madeCells zItem (n * i0.size)) 60)) := fun w => by
  have hb : (i0.bytes : Int) * (n : Int) ≤ 281474976710656 := by
   have : i0.bytes * n ≤ 1000 * 4096 := Nat.mul_le_mul hz2 h2
   have h3 : (i0.bytes : Int) * (n : Int) = ((i0.bytes * n : Nat) : Int) := by simp
   omega
  have := run_make (P := Tryz.prog) w 92 60 i0 _ Tryz.underlying92 hi hz .i64 .i64 (n : Int) (n : Int) (by omega) (by omega) hb (by omega)
  simpa [Value.cells] using this
 have hmk3 : ∀ W : Nat, W ≤ 100 → ∀ w, (Instr.makeSlice 70 (.int .i64 (W : Int)) (.int .i64 (W : Int))).run Tryz.prog w = .ok (.slice (some ⟨w.heap.size, 0, none⟩) W W) (w.alloc (.cells (madeCells #[.int .u64 0] (W * i1.size)) 32)) := fun W hW w => by
  have := run_make (P := Tryz.prog) w 70 32 i1 _ Tryz.underlying70 hi1 hzu .i64 .i64 (W : Int) (W : Int) (by omega) (by omega) (by rw [hzu2]; omega) (by omega)
  simpa [Value.cells] using this
 have hmk2 := hmk3 ((n + 63) / 64) (by omega)
 clear hmk3
 rw [hzu1, Nat.mul_one] at hmk2
 rw [hz1] at hmk
 have hcs : (madeCells zItem (n * 51)).size = n * 51 := size_madeCells _ _
 have hus : madeCells #[.int .u64 0] ((n + 63) / 64) = ((List.replicate ((n + 63) / 64) 0).map wcell).toArray := by
  apply Array.toList_inj.1
  rw [toList_madeCells_one]
  simp [wcell]
 rw [hus] at hmk2
 have hd1 : decide ((n : Int) < 1) = false := decide_eq_false (by omega)
 have hd2 : decide ((4096 : Int) < (n : Int)) = false := decide_eq_false (by omega)
 have q1 : IntKind.i64.wrap ((n : Int) + 64) = (n : Int) + 64 := by rw [IntKind.wrap_i64]; omega
 have q2 : IntKind.i64.wrap ((n : Int) + 64 - 1) = ((n + 63 : Nat) : Int) := by rw [IntKind.wrap_i64]; omega
 have q3 : IntKind.i64.wrap (((n + 63 : Nat) : Int) / 64) = (((n + 63) / 64 : Nat) : Int) := by rw [IntKind.wrap_i64]; omega
 have hul : ((List.replicate ((n + 63) / 64) 0).map wcell).length = (n + 63) / 64 := by simp
 have hbl := bldSlab
 have HU := Lib.hid (And.intro hul (words_new n))
 generalize madeCells zItem (n * 51) = cur at *
 generalize hW : (n + 63) / 64 = W at *
 generalize hUU : ((List.replicate W 0).map wcell).toArray = U at *
 have HUU := Lib.hid hUU
 clear hUU
 generalize n + 63 = n63 at *
 have HC := Lib.hid (And.intro hcs (And.intro h1 h2))
 clear hi hz hz1 hz2 hi1 hzu hzu1 hzu2 hus hcs h1 h2 hul
 go_enter Tryz.func9, Tryz.ntmps9
 go_upto_region 3 with fail
 refine wp_pass (C := fun _ _ _ => False) (κ := fun i => [0, 3, 0, 0, 0, 0, 3, 0, 3, 0, 0].getD i 0) [0, 1, 2, 3, 4, 5, 6, 7, 8, 9, 10] (by kernel_rfl) (by kernel_rfl) (fun _ _ d _ _ h => by cases d <;> first | exact h | exact absurd h (hP _ _ _)) ?_
 (refine TD.val0 (v := ?v1) (by simp only [zK]; rfl) rfl (by rfl) (fun w1 => ?y1) ?n1; (case y1 => go_simp; try with_reducible rfl); try simp only [Act.put, zL])
 (refine TD.mks (by simp only [zK]; rfl) rfl (by rfl) rfl rfl ?hx2 ?hz2 hmk (fun p11 hp11 => ?n2); (case hx2 => simp only [Act.eval, zM]; try rfl); (case hz2 => simp only [Act.eval, zM]; try rfl); try simp only [Act.put, zL])
 (refine TD.val0 (v := ?v3) (by simp only [zK]; rfl) rfl (by rfl) (fun w1 => ?y3) ?n3; (case y3 => go_simp; try with_reducible rfl); try simp only [Act.put, zL])
 (refine TD.val0 (v := ?v4) (by simp only [zK]; rfl) rfl (by rfl) (fun w1 => ?y4) ?n4; (case y4 => go_simp; try with_reducible rfl); try simp only [Act.put, zL])
 (refine TD.val0 (v := ?v5) (by simp only [zK]; rfl) rfl (by rfl) (fun w1 => ?y5) ?n5; (case y5 => go_simp; try with_reducible rfl); try simp only [Act.put, zL])
 (refine TD.val0 (v := ?v6) (by simp only [zK]; rfl) rfl (by rfl) (fun w1 => ?y6) ?n6; (case y6 => go_simp; try with_reducible rfl); try simp only [Act.put, zL])
 (refine TD.mks (by simp only [zK]; rfl) rfl (by rfl) rfl rfl ?hx7 ?hz7 hmk2 (fun p16 hp16 => ?n7); (case hx7 => simp only [Act.eval, zM]; try rfl); (case hz7 => simp only [Act.eval, zM]; try rfl); try simp only [Act.put, zL])
 obtain ⟨ne_p16_p11, hp16⟩ := Bx.set_none hp16
 (refine TD.build (v := ?v8) (ps := ?p8) (by simp only [zK]; rfl) rfl (by rfl) rfl ?hx8 (fun w1 => ?y8) ?n8; (case hx8 => (simp only [List.map_toArray, List.map_cons, List.map_nil, Act.eval, zM]; (try rfl))); (case y8 => (rw [hbl]; (try with_reducible rfl))); try simp only [Act.put, zL])
 (refine TD.box (v := ?v9) (by simp only [zK]; rfl) rfl (by rfl) rfl rfl ?hx9 (fun p18 hp18 => ?n9); (case hx9 => simp only [Act.eval, zM]; try rfl); try simp only [Act.put, zL])
 obtain ⟨ne_p18_p16, hp18⟩ := Bx.set_none hp18
 obtain ⟨ne_p18_p11, hp18⟩ := Bx.set_none hp18
 (refine TD.val0 (v := ?v10) (by simp only [zK]; rfl) rfl (by rfl) (fun w1 => ?y10) ?n10; (case y10 => go_simp; try with_reducible rfl); try simp only [Act.put, zL])
 (refine TD.val0 (v := ?v11) (by simp only [zK]; rfl) rfl (by rfl) (fun w1 => ?y11) ?n11; (case y11 => go_simp; try with_reducible rfl); try simp only [Act.put, zL])
 refine TD.nil (fun w1 hr => ?_)
 have kp11 := hr.box p11 _ (by first | exact Bx.set_same _ _ _ | (simp only [Bx.set_ne _ (Ne.symm ne_p16_p11), Bx.set_ne _ (Ne.symm ne_p18_p11), Bx.set_ne _ (Ne.symm ne_p18_p16), Bx.set_ne _ ne_p16_p11, Bx.set_ne _ ne_p18_p11, Bx.set_ne _ ne_p18_p16, Bx.set_same]; rfl)); dsimp only [Value.cells] at kp11; obtain ⟨gp11, kp11⟩ := kp11
 have kp16 := hr.box p16 _ (by first | exact Bx.set_same _ _ _ | (simp only [Bx.set_ne _ (Ne.symm ne_p16_p11), Bx.set_ne _ (Ne.symm ne_p18_p11), Bx.set_ne _ (Ne.symm ne_p18_p16), Bx.set_ne _ ne_p16_p11, Bx.set_ne _ ne_p18_p11, Bx.set_ne _ ne_p18_p16, Bx.set_same]; rfl)); dsimp only [Value.cells] at kp16; obtain ⟨gp16, kp16⟩ := kp16
 have kp18 := hr.box p18 _ (by first | exact Bx.set_same _ _ _ | (simp only [Bx.set_ne _ (Ne.symm ne_p16_p11), Bx.set_ne _ (Ne.symm ne_p18_p11), Bx.set_ne _ (Ne.symm ne_p18_p16), Bx.set_ne _ ne_p16_p11, Bx.set_ne _ ne_p18_p11, Bx.set_ne _ ne_p18_p16, Bx.set_same]; rfl)); dsimp only [Value.cells] at kp18; obtain ⟨gp18, kp18⟩ := kp18
 have mm := hr.mod
 clear hr hmk hmk2 hbl
 go_wp2_with fail
 refine bodyPost_ret (results_tmp2 rfl _ _ _) rfl ⟨p18, p11, p16, cur, List.replicate W 0, rfl, ?_, by omega, by omega, by omega, mm⟩
 have hcnt : (List.replicate n (none : Option ItR)).countP Option.isSome = 0 := by rw [List.countP_eq_zero]; intro a ha; rw [(List.mem_replicate.1 ha).2]; simp
 refine ⟨?_, kp11, ⟨by rw [List.length_replicate]; exact HC.out.1, fun i y hy => ?_⟩, ?_, HU.out.2, by rw [List.length_replicate]; exact HC.out.2⟩
 ·rw [List.length_replicate, List.length_replicate, hcnt]
  exact kp18
 ·obtain ⟨_, e⟩ := List.getElem?_eq_some_iff.1 hy
  rw [List.getElem_replicate] at e
  cases e
 ·rw [HUU.out]
  exact kp16
end Go.Proofs.YtdeghpmlhcaedaaGreatDoor
namespace Go.Proofs.YtdeghpmlhcaedaaGreatDoor
open Go.RowKit Go.Sort
open Go.ChangeMaps (setBlock)
def HH (w0 : World) (h : Nat) (C : List Nd) (ws : World) : Prop := ∃ T, HAt h C T ws ∧ (∀ i, T i → w0.heap.size ≤ i ∧ i < ws.heap.size) ∧ Mod (fun _ => False) w0 ws
section
variable {w0 w1 w2 ws : World} {h : Nat} {C C' : List Nd}
theorem HH.from (H : HH w1 h C w2) (hm : Mod (fun _ => False) w0 w1) : HH w0 h C w2 := by
 obtain ⟨T, hA, hT, m⟩ := H
 exact ⟨T, hA, fun i hi => ⟨Nat.le_trans hm.size (hT i hi).1, (hT i hi).2⟩, hm.then0 m⟩
theorem HH.new (w : World) : Calls Tryz.prog 10 #[] w fun e w' => ∃ h, e = .returned (ptrV h) ∧ HH w h [] w' :=
 (new_c w).mono fun e w' H => by
  obtain ⟨h, he, T, hA, hm, hT⟩ := H
  exact ⟨h, he, T, hA, hT, hm⟩
theorem HH.push (H : HH w0 h C ws) (r : Rk) (id : Int64) {n : Int} (hn : n = id.toInt) (hC : C.length ≤ 700000) (hid : ∀ x ∈ C, x.id ≠ id) : Calls Tryz.prog 43 #[ptrV h, .agg (rkc r), .int .i64 n] ws fun e w' => e = .returned (.int .i64 0) ∧ HH w0 h (C ++ [⟨r, id⟩]) w' := by
 obtain ⟨T, hA, hT, m⟩ := H
 subst hn
 refine (pushH_c hA (fun i hi => (hT i hi).2) r id hC hid).mono ?_
 rintro e w' ⟨he, T', hA', hm, h1, h2⟩
 refine ⟨he, T', hA', fun i hi => ⟨?_, h2 i hi⟩, m.then hm (fun i hi e => by have := (hT i e).1; omega)⟩
 rcases h1 i hi with h | h
 ·exact (hT i h).1
 ·exact Nat.le_trans m.size h
end
end Go.Proofs.YtdeghpmlhcaedaaGreatDoor
namespace Go.Proofs.YtdeghpmlhcaedaaGreatDoor
open Go.RowKit
open Go.ChangeMaps (setBlock)
attribute [local go_sem ↓] wlItem ldItem stItem wlRk ldRk stRk eqRk eqRk2
attribute [local go_sem] cell_blk frozen_blk one_int one_bool one_ptr one_slice one_map Value.cells rkc_size rkc_all1 itr_size itr_all itr_one itr_one' itr_n itr_prio itr_pl itr_sent itr_n' itr_prio' itr_pl' itr_sent' itr_r zItem_size zItem_all zItem_one
def ItR.con (y : ItR) : It := ⟨y.n, y.r.con, y.pl.toNat, y.sent⟩
def conS (R : List (Option ItR)) : List (Option It) := R.map (Option.map ItR.con)
structure Bf (w : World) (b s h : Nat) (R : List (Option ItR)) (C : List Nd) (Ts Th Tr : Nat → Prop) : Prop where
 kb : w.heap[b]? = some (.cells #[ptrV s, ptrV h] 66 (0, 0))
 sat : SAt s R Ts w
 hat : HAt h C Th w
 rd : ∀ (i : Nat) y, R[i]? = some (some y) → RdOk w y.r ∧ RdIn Tr y.r ∧ RdSm y.r.con
 dsh : ∀ i, Ts i → ¬ Th i
 drs : ∀ i, Tr i → ¬ Ts i
 drh : ∀ i, Tr i → ¬ Th i
 db : ¬ Ts b ∧ ¬ Th b ∧ ¬ Tr b
section
variable {w w' : World} {b s h : Nat} {R R' : List (Option ItR)} {C C' : List Nd} {Ts Th Tr Th' Tr' : Nat → Prop}
theorem Bf.mod0 (H : Bf w b s h R C Ts Th Tr) (hm : Mod (fun _ => False) w w') : Bf w' b s h R C Ts Th Tr :=
 ⟨hm.at0 H.kb, (SAt.good s R).cl Ts w w' H.sat (hm.mono (fun _ _ e => e.elim)), (HAt.good h C).cl Th w w' H.hat (hm.mono (fun _ _ e => e.elim)), fun i y hy => ⟨(H.rd i y hy).1.mod0 hm, (H.rd i y hy).2⟩, H.dsh, H.drs, H.drh, H.db⟩
theorem Bf.stepH (H : Bf w b s h R C Ts Th Tr) (hlt : ∀ i, Ts i ∨ Tr i ∨ i = b → i < w.heap.size) (hA : HAt h C' Th' w') (hm : Mod Th w w') (hT : ∀ i, Th' i → Th i ∨ w.heap.size ≤ i) : Bf w' b s h R C' Ts Th' Tr := by
 refine ⟨hm.at H.kb H.db.2.1, (SAt.good s R).cl Ts w w' H.sat (hm.mono (fun i _ e k => H.dsh i k e)), hA, fun i y hy => ⟨(H.rd i y hy).1.mod hm (H.rd i y hy).2.1 (fun j hj => H.drh j hj), (H.rd i y hy).2⟩, fun i hi e => ?_, H.drs, fun i hi e => ?_, H.db.1, fun e => ?_, H.db.2.2⟩
 ·rcases hT i e with h | h
  ·exact H.dsh i hi h
  ·have := hlt i (.inl hi); omega
 ·rcases hT i e with h | h
  ·exact H.drh i hi h
  ·have := hlt i (.inr (.inl hi)); omega
 ·rcases hT b e with h | h
  ·exact H.db.2.1 h
  ·have := hlt b (.inr (.inr rfl)); omega
theorem Bf.stepS (H : Bf w b s h R C Ts Th Tr) (hA : SAt s R' Ts w') (hm : Mod Ts w w') (hrd : ∀ (i : Nat) y, R'[i]? = some (some y) → R[i]? = some (some y) ∨ (RdOk w y.r ∧ RdIn Tr y.r ∧ RdSm y.r.con)) : Bf w' b s h R' C Ts Th Tr := by
 refine ⟨hm.at H.kb H.db.1, hA, (HAt.good h C).cl Th w w' H.hat (hm.mono (fun i _ e k => H.dsh i e k)), fun i y hy => ?_, H.dsh, H.drs, H.drh, H.db⟩
 have h1 : RdOk w y.r ∧ RdIn Tr y.r ∧ RdSm y.r.con := by
  rcases hrd i y hy with h | h
  ·exact H.rd i y h
  ·exact h
 exact ⟨h1.1.mod hm h1.2.1 (fun j hj => H.drs j hj), h1.2⟩
theorem Bf.more (H : Bf w b s h R C Ts Th Tr) (hT : ∀ i, Tr i → Tr' i) (h1 : ∀ i, Tr' i → ¬ Ts i) (h2 : ∀ i, Tr' i → ¬ Th i) (h3 : ¬ Tr' b) : Bf w b s h R C Ts Th Tr' :=
 ⟨H.kb, H.sat, H.hat, fun i y hy => ⟨(H.rd i y hy).1, (H.rd i y hy).2.1.mono hT, (H.rd i y hy).2.2⟩, H.dsh, h1, h2, H.db.1, H.db.2.1, h3⟩
end
def BH (w0 : World) (O : Nat → Prop) (b : Nat) (S : List (Option It)) (ws : World) : Prop := ∃ s h R C Ts Th Tr, Bf ws b s h R C Ts Th Tr ∧ S = conS R ∧ C.Perm (wtg 0 S) ∧ (∀ i, Ts i ∨ Th i ∨ Tr i ∨ i = b → (O i ∨ w0.heap.size ≤ i) ∧ i < ws.heap.size) ∧ Mod O w0 ws
section
variable {w0 w1 w2 ws : World} {O : Nat → Prop} {b : Nat} {S : List (Option It)}
theorem BH.mod0 (H : BH w0 O b S w1) (hm : Mod (fun _ => False) w1 w2) : BH w0 O b S w2 := by
 obtain ⟨s, h, R, C, Ts, Th, Tr, HB, hS, hp, hT, m⟩ := H
 exact ⟨s, h, R, C, Ts, Th, Tr, HB.mod0 hm, hS, hp, fun i hi => ⟨(hT i hi).1, Nat.lt_of_lt_of_le (hT i hi).2 hm.size⟩, m.then0 hm⟩
theorem BH.from (H : BH w1 O b S w2) (hm : Mod (fun _ => False) w0 w1) : BH w0 O b S w2 := by
 obtain ⟨s, h, R, C, Ts, Th, Tr, HB, hS, hp, hT, m⟩ := H
 exact ⟨s, h, R, C, Ts, Th, Tr, HB, hS, hp, fun i hi => ⟨(hT i hi).1.imp_right (Nat.le_trans hm.size), (hT i hi).2⟩, (hm.mono (fun _ _ h => h.elim)).then m (fun _ _ h => h)⟩
def BT (b : Nat) (S : List (Option It)) (T : Nat → Prop) (w : World) : Prop := ∃ s h R C Ts Th Tr, Bf w b s h R C Ts Th Tr ∧ S = conS R ∧ C.Perm (wtg 0 S) ∧ (∀ i, Ts i ∨ Th i ∨ Tr i ∨ i = b → T i ∧ i ≠ 0 ∧ i < w.heap.size)
theorem BT.pos {T : Nat → Prop} {w : World} (H : BT b S T w) : 0 < w.heap.size := by
 obtain ⟨s, h, R, C, Ts, Th, Tr, HB, hS, hp, hT⟩ := H
 have := lt_size HB.kb
 omega
theorem SAt.len {s : Nat} {R : List (Option ItR)} {T : Nat → Prop} {w : World} (h : SAt s R T w) : 1 ≤ R.length ∧ R.length ≤ 4096 := by
 obtain ⟨g, u, cur, us, H, _⟩ := h
 exact H.len
theorem BH.len (H : BH w0 O b S w1) : 1 ≤ S.length ∧ S.length ≤ 4096 := by
 obtain ⟨s, h, R, C, Ts, Th, Tr, HB, rfl, hp, hT, m⟩ := H
 simpa [conS] using HB.sat.len
end
theorem con_at {R : List (Option ItR)} {i : Nat} {x : It} (h : (conS R)[i]? = some (some x)) : ∃ y, R[i]? = some (some y) ∧ y.con = x := by
 unfold conS at h
 rw [List.getElem?_map] at h
 cases hR : R[i]? with
 | none => rw [hR] at h; cases h
 | some o =>
  rw [hR] at h
  cases o with
  | none => cases h
  | some y => exact ⟨y, rfl, by simpa using h⟩
theorem con_none {R : List (Option ItR)} {i : Nat} (h : (conS R)[i]? = some none) : R[i]? = some none := by
 unfold conS at h
 rw [List.getElem?_map] at h
 cases hR : R[i]? with
 | none => rw [hR] at h; cases h
 | some o =>
  rw [hR] at h
  cases o with
  | none => rfl
  | some y => cases h
theorem con_set {R : List (Option ItR)} {i : Nat} {y : ItR} : conS (R.set i (some y)) = (conS R).set i (some y.con) := by
 unfold conS
 rw [List.map_set]
 rfl
theorem con_setN {R : List (Option ItR)} {i : Nat} : conS (R.set i none) = (conS R).set i none := by
 unfold conS
 rw [List.map_set]
 rfl
set_option maxRecDepth 20000 in
theorem bthere_c {w : World} {b s h : Nat} (kb : w.heap[b]? = some (.cells #[ptrV s, ptrV h] 66 (0, 0))) : Calls Tryz.prog 35 #[ptrV b] w fun e w' => e = .returned (.bool true) ∧ w' = w := by
 go_enter Tryz.func35, Tryz.ntmps35
 go_wp2_with fail
 go_ret
 exact ⟨rfl, rfl⟩
def ItR.rk (y : ItR) : Rk := ⟨y.r.prio, y.n⟩
set_option maxRecDepth 20000 in
set_option maxHeartbeats 1600000 in
theorem irank_c (y : ItR) (w : World) : Calls Tryz.prog 40 #[.agg (itr y)] w fun e w' => e = .returned (.agg (rkc y.rk)) ∧ Mod (fun _ => False) w w' := by
 have hb0 : ∀ w, (Instr.build 109 #[(0, u64v y.r.prio), (1, u64v y.n)]).run Tryz.prog w = .ok (.agg (rkc y.rk)) w := fun w => by kernel_rfl
 go_enter Tryz.func40, Tryz.ntmps40
 go_upto_region 0 with fail
 refine wp_pass0 (C := fun _ _ _ => False) (κ := fun i => [3, 3].getD i 0) [0, 1] (by kernel_rfl) (by kernel_rfl) (fun _ _ d _ _ h => by cases d <;> first | exact h | exact absurd h (hP _ _ _)) ?_
 (refine TD.box (v := ?v1) (by simp only [zK]; rfl) rfl (by rfl) rfl rfl ?hx1 (fun p1 hp1 => ?n1); (case hx1 => simp only [Act.eval, zM]; try rfl); try simp only [Act.put, zL])
 (refine TD.allocB (by simp only [zK]; rfl) rfl (by rfl) rfl rfl alRk (fun p2 hp2 => ?n2); try simp only [Act.put, zL])
 obtain ⟨ne_p2_p1, hp2⟩ := Bx.set_none hp2
 refine TD.nil (fun w1 hr => ?_)
 have kp1 := hr.box p1 _ (by first | exact Bx.set_same _ _ _ | (simp only [Bx.set_ne _ (Ne.symm ne_p2_p1), Bx.set_ne _ ne_p2_p1, Bx.set_same]; rfl)); dsimp only [Value.cells] at kp1; obtain ⟨gp1, kp1⟩ := kp1
 have kp2 := hr.box p2 _ (by first | exact Bx.set_same _ _ _ | (simp only [Bx.set_ne _ (Ne.symm ne_p2_p1), Bx.set_ne _ ne_p2_p1, Bx.set_same]; rfl)); dsimp only [Value.cells] at kp2; obtain ⟨gp2, kp2⟩ := kp2
 have m1 := hr.mod
 clear hr
 replace kp2 : w1.heap[p2]? = some (.cells #[.int .u64 0, .int .u64 0] 109 (0, 0)) := kp2
 go_upto_region 1 with fail
 have Lkp1 := lt_size kp1
 have Lkp2 := lt_size kp2
 refine wp_pass0 (C := fun _ _ _ => False) (κ := fun i => [0, 0, 1, 0, 1, 0, 5].getD i 0) [0, 1, 2, 3, 4, 5, 6] (by kernel_rfl) (by kernel_rfl) (fun _ _ d _ _ h => by cases d <;> first | exact h | exact absurd h (hP _ _ _)) ?_
 (refine TD.val0 (v := ?v3) (by simp only [zK]; rfl) rfl (by rfl) (fun w1 => ?y3) ?n3; (case y3 => go_simp; try with_reducible rfl); try simp only [Act.put, zL])
 (refine TD.val0 (v := ?v4) (by simp only [zK]; rfl) rfl (by rfl) (fun w1 => ?y4) ?n4; (case y4 => go_simp; try with_reducible rfl); try simp only [Act.put, zL])
 (refine TD.load (v := ?v5) (p := ?p5) (Mod.refl _ _) (by simp only [zK]; rfl) rfl (by rfl) rfl ?hx5 (fun wq hSq => ?y5) ?n5; (case hx5 => simp only [Act.eval, zM]; try rfl); (case y5 => (have kp1q := hSq.at kp1 (fun h => h); have kp2q := hSq.at kp2 (fun h => h); go_simp; (try with_reducible rfl))); try simp only [Act.put, zL])
 (refine TD.val0 (v := ?v6) (by simp only [zK]; rfl) rfl (by rfl) (fun w1 => ?y6) ?n6; (case y6 => go_simp; try with_reducible rfl); try simp only [Act.put, zL])
 (refine TD.load (v := ?v7) (p := ?p7) (Mod.refl _ _) (by simp only [zK]; rfl) rfl (by rfl) rfl ?hx7 (fun wq hSq => ?y7) ?n7; (case hx7 => simp only [Act.eval, zM]; try rfl); (case y7 => (have kp1q := hSq.at kp1 (fun h => h); have kp2q := hSq.at kp2 (fun h => h); go_simp; (try with_reducible rfl))); try simp only [Act.put, zL])
 (refine TD.build (v := ?v8) (ps := ?p8) (by simp only [zK]; rfl) rfl (by rfl) rfl ?hx8 (fun w1 => ?y8) ?n8; (case hx8 => (simp only [List.map_toArray, List.map_cons, List.map_nil, Act.eval, zM]; (try rfl))); (case y8 => (rw [hb0]; (try with_reducible rfl))); try simp only [Act.put, zL])
 refine TD.eff (by simp only [zK]; rfl) rfl (fun w2 hr => ?_)
 have kp1 := hr.mod.at kp1 (fun h => h)
 have kp2 := hr.mod.at kp2 (fun h => h)
 have m2 := m1.then0 hr.mod
 clear hr
 (refine eff_store (X := ?X10) (Y := ?Y10) (w' := ?w10) (by simp only [zK]; rfl) (by rfl) rfl ?hx10 ?hz10 ?y10 ?n10; (case hx10 => simp only [Act.eval, zM]; try rfl); (case hz10 => simp only [Act.eval, zM]; try rfl); (case y10 => go_simp; try with_reducible rfl))
 (first | refine TE.nil_set kp2 (fun wn kp2 mS => ?_) | refine TE.nil_setCell kp2 (fun wn kp2 mS => ?_))
 (try simp only [Array.setIfInBounds, zL] at kp2)
 have m3 := m2.thenB mS (.inl gp2)
 clear mS
 go_wp2_with fail
 exact bodyPost_ret (results_cell1 (v := .agg (rkc y.rk)) rfl rfl (by rw [ldRk]; simp [kp2, rkc])) rfl ⟨rfl, m3⟩
section
variable {w w' : World} {b s h : Nat} {R R' : List (Option ItR)} {C C' : List Nd} {Ts Th Tr Th' Tr' : Nat → Prop}
theorem sget_c (hs : SAt s R Ts w) {i : Nat} {y : ItR} (hy : R[i]? = some (some y)) : Calls Tryz.prog 52 #[ptrV s, .int .i64 (i : Int)] w fun e w' => e = .returned (.tuple #[.agg (itr y), .int .i64 0]) ∧ Mod (fun _ => False) w w' := by
 obtain ⟨g, u, cur, us, H, _⟩ := hs
 exact getY_c H hy
theorem sgetN_c (hs : SAt s R Ts w) {n : Int} (hn : Away R n) : Calls Tryz.prog 52 #[ptrV s, .int .i64 n] w fun e w' => e = .returned (.tuple #[.agg zItem, .int .i64 11]) ∧ Mod (fun _ => False) w w' := by
 obtain ⟨g, u, cur, us, H, _⟩ := hs
 exact getN_c H hn
theorem sset_c (hs : SAt s R Ts w) {i : Nat} {y : ItR} (hy : R[i]? = some (some y)) (z : ItR) : Calls Tryz.prog 57 #[ptrV s, .int .i64 (i : Int), .agg (itr z)] w fun e w' => e = .returned (.int .i64 0) ∧ SAt s (R.set i (some z)) Ts w' ∧ Mod Ts w w' := by
 obtain ⟨g, u, cur, us, H, h1, h2, h3⟩ := hs
 refine (setY_c H hy z).mono ?_
 rintro e w' ⟨he, cur', H', hm⟩
 exact ⟨he, ⟨g, u, cur', us, H', h1, h2, h3⟩, hm.mono (fun i _ e => by subst e; exact h2)⟩
theorem sfree_c (hs : SAt s R Ts w) {i : Nat} {y : ItR} (hy : R[i]? = some (some y)) : Calls Tryz.prog 42 #[ptrV s, .int .i64 (i : Int)] w fun e w' => e = .returned (.int .i64 0) ∧ SAt s (R.set i none) Ts w' ∧ Mod Ts w w' := by
 obtain ⟨g, u, cur, us, H, h1, h2, h3⟩ := hs
 refine (freeY_c H hy).mono ?_
 rintro e w' ⟨he, cur', us', H', hm⟩
 exact ⟨he, ⟨g, u, cur', us', H', h1, h2, h3⟩, hm.mono (fun i _ e => by rcases e with e | e | e <;> subst e <;> assumption)⟩
theorem sput_c (hs : SAt s R Ts w) (hw : TabW w) (hf : R.countP Option.isSome ≠ R.length) (y : ItR) : Calls Tryz.prog 37 #[ptrV s, .agg (itr y)] w fun e w' => ∃ n : Nat, FreeAt R n ∧ e = .returned (.tuple #[.int .i64 (n : Int), .int .i64 0]) ∧ SAt s (R.set n (some y)) Ts w' ∧ Mod Ts w w' := by
 obtain ⟨g, u, cur, us, H, h1, h2, h3⟩ := hs
 refine (putY_c H hw hf y).mono ?_
 rintro e w' ⟨n, hn, he, cur', us', H', hm⟩
 exact ⟨n, hn, he, ⟨g, u, cur', us', H', h1, h2, h3⟩, hm.mono (fun i _ e => by rcases e with e | e | e <;> subst e <;> assumption)⟩
theorem sputN_c (hs : SAt s R Ts w) (hf : R.countP Option.isSome = R.length) (y : ItR) : Calls Tryz.prog 37 #[ptrV s, .agg (itr y)] w fun e w' => e = .returned (.tuple #[.int .i64 0, .int .i64 3]) ∧ Mod (fun _ => False) w w' := by
 obtain ⟨g, u, cur, us, H, h1, h2, h3⟩ := hs
 exact putN_c H hf y
end
end Go.Proofs.YtdeghpmlhcaedaaGreatDoor
namespace Go.Proofs.YtdeghpmlhcaedaaGreatDoor
open Go.RowKit
open Go.ChangeMaps (setBlock)
attribute [local go_sem ↓] wlItem ldItem stItem wlRk ldRk stRk eqRk eqRk2
attribute [local go_sem] cell_blk frozen_blk one_int one_bool one_ptr one_slice one_map Value.cells rkc_size rkc_all1 itr_size itr_all itr_one itr_one' itr_n itr_prio itr_pl itr_sent itr_n' itr_prio' itr_pl' itr_sent' itr_r zItem_size zItem_all zItem_one
theorem u8_zero {p : UInt8} (h : p = 0) : ((p.toNat : Int) == 0) = true := by subst h; rfl
theorem u8_nz {p : UInt8} (h : p ≠ 0) : ((p.toNat : Int) == 0) = false := by
 rw [beq_eq_false_iff_ne]
 intro e
 exact h (UInt8.toNat_inj.1 (by simpa using e))
theorem nodeOf_nz {i : Nat} {x : It} (h : x.pl ≠ 0) : nodeOf i (some x) = [] := by simp [nodeOf, h]
theorem conS_len (R : List (Option ItR)) : (conS R).length = R.length := by simp [conS]
theorem wtgo_len {i : Nat} {S : List (Option It)} : (wtgo i S).length ≤ S.length := by
 unfold wtgo
 rw [List.length_append]
 have h1 := wtg_len (S := S.take i) (k := 0)
 have h2 := wtg_len (S := S.drop (i + 1)) (k := i + 1)
 rw [List.length_take] at h1
 rw [List.length_drop] at h2
 omega
structure Mid (w0 : World) (O : Nat → Prop) (b p i : Nat) (R : List (Option ItR)) (s h : Nat) (C : List Nd) (Ts Th Tr : Nat → Prop) (w : World) : Prop where
 bf : Bf w b s h R C Ts Th Tr
 perm : C.Perm (wtgo i (conS R))
 lt : ∀ j, Ts j ∨ Th j ∨ Tr j ∨ j = b → (O j ∨ w0.heap.size ≤ j) ∧ j < w.heap.size
 m : Mod O w0 w
 box : ¬ Ts p ∧ ¬ Th p ∧ ¬ Tr p ∧ b ≠ p ∧ w0.heap.size ≤ p
section
variable {w0 w w' : World} {O : Nat → Prop} {b p i s h : Nat} {R : List (Option ItR)} {C : List Nd} {Ts Th Tr : Nat → Prop}
theorem Mid.mod0 (M : Mid w0 O b p i R s h C Ts Th Tr w) (hm : Mod (fun _ => False) w w') : Mid w0 O b p i R s h C Ts Th Tr w' :=
 ⟨M.bf.mod0 hm, M.perm, fun j hj => ⟨(M.lt j hj).1, Nat.lt_of_lt_of_le (M.lt j hj).2 hm.size⟩, M.m.then0 hm, M.box⟩
theorem Mid.setP (M : Mid w0 O b p i R s h C Ts Th Tr w) (hm : Mod (fun j => j = p) w w') : Mid w0 O b p i R s h C Ts Th Tr w' := by
 have H := M.bf
 obtain ⟨b1, b2, b3, b4, b5⟩ := M.box
 refine ⟨⟨hm.at H.kb b4, (SAt.good s R).cl Ts w w' H.sat (hm.mono (fun j _ e k => b1 (e ▸ k))), (HAt.good h C).cl Th w w' H.hat (hm.mono (fun j _ e k => b2 (e ▸ k))), fun k y hy => ⟨(H.rd k y hy).1.mod hm (H.rd k y hy).2.1 (fun j hj e => b3 (e ▸ hj)), (H.rd k y hy).2⟩, H.dsh, H.drs, H.drh, H.db⟩, M.perm, fun j hj => ⟨(M.lt j hj).1, Nat.lt_of_lt_of_le (M.lt j hj).2 hm.size⟩, M.m.thenB hm (.inl b5), M.box⟩
theorem Mid.small (M : Mid w0 O b p i R s h C Ts Th Tr w) : C.length ≤ 700000 := by
 have h1 := M.perm.length_eq
 have h2 := wtgo_len (i := i) (S := conS R)
 rw [conS_len] at h2
 have := M.bf.sat.len.2
 omega
theorem Mid.ids (M : Mid w0 O b p i R s h C Ts Th Tr w) (hi : i < R.length) : ∀ z ∈ C, z.id ≠ idn i := fun z hz => by
 have := M.bf.sat.len.2
 exact wtgo_id (by rw [conS_len]; omega) (M.perm.mem_iff.1 hz) (by rw [conS_len]; exact hi)
end
theorem fin_set {w0 w : World} {O : Nat → Prop} {b s h i : Nat} {R : List (Option ItR)} {C : List Nd} {Ts Th Tr : Nat → Prop} (H : Bf w b s h R C Ts Th Tr) (hlt : ∀ j, Ts j ∨ Th j ∨ Tr j ∨ j = b → (O j ∨ w0.heap.size ≤ j) ∧ j < w.heap.size) (m : Mod O w0 w) {y : ItR} (hy : R[i]? = some (some y)) (z : ItR) (hz : z.r = y.r)
  (hp : C.Perm (wtg 0 ((conS R).set i (some z.con)))) : Calls Tryz.prog 57 #[ptrV s, .int .i64 (i : Int), .agg (itr z)] w fun e w' => e = .returned (.int .i64 0) ∧ BH w0 O b ((conS R).set i (some z.con)) w' := by
 refine (sset_c H.sat hy z).mono ?_
 rintro e w' ⟨he, hs, hm⟩
 refine ⟨he, s, h, R.set i (some z), C, Ts, Th, Tr, H.stepS hs hm (fun k y' hy' => ?_), con_set.symm, hp, fun j hj => ⟨(hlt j hj).1, Nat.lt_of_lt_of_le (hlt j hj).2 hm.size⟩, m.then hm (fun j hj e => (hlt j (.inl e)).1.resolve_right (by omega))⟩
 by_cases hk : k = i
 ·subst hk
  rw [List.getElem?_set_self (List.getElem?_eq_some_iff.1 hy).1] at hy'
  cases hy'
  refine .inr ?_
  rw [hz]
  exact H.rd k y hy
 ·rw [List.getElem?_set_ne (fun e => hk e.symm)] at hy'
  exact .inl hy'
set_option maxRecDepth 20000 in
set_option maxHeartbeats 6400000 in
theorem turn_c {w0 ws : World} {O : Nat → Prop} {b : Nat} {S : List (Option It)} (H : BH w0 O b S ws) {i : Nat} {x : It} (hx : S[i]? = some (some x)) (p : UInt8) : Calls Tryz.prog 45 #[ptrV b, .int .i64 (i : Int), .int .u8 (p.toNat : Int)] ws fun e w' => e = .returned (.tuple #[]) ∧ BH w0 O b (S.set i (some { x with pl := p.toNat })) w' := by
 have hlen := H.len
 obtain ⟨s, h, R, C, Ts, Th, Tr, HB, rfl, hperm, hT, m⟩ := H
 obtain ⟨y, hy, rfl⟩ := con_at hx
 have kb := HB.kb
 have HH := Lib.hid (And.intro HB (And.intro hperm (And.intro hT (And.intro m (And.intro hx hy)))))
 have HLEN : Hid (i < R.length ∧ R.length ≤ 4096) := Lib.hid ⟨(List.getElem?_eq_some_iff.1 hy).1, by rw [conS_len] at hlen; exact hlen.2⟩
 clear HB hperm hT m hx hy hlen
 go_enter Tryz.func45, Tryz.ntmps45
 go_upto_region 0 with fail
 have Lkb := lt_size kb
 refine wp_pass0 (C := fun _ _ v => v = .tuple #[.agg (itr y), .int .i64 0]) (κ := fun i => [0, 0, 0, 0, 1, 0, 2, 0, 0, 0, 3, 4, 0].getD i 0) [0, 1, 2, 3, 4, 5, 6, 7, 8, 9, 10, 11, 12] (by kernel_rfl) (by kernel_rfl) (fun _ _ d _ _ h => by cases d <;> first | exact h | exact absurd h (hP _ _ _)) ?_
 (refine TD.val0 (v := ?v1) (by simp only [zK]; rfl) rfl (by rfl) (fun w1 => ?y1) ?n1; (case y1 => go_simp; try with_reducible rfl); try simp only [Act.put, zL])
 (refine TD.val0 (v := ?v2) (by simp only [zK]; rfl) rfl (by rfl) (fun w1 => ?y2) ?n2; (case y2 => go_simp; try with_reducible rfl); try simp only [Act.put, zL])
 (refine TD.val0 (v := ?v3) (by simp only [zK]; rfl) rfl (by rfl) (fun w1 => ?y3) ?n3; (case y3 => go_simp; try with_reducible rfl); try simp only [Act.put, zL])
 (refine TD.val0 (v := ?v4) (by simp only [zK]; rfl) rfl (by rfl) (fun w1 => ?y4) ?n4; (case y4 => go_simp; try with_reducible rfl); try simp only [Act.put, zL])
 (refine TD.load (v := ?v5) (p := ?p5) (Mod.refl _ _) (by simp only [zK]; rfl) rfl (by rfl) rfl ?hx5 (fun wq hSq => ?y5) ?n5; (case hx5 => simp only [Act.eval, zM]; try rfl); (case y5 => (have kbq := hSq.at kb (fun h => h); go_simp; (try with_reducible rfl))); try simp only [Act.put, zL])
 (refine TD.val0 (v := ?v6) (by simp only [zK]; rfl) rfl (by rfl) (fun w1 => ?y6) ?n6; (case y6 => go_simp; try with_reducible rfl); try simp only [Act.put, zL])
 (refine TD.call (f := ?f7) (args := ?r7) (Mod.refl _ _) (by simp only [zK]; rfl) rfl (by rfl) (fun w1 => ?y7) ?hsp7 ?n7; (case y7 => (go_simp; (first | with_reducible rfl | (constructor <;> with_reducible rfl)))); (case hsp7 => (intro wq hSq; have kbq := hSq.at kb (fun h => h); exact (sget_c (HH.out.1.mod0 hSq).sat HH.out.2.2.2.2.2).mono (fun e w' h => ⟨_, h.1, rfl, h.2⟩))); rintro _ rfl; try simp only [Act.put, zL])
 (refine TD.val0 (v := ?v8) (by simp only [zK]; rfl) rfl (by rfl) (fun w1 => ?y8) ?n8; (case y8 => go_simp; try with_reducible rfl); try simp only [Act.put, zL])
 (refine TD.val0 (v := ?v9) (by simp only [zK]; rfl) rfl (by rfl) (fun w1 => ?y9) ?n9; (case y9 => go_simp; try with_reducible rfl); try simp only [Act.put, zL])
 (refine TD.val0 (v := ?v10) (by simp only [zK]; rfl) rfl (by rfl) (fun w1 => ?y10) ?n10; (case y10 => go_simp; try with_reducible rfl); try simp only [Act.put, zL])
 (refine TD.allocB (by simp only [zK]; rfl) rfl (by rfl) rfl rfl alItem (fun p6 hp6 => ?n11); try simp only [Act.put, zL])
 (refine TD.storeB (d := ?d12) (T := ?T12) (y := ?y12) (p := ?p12) (b := ?b12) (v := ?v12) (by simp only [zK]; rfl) rfl (by rfl) ?hd12 ?hop12 ?hev12 ?hx12 ?hb12 ?htag12 (fun w1 hb1 => ?hy12) ?hn12; (case hd12 => rfl); (case hop12 => rfl); (case hev12 => (simp only [Act.eval, zM]; (try rfl))); (case hx12 => simp only [Act.eval, zM]; try rfl); (case hb12 => first | exact Bx.set_same _ _ _ | (simp only [Bx.set_same]; rfl)); (case hy12 => (go_simp; (try first | with_reducible rfl | (rw [setCell_blk hb1]; rfl)))); try simp only [Act.put, zL])
 (refine TD.val0 (v := ?v13) (by simp only [zK]; rfl) rfl (by rfl) (fun w1 => ?y13) ?n13; (case y13 => go_simp; try with_reducible rfl); try simp only [Act.put, zL])
 refine TD.nil (fun w1 hr => ?_)
 have kb := hr.mod.at kb (fun h => h)
 have kp6 := hr.box p6 _ (by first | exact Bx.set_same _ _ _ | (simp only [Bx.set_same]; rfl)); dsimp only [Value.cells] at kp6; obtain ⟨gp6, kp6⟩ := kp6
 have m1 := hr.mod
 clear hr
 have hpb : b ≠ p6 := by omega
 have hbx : ∀ j, Ts j ∨ Th j ∨ Tr j ∨ j = b → j ≠ p6 := fun j hj e => by have := (HH.out.2.2.1 j hj).2; omega
 have HBX := Lib.hid hbx
 clear hbx
 by_cases hw : y.pl = 0
 ·have hwz := u8_zero hw
  have HW := Lib.hid hw
  clear hw
  go_upto_region 2 with fail
  have Lkb := lt_size kb
  have Lkp6 := lt_size kp6
  refine wp_pass0 (C := fun _ _ _ => False) (κ := fun i => [0, 0, 0, 0, 1, 0, 5].getD i 0) [0, 1, 2, 3, 4, 5, 6] (by kernel_rfl) (by kernel_rfl) (fun _ _ d _ _ h => by cases d <;> first | exact h | exact absurd h (hP _ _ _)) ?_
  (refine TD.val0 (v := ?v14) (by simp only [zK]; rfl) rfl (by rfl) (fun w1 => ?y14) ?n14; (case y14 => go_simp; try with_reducible rfl); try simp only [Act.put, zL])
  (refine TD.val0 (v := ?v15) (by simp only [zK]; rfl) rfl (by rfl) (fun w1 => ?y15) ?n15; (case y15 => go_simp; try with_reducible rfl); try simp only [Act.put, zL])
  (refine TD.val0 (v := ?v16) (by simp only [zK]; rfl) rfl (by rfl) (fun w1 => ?y16) ?n16; (case y16 => go_simp; try with_reducible rfl); try simp only [Act.put, zL])
  (refine TD.val0 (v := ?v17) (by simp only [zK]; rfl) rfl (by rfl) (fun w1 => ?y17) ?n17; (case y17 => go_simp; try with_reducible rfl); try simp only [Act.put, zL])
  (refine TD.load (v := ?v18) (p := ?p18) (Mod.refl _ _) (by simp only [zK]; rfl) rfl (by rfl) rfl ?hx18 (fun wq hSq => ?y18) ?n18; (case hx18 => simp only [Act.eval, zM]; try rfl); (case y18 => (have kbq := hSq.at kb (fun h => h); have kp6q := hSq.at kp6 (fun h => h); go_simp; (try with_reducible rfl))); try simp only [Act.put, zL])
  (refine TD.val0 (v := ?v19) (by simp only [zK]; rfl) rfl (by rfl) (fun w1 => ?y19) ?n19; (case y19 => go_simp; try with_reducible rfl); try simp only [Act.put, zL])
  refine TD.eff (by simp only [zK]; rfl) rfl (fun w2 hr => ?_)
  have kb := hr.mod.at kb (fun h => h)
  have kp6 := hr.mod.at kp6 (fun h => h)
  have m2 := m1.then0 hr.mod
  have hl2 : p6 < w2.heap.size := lt_size kp6
  clear hr
  have hcall : Calls Tryz.prog 41 #[ptrV h, .int .i64 (i : Int)] w2 fun e w' => e = .returned (.tuple #[.agg (rkc y.rk), .int .i64 0]) ∧ ∃ C1 Th1, Mid w0 O b p6 i R s h C1 Ts Th1 Tr w' ∧ w'.heap[p6]? = some (.cells (itr y) 60 (0, 0)) := by
   obtain ⟨HB, hperm, hT, m, hx, hy⟩ := HH.out
   have hidn : (idn i).toInt = (i : Int) := idn_toInt (by have := HLEN.out; omega)
   have hnm := node_mem hperm hx (by show y.pl.toNat = 0; rw [HW.out]; rfl)
   have hC : C.length ≤ 700000 := by
    rw [hperm.length_eq]
    have := wtg_len (S := conS R) (k := 0)
    rw [conS_len] at this
    have := HLEN.out
    omega
   have HB2 := HB.mod0 m2
   have hc := dropH_c HB2.hat (fun j hj => Nat.lt_of_lt_of_le (hT j (.inr (.inl hj))).2 m2.size) (idn i) hC ⟨_, hnm, rfl⟩
   rw [hidn] at hc
   refine hc.mono ?_
   rintro e w' ⟨⟨z, hz, hzi, he⟩, hA, hm⟩
   have hzr : z.r = y.rk := by
    have hnd : (C.map Nd.id).Nodup := HB.hat.ids
    obtain ⟨a, ha⟩ := List.mem_iff_getElem?.1 hz
    obtain ⟨c, hcc⟩ := List.mem_iff_getElem?.1 hnm
    have e1 : (C.map Nd.id)[a]? = some (idn i) := by rw [List.getElem?_map, ha]; simp [hzi]
    have e2 : (C.map Nd.id)[c]? = some (idn i) := by rw [List.getElem?_map, hcc]; rfl
    have := (List.getElem?_inj (List.getElem?_eq_some_iff.1 e1).1 hnd).1 (e1.trans e2.symm)
    subst this
    rw [ha] at hcc
    cases hcc
    rfl
   rw [hzr] at he
   refine ⟨he, _, Th, ⟨HB2.stepH (fun j hj => Nat.lt_of_lt_of_le (hT j (by rcases hj with hj | hj | hj; exact .inl hj; exact .inr (.inr (.inl hj)); exact .inr (.inr (.inr hj)))).2 m2.size) hA hm (fun j hj => .inl hj), drop_perm (by rw [conS_len]; have := HLEN.out; omega) hperm hx (by show y.pl.toNat = 0; rw [HW.out]; rfl), fun j hj => ⟨(hT j hj).1, Nat.lt_of_lt_of_le (hT j hj).2 (Nat.le_trans m2.size hm.size)⟩, (m.then0 m2).then hm (fun j hj e => (hT j (.inr (.inl e))).1.resolve_right (by omega)), ⟨fun e => HBX.out p6 (.inl e) rfl, fun e => HBX.out p6 (.inr (.inl e)) rfl, fun e => HBX.out p6 (.inr (.inr (.inl e))) rfl, fun e => HBX.out b (.inr (.inr (.inr rfl))) e, Nat.le_trans m.size gp6⟩⟩, hm.at kp6 (fun e => HBX.out p6 (.inr (.inl e)) rfl)⟩
  clear kb kp6
  (refine eff_callP (by simp only [zK]; rfl) (by rfl) ?y21 hcall (fun wn hP => ?n21); (case y21 => (go_simp; (try (first | with_reducible rfl | (constructor <;> with_reducible rfl))))); try simp only [Act.put, zL])
  refine TE.nil ?_
  clear hcall
  obtain ⟨C1, Th1, hM, kp6⟩ := hP
  have M1 := Lib.hid hM
  clear hM
  go_upto_region 3 with fail
  have Lkp6 := lt_size kp6
  refine wp_pass0 (C := fun _ _ _ => False) (κ := fun i => [0, 0, 5].getD i 0) [0, 1, 2] (by kernel_rfl) (by kernel_rfl) (fun _ _ d _ _ h => by cases d <;> first | exact h | exact absurd h (hP _ _ _)) ?_
  (refine TD.val0 (v := ?v22) (by simp only [zK]; rfl) rfl (by rfl) (fun w1 => ?y22) ?n22; (case y22 => go_simp; try with_reducible rfl); try simp only [Act.put, zL])
  (refine TD.val0 (v := ?v23) (by simp only [zK]; rfl) rfl (by rfl) (fun w1 => ?y23) ?n23; (case y23 => go_simp; try with_reducible rfl); try simp only [Act.put, zL])
  refine TD.eff (by simp only [zK]; rfl) rfl (fun wE hr => ?_)
  have kp6 := hr.mod.at0 kp6
  have mE := hr.mod
  (refine eff_store (X := ?X24) (Y := ?Y24) (w' := ?w24) (by simp only [zK]; rfl) (by rfl) rfl ?hx24 ?hz24 ?y24 ?n24; (case hx24 => simp only [Act.eval, zM]; try rfl); (case hz24 => simp only [Act.eval, zM]; try rfl); (case y24 => go_simp; try with_reducible rfl))
  (first | refine TE.nil_set kp6 (fun w3 kp6 mS => ?_) | refine TE.nil_setCell kp6 (fun w3 kp6 mS => ?_))
  have M3 := Lib.hid ((M1.out.mod0 mE).setP mS)
  clear mE hr mS M1
  rw [set_pl] at kp6
  by_cases hp : p = 0
  ·have hpz := u8_zero hp
   have HP := Lib.hid hp
   clear hp
   have hidn : (idn i).toInt = (i : Int) := idn_toInt (by have := HLEN.out; omega)
   have HC := Lib.hid (And.intro hidn (And.intro M3.out.small (M3.out.ids HLEN.out.1)))
   have kb3 := M3.out.bf.kb
   have nb : ¬ Th1 b := M3.out.bf.db.2.1
   have np : ¬ Th1 p6 := M3.out.box.2.1
   clear hidn
   go_upto_region 5 with fail
   have Lkb3 := lt_size kb3
   have Lkp6 := lt_size kp6
   refine wp_gpass (T0 := Th1) (K := HAt h C1) (κ := fun i => [0, 0, 0, 0, 0, 0, 6, 0, 6].getD i 0) (υ := fun i => [[], [], [], [], [], [], [], [], []].getD i []) [0, 1, 2, 3, 4, 5, 6, 7, 8] (by kernel_rfl) (by kernel_rfl) (HAt.good h C1).cl (M3.out.bf.hat) (fun j hj => (M3.out.lt j (.inr (.inl hj))).2) ?_
   have gK := HAt.good h C1
   (refine TG.v0 (v := ?v25) (by simp only [zK]; rfl) rfl (by rfl) (fun w1 => ?y25) ?n25; (case y25 => go_simp; try with_reducible rfl); try simp only [Act.put, zL])
   (refine TG.v0 (v := ?v26) (by simp only [zK]; rfl) rfl (by rfl) (fun w1 => ?y26) ?n26; (case y26 => go_simp; try with_reducible rfl); try simp only [Act.put, zL])
   (refine TG.v0 (v := ?v27) (by simp only [zK]; rfl) rfl (by rfl) (fun w1 => ?y27) ?n27; (case y27 => go_simp; try with_reducible rfl); try simp only [Act.put, zL])
   (refine TG.v0 (v := ?v28) (by simp only [zK]; rfl) rfl (by rfl) (fun w1 => ?y28) ?n28; (case y28 => go_simp; try with_reducible rfl); try simp only [Act.put, zL])
   (refine TG.load (v := ?v29) (p := ?p29) (by simp only [zK]; rfl) rfl (by rfl) rfl ?hx29 (fun wq hSq => ?y29) ?n29; (case hx29 => simp only [Act.eval, zM]; try rfl); (case y29 => (have kb3q := hSq.at kb3 (by intro hT; first | exact hT | exact absurd hT (by assumption) | omega | (simp only at hT; omega)); have kp6q := hSq.at kp6 (by intro hT; first | exact hT | exact absurd hT (by assumption) | omega | (simp only at hT; omega)); go_simp; (try with_reducible rfl))); try simp only [Act.put, zL])
   (refine TG.load (v := ?v30) (p := ?p30) (by simp only [zK]; rfl) rfl (by rfl) rfl ?hx30 (fun wq hSq => ?y30) ?n30; (case hx30 => simp only [Act.eval, zM]; try rfl); (case y30 => (have kb3q := hSq.at kb3 (by intro hT; first | exact hT | exact absurd hT (by assumption) | omega | (simp only at hT; omega)); have kp6q := hSq.at kp6 (by intro hT; first | exact hT | exact absurd hT (by assumption) | omega | (simp only at hT; omega)); go_simp; (try with_reducible rfl))); try simp only [Act.put, zL])
   (refine TG.callN (f := ?f31) (args := ?r31) (fun v => v = .agg (rkc y.rk)) gK (by simp only [zK]; rfl) rfl (by rfl) (fun w1 => ?y31) (fun T wq kq ltq hSq ub => ?hsp31) ?n31; (case y31 => (go_simp; (first | with_reducible rfl | (constructor <;> with_reducible rfl)))); (case hsp31 => (have kb3q := hSq.at kb3 (by intro hT; first | exact hT | exact absurd hT (by assumption) | omega | (simp only at hT; omega)); have kp6q := hSq.at kp6 (by intro hT; first | exact hT | exact absurd hT (by assumption) | omega | (simp only at hT; omega)); exact (irank_c { y with pl := p } wq).mono (fun e w' h => ⟨_, h.1, rfl, h.2⟩))); rintro v31 hC; subst hC; try simp only [Act.put, zL])
   (refine TG.v0 (v := ?v32) (by simp only [zK]; rfl) rfl (by rfl) (fun w1 => ?y32) ?n32; (case y32 => go_simp; try with_reducible rfl); try simp only [Act.put, zL])
   (refine TG.callK (f := ?f33) (args := ?r33) (fun v T w => v = .int .i64 0 ∧ HAt h (C1 ++ [⟨y.rk, idn i⟩]) T w) (fun v => (Good.pure (v = .int .i64 0)).and (HAt.good h (C1 ++ [⟨y.rk, idn i⟩]))) (by simp only [zK]; rfl) rfl (by rfl) (fun w1 => ?y33) (fun T wq kq ltq hSq ub => ?hsp33) ?n33; (case y33 => (go_simp; (first | with_reducible rfl | (constructor <;> with_reducible rfl)))); (case hsp33 => (have kb3q := hSq.at kb3 (by intro hT; first | exact hT | exact absurd hT (by assumption) | omega | (simp only at hT; omega)); have kp6q := hSq.at kp6 (by intro hT; first | exact hT | exact absurd hT (by assumption) | omega | (simp only at hT; omega)); have hc := pushH_c kq ltq y.rk (idn i) HC.out.2.1 HC.out.2.2; rw [HC.out.1] at hc; exact hc.mono (fun e w' hh => by obtain ⟨he, T', hA', hm', hg', hl'⟩ := hh; exact ⟨_, he, hm', rfl, (HAt.good h _).gr _ _ _ (fun j hj => by rcases hg' j hj with h9 | h9; exact .inl h9; exact .inr ⟨h9, hl' j hj⟩) hA'⟩))); rintro v33 ⟨wI, TI, hI⟩; replace gK := (fun v => (Good.pure (v = .int .i64 0)).and (HAt.good h (C1 ++ [⟨y.rk, idn i⟩]))) v33; obtain ⟨rfl, _⟩ := hI.k; (try clear hI TI wI); try simp only [Act.put, zL])
   refine TG.nil (fun w4 ⟨TR, hr⟩ => ?_)
   have kb3 := hr.mod.at kb3 (by intro hT; first | exact hT | exact absurd hT (by assumption) | omega | (simp only at hT; omega))
   have kp6 := hr.mod.at kp6 (by intro hT; first | exact hT | exact absurd hT (by assumption) | omega | (simp only at hT; omega))
   clear gK
   have HB4 := M3.out.bf.stepH (fun j hj => (M3.out.lt j (by rcases hj with hj | hj | hj; exact .inl hj; exact .inr (.inr (.inl hj)); exact .inr (.inr (.inr hj)))).2) hr.k.2 hr.mod (fun j hj => by
    by_cases h9 : j < w3.heap.size
    ·exact .inl (hr.old j h9 hj)
    ·exact .inr (by omega))
   have HLT : Hid (∀ j, Ts j ∨ TR j ∨ Tr j ∨ j = b → (O j ∨ w0.heap.size ≤ j) ∧ j < w4.heap.size) := Lib.hid (fun j hj => by
    have hsz := hr.mod.size
    have h0 := M3.out.m.size
    rcases hj with hj | hj | hj
    ·have := M3.out.lt j (.inl hj); exact ⟨this.1, by omega⟩
    ·refine ⟨?_, hr.lt j hj⟩
     by_cases h9 : j < w3.heap.size
     ·exact (M3.out.lt j (.inr (.inl (hr.old j h9 hj)))).1
     ·omega
    ·have := M3.out.lt j (.inr (.inr hj)); exact ⟨this.1, by omega⟩)
   have HMM : Hid (Mod O w0 w4) := Lib.hid (M3.out.m.then hr.mod (fun j hj e => (M3.out.lt j (.inr (.inl e))).1.resolve_right (by omega)))
   have hpm : List.Perm (C1 ++ [(⟨y.rk, idn i⟩ : Nd)]) (wtg 0 ((conS R).set i (some ({ y with pl := p } : ItR).con))) := push_perm (x := ({ y with pl := p } : ItR).con) M3.out.perm (by rw [conS_len]; exact HLEN.out.1) (by rw [HP.out]; rfl)
   clear hr
   have kbF := HB4.kb
   have HPM := Lib.hid hpm
   have HBF := Lib.hid HB4
   clear HB4
   go_upto_region 6 with fail
   have LkbF := lt_size kbF
   have Lkp6 := lt_size kp6
   refine wp_pass (C := fun _ _ _ => False) (κ := fun i => [0, 0, 0, 0, 1, 0, 1, 5].getD i 0) [0, 1, 2, 3, 4, 5, 6, 7] (by kernel_rfl) (by kernel_rfl) (fun _ _ d _ _ h => by cases d <;> first | exact h | exact absurd h (hP _ _ _)) ?_
   (refine TD.val0 (v := ?v34) (by simp only [zK]; rfl) rfl (by rfl) (fun w1 => ?y34) ?n34; (case y34 => go_simp; try with_reducible rfl); try simp only [Act.put, zL])
   (refine TD.val0 (v := ?v35) (by simp only [zK]; rfl) rfl (by rfl) (fun w1 => ?y35) ?n35; (case y35 => go_simp; try with_reducible rfl); try simp only [Act.put, zL])
   (refine TD.val0 (v := ?v36) (by simp only [zK]; rfl) rfl (by rfl) (fun w1 => ?y36) ?n36; (case y36 => go_simp; try with_reducible rfl); try simp only [Act.put, zL])
   (refine TD.val0 (v := ?v37) (by simp only [zK]; rfl) rfl (by rfl) (fun w1 => ?y37) ?n37; (case y37 => go_simp; try with_reducible rfl); try simp only [Act.put, zL])
   (refine TD.load (v := ?v38) (p := ?p38) (Mod.refl _ _) (by simp only [zK]; rfl) rfl (by rfl) rfl ?hx38 (fun wq hSq => ?y38) ?n38; (case hx38 => simp only [Act.eval, zM]; try rfl); (case y38 => (have kbFq := hSq.at kbF (fun h => h); have kp6q := hSq.at kp6 (fun h => h); go_simp; (try with_reducible rfl))); try simp only [Act.put, zL])
   (refine TD.val0 (v := ?v39) (by simp only [zK]; rfl) rfl (by rfl) (fun w1 => ?y39) ?n39; (case y39 => go_simp; try with_reducible rfl); try simp only [Act.put, zL])
   (refine TD.load (v := ?v40) (p := ?p40) (Mod.refl _ _) (by simp only [zK]; rfl) rfl (by rfl) rfl ?hx40 (fun wq hSq => ?y40) ?n40; (case hx40 => simp only [Act.eval, zM]; try rfl); (case y40 => (have kbFq := hSq.at kbF (fun h => h); have kp6q := hSq.at kp6 (fun h => h); go_simp; (try with_reducible rfl))); try simp only [Act.put, zL])
   refine TD.eff (by simp only [zK]; rfl) rfl (fun w7 hr => ?_)
   have kbF := hr.mod.at kbF (fun h => h)
   have kp6 := hr.mod.at kp6 (fun h => h)
   have m7 := hr.mod
   clear hr
   have hcall := fin_set (w0 := w0) (HBF.out.mod0 m7) (fun j hj => ⟨(HLT.out j hj).1, Nat.lt_of_lt_of_le (HLT.out j hj).2 m7.size⟩) (HMM.out.then0 m7) HH.out.2.2.2.2.2 { y with pl := p } rfl HPM.out
   clear m7
   (refine eff_callP (by simp only [zK]; rfl) (by rfl) ?y42 hcall (fun wn hP => ?n42); (case y42 => (go_simp; (try (first | with_reducible rfl | (constructor <;> with_reducible rfl))))); try simp only [Act.put, zL])
   refine TE.nil ?_
   have HX := Lib.hid hP
   clear hP hcall
   go_wp2_with fail
   go_end0
   exact ⟨rfl, HX.out⟩
  ·have hpz := u8_nz hp
   have hpm : List.Perm C1 (wtg 0 ((conS R).set i (some ({ y with pl := p } : ItR).con))) := keep_perm M3.out.perm (by rw [conS_len]; exact HLEN.out.1) (nodeOf_nz (fun e => hp (UInt8.toNat_inj.1 e)))
   have HB4 := M3.out.bf
   have HLT := Lib.hid M3.out.lt
   have HMM := Lib.hid M3.out.m
   clear hp
   have kbF := HB4.kb
   have HPM := Lib.hid hpm
   have HBF := Lib.hid HB4
   clear HB4
   go_upto_region 6 with fail
   have LkbF := lt_size kbF
   have Lkp6 := lt_size kp6
   refine wp_pass (C := fun _ _ _ => False) (κ := fun i => [0, 0, 0, 0, 1, 0, 1, 5].getD i 0) [0, 1, 2, 3, 4, 5, 6, 7] (by kernel_rfl) (by kernel_rfl) (fun _ _ d _ _ h => by cases d <;> first | exact h | exact absurd h (hP _ _ _)) ?_
   (refine TD.val0 (v := ?v43) (by simp only [zK]; rfl) rfl (by rfl) (fun w1 => ?y43) ?n43; (case y43 => go_simp; try with_reducible rfl); try simp only [Act.put, zL])
   (refine TD.val0 (v := ?v44) (by simp only [zK]; rfl) rfl (by rfl) (fun w1 => ?y44) ?n44; (case y44 => go_simp; try with_reducible rfl); try simp only [Act.put, zL])
   (refine TD.val0 (v := ?v45) (by simp only [zK]; rfl) rfl (by rfl) (fun w1 => ?y45) ?n45; (case y45 => go_simp; try with_reducible rfl); try simp only [Act.put, zL])
   (refine TD.val0 (v := ?v46) (by simp only [zK]; rfl) rfl (by rfl) (fun w1 => ?y46) ?n46; (case y46 => go_simp; try with_reducible rfl); try simp only [Act.put, zL])
   (refine TD.load (v := ?v47) (p := ?p47) (Mod.refl _ _) (by simp only [zK]; rfl) rfl (by rfl) rfl ?hx47 (fun wq hSq => ?y47) ?n47; (case hx47 => simp only [Act.eval, zM]; try rfl); (case y47 => (have kbFq := hSq.at kbF (fun h => h); have kp6q := hSq.at kp6 (fun h => h); go_simp; (try with_reducible rfl))); try simp only [Act.put, zL])
   (refine TD.val0 (v := ?v48) (by simp only [zK]; rfl) rfl (by rfl) (fun w1 => ?y48) ?n48; (case y48 => go_simp; try with_reducible rfl); try simp only [Act.put, zL])
   (refine TD.load (v := ?v49) (p := ?p49) (Mod.refl _ _) (by simp only [zK]; rfl) rfl (by rfl) rfl ?hx49 (fun wq hSq => ?y49) ?n49; (case hx49 => simp only [Act.eval, zM]; try rfl); (case y49 => (have kbFq := hSq.at kbF (fun h => h); have kp6q := hSq.at kp6 (fun h => h); go_simp; (try with_reducible rfl))); try simp only [Act.put, zL])
   refine TD.eff (by simp only [zK]; rfl) rfl (fun w7 hr => ?_)
   have kbF := hr.mod.at kbF (fun h => h)
   have kp6 := hr.mod.at kp6 (fun h => h)
   have m7 := hr.mod
   clear hr
   have hcall := fin_set (w0 := w0) (HBF.out.mod0 m7) (fun j hj => ⟨(HLT.out j hj).1, Nat.lt_of_lt_of_le (HLT.out j hj).2 m7.size⟩) (HMM.out.then0 m7) HH.out.2.2.2.2.2 { y with pl := p } rfl HPM.out
   clear m7
   (refine eff_callP (by simp only [zK]; rfl) (by rfl) ?y51 hcall (fun wn hP => ?n51); (case y51 => (go_simp; (try (first | with_reducible rfl | (constructor <;> with_reducible rfl))))); try simp only [Act.put, zL])
   refine TE.nil ?_
   have HX := Lib.hid hP
   clear hP hcall
   go_wp2_with fail
   go_end0
   exact ⟨rfl, HX.out⟩
 ·have hwz := u8_nz hw
  have M1 : Hid (Mid w0 O b p6 i R s h C Ts Th Tr w1) := Lib.hid (by
   obtain ⟨HB, hperm, hT, m, hx, hy⟩ := HH.out
   refine ⟨HB.mod0 m1, (node_none (by rw [conS_len]; have := HLEN.out; omega) hperm hx (nodeOf_nz (fun e => hw (UInt8.toNat_inj.1 e)))).2, fun j hj => ⟨(hT j hj).1, Nat.lt_of_lt_of_le (hT j hj).2 m1.size⟩, m.then0 m1, ⟨fun e => HBX.out p6 (.inl e) rfl, fun e => HBX.out p6 (.inr (.inl e)) rfl, fun e => HBX.out p6 (.inr (.inr (.inl e))) rfl, fun e => HBX.out b (.inr (.inr (.inr rfl))) e, Nat.le_trans m.size gp6⟩⟩)
  obtain ⟨C1, hC1⟩ : ∃ C1, C1 = C := ⟨_, rfl⟩
  obtain ⟨Th1, hTh1⟩ : ∃ Th1, Th1 = Th := ⟨_, rfl⟩
  rw [← hC1, ← hTh1] at M1
  clear kb hw hC1 hTh1
  go_upto_region 3 with fail
  have Lkp6 := lt_size kp6
  refine wp_pass0 (C := fun _ _ _ => False) (κ := fun i => [0, 0, 5].getD i 0) [0, 1, 2] (by kernel_rfl) (by kernel_rfl) (fun _ _ d _ _ h => by cases d <;> first | exact h | exact absurd h (hP _ _ _)) ?_
  (refine TD.val0 (v := ?v52) (by simp only [zK]; rfl) rfl (by rfl) (fun w1 => ?y52) ?n52; (case y52 => go_simp; try with_reducible rfl); try simp only [Act.put, zL])
  (refine TD.val0 (v := ?v53) (by simp only [zK]; rfl) rfl (by rfl) (fun w1 => ?y53) ?n53; (case y53 => go_simp; try with_reducible rfl); try simp only [Act.put, zL])
  refine TD.eff (by simp only [zK]; rfl) rfl (fun wE hr => ?_)
  have kp6 := hr.mod.at0 kp6
  have mE := hr.mod
  (refine eff_store (X := ?X54) (Y := ?Y54) (w' := ?w54) (by simp only [zK]; rfl) (by rfl) rfl ?hx54 ?hz54 ?y54 ?n54; (case hx54 => simp only [Act.eval, zM]; try rfl); (case hz54 => simp only [Act.eval, zM]; try rfl); (case y54 => go_simp; try with_reducible rfl))
  (first | refine TE.nil_set kp6 (fun w3 kp6 mS => ?_) | refine TE.nil_setCell kp6 (fun w3 kp6 mS => ?_))
  have M3 := Lib.hid ((M1.out.mod0 mE).setP mS)
  clear mE hr mS M1
  rw [set_pl] at kp6
  by_cases hp : p = 0
  ·have hpz := u8_zero hp
   have HP := Lib.hid hp
   clear hp
   have hidn : (idn i).toInt = (i : Int) := idn_toInt (by have := HLEN.out; omega)
   have HC := Lib.hid (And.intro hidn (And.intro M3.out.small (M3.out.ids HLEN.out.1)))
   have kb3 := M3.out.bf.kb
   have nb : ¬ Th1 b := M3.out.bf.db.2.1
   have np : ¬ Th1 p6 := M3.out.box.2.1
   clear hidn
   go_upto_region 5 with fail
   have Lkb3 := lt_size kb3
   have Lkp6 := lt_size kp6
   refine wp_gpass (T0 := Th1) (K := HAt h C1) (κ := fun i => [0, 0, 0, 0, 0, 0, 6, 0, 6].getD i 0) (υ := fun i => [[], [], [], [], [], [], [], [], []].getD i []) [0, 1, 2, 3, 4, 5, 6, 7, 8] (by kernel_rfl) (by kernel_rfl) (HAt.good h C1).cl (M3.out.bf.hat) (fun j hj => (M3.out.lt j (.inr (.inl hj))).2) ?_
   have gK := HAt.good h C1
   (refine TG.v0 (v := ?v55) (by simp only [zK]; rfl) rfl (by rfl) (fun w1 => ?y55) ?n55; (case y55 => go_simp; try with_reducible rfl); try simp only [Act.put, zL])
   (refine TG.v0 (v := ?v56) (by simp only [zK]; rfl) rfl (by rfl) (fun w1 => ?y56) ?n56; (case y56 => go_simp; try with_reducible rfl); try simp only [Act.put, zL])
   (refine TG.v0 (v := ?v57) (by simp only [zK]; rfl) rfl (by rfl) (fun w1 => ?y57) ?n57; (case y57 => go_simp; try with_reducible rfl); try simp only [Act.put, zL])
   (refine TG.v0 (v := ?v58) (by simp only [zK]; rfl) rfl (by rfl) (fun w1 => ?y58) ?n58; (case y58 => go_simp; try with_reducible rfl); try simp only [Act.put, zL])
   (refine TG.load (v := ?v59) (p := ?p59) (by simp only [zK]; rfl) rfl (by rfl) rfl ?hx59 (fun wq hSq => ?y59) ?n59; (case hx59 => simp only [Act.eval, zM]; try rfl); (case y59 => (have kb3q := hSq.at kb3 (by intro hT; first | exact hT | exact absurd hT (by assumption) | omega | (simp only at hT; omega)); have kp6q := hSq.at kp6 (by intro hT; first | exact hT | exact absurd hT (by assumption) | omega | (simp only at hT; omega)); go_simp; (try with_reducible rfl))); try simp only [Act.put, zL])
   (refine TG.load (v := ?v60) (p := ?p60) (by simp only [zK]; rfl) rfl (by rfl) rfl ?hx60 (fun wq hSq => ?y60) ?n60; (case hx60 => simp only [Act.eval, zM]; try rfl); (case y60 => (have kb3q := hSq.at kb3 (by intro hT; first | exact hT | exact absurd hT (by assumption) | omega | (simp only at hT; omega)); have kp6q := hSq.at kp6 (by intro hT; first | exact hT | exact absurd hT (by assumption) | omega | (simp only at hT; omega)); go_simp; (try with_reducible rfl))); try simp only [Act.put, zL])
   (refine TG.callN (f := ?f61) (args := ?r61) (fun v => v = .agg (rkc y.rk)) gK (by simp only [zK]; rfl) rfl (by rfl) (fun w1 => ?y61) (fun T wq kq ltq hSq ub => ?hsp61) ?n61; (case y61 => (go_simp; (first | with_reducible rfl | (constructor <;> with_reducible rfl)))); (case hsp61 => (have kb3q := hSq.at kb3 (by intro hT; first | exact hT | exact absurd hT (by assumption) | omega | (simp only at hT; omega)); have kp6q := hSq.at kp6 (by intro hT; first | exact hT | exact absurd hT (by assumption) | omega | (simp only at hT; omega)); exact (irank_c { y with pl := p } wq).mono (fun e w' h => ⟨_, h.1, rfl, h.2⟩))); rintro v61 hC; subst hC; try simp only [Act.put, zL])
   (refine TG.v0 (v := ?v62) (by simp only [zK]; rfl) rfl (by rfl) (fun w1 => ?y62) ?n62; (case y62 => go_simp; try with_reducible rfl); try simp only [Act.put, zL])
   (refine TG.callK (f := ?f63) (args := ?r63) (fun v T w => v = .int .i64 0 ∧ HAt h (C1 ++ [⟨y.rk, idn i⟩]) T w) (fun v => (Good.pure (v = .int .i64 0)).and (HAt.good h (C1 ++ [⟨y.rk, idn i⟩]))) (by simp only [zK]; rfl) rfl (by rfl) (fun w1 => ?y63) (fun T wq kq ltq hSq ub => ?hsp63) ?n63; (case y63 => (go_simp; (first | with_reducible rfl | (constructor <;> with_reducible rfl)))); (case hsp63 => (have kb3q := hSq.at kb3 (by intro hT; first | exact hT | exact absurd hT (by assumption) | omega | (simp only at hT; omega)); have kp6q := hSq.at kp6 (by intro hT; first | exact hT | exact absurd hT (by assumption) | omega | (simp only at hT; omega)); have hc := pushH_c kq ltq y.rk (idn i) HC.out.2.1 HC.out.2.2; rw [HC.out.1] at hc; exact hc.mono (fun e w' hh => by obtain ⟨he, T', hA', hm', hg', hl'⟩ := hh; exact ⟨_, he, hm', rfl, (HAt.good h _).gr _ _ _ (fun j hj => by rcases hg' j hj with h9 | h9; exact .inl h9; exact .inr ⟨h9, hl' j hj⟩) hA'⟩))); rintro v63 ⟨wI, TI, hI⟩; replace gK := (fun v => (Good.pure (v = .int .i64 0)).and (HAt.good h (C1 ++ [⟨y.rk, idn i⟩]))) v63; obtain ⟨rfl, _⟩ := hI.k; (try clear hI TI wI); try simp only [Act.put, zL])
   refine TG.nil (fun w4 ⟨TR, hr⟩ => ?_)
   have kb3 := hr.mod.at kb3 (by intro hT; first | exact hT | exact absurd hT (by assumption) | omega | (simp only at hT; omega))
   have kp6 := hr.mod.at kp6 (by intro hT; first | exact hT | exact absurd hT (by assumption) | omega | (simp only at hT; omega))
   clear gK
   have HB4 := M3.out.bf.stepH (fun j hj => (M3.out.lt j (by rcases hj with hj | hj | hj; exact .inl hj; exact .inr (.inr (.inl hj)); exact .inr (.inr (.inr hj)))).2) hr.k.2 hr.mod (fun j hj => by
    by_cases h9 : j < w3.heap.size
    ·exact .inl (hr.old j h9 hj)
    ·exact .inr (by omega))
   have HLT : Hid (∀ j, Ts j ∨ TR j ∨ Tr j ∨ j = b → (O j ∨ w0.heap.size ≤ j) ∧ j < w4.heap.size) := Lib.hid (fun j hj => by
    have hsz := hr.mod.size
    have h0 := M3.out.m.size
    rcases hj with hj | hj | hj
    ·have := M3.out.lt j (.inl hj); exact ⟨this.1, by omega⟩
    ·refine ⟨?_, hr.lt j hj⟩
     by_cases h9 : j < w3.heap.size
     ·exact (M3.out.lt j (.inr (.inl (hr.old j h9 hj)))).1
     ·omega
    ·have := M3.out.lt j (.inr (.inr hj)); exact ⟨this.1, by omega⟩)
   have HMM : Hid (Mod O w0 w4) := Lib.hid (M3.out.m.then hr.mod (fun j hj e => (M3.out.lt j (.inr (.inl e))).1.resolve_right (by omega)))
   have hpm : List.Perm (C1 ++ [(⟨y.rk, idn i⟩ : Nd)]) (wtg 0 ((conS R).set i (some ({ y with pl := p } : ItR).con))) := push_perm (x := ({ y with pl := p } : ItR).con) M3.out.perm (by rw [conS_len]; exact HLEN.out.1) (by rw [HP.out]; rfl)
   clear hr
   have kbF := HB4.kb
   have HPM := Lib.hid hpm
   have HBF := Lib.hid HB4
   clear HB4
   go_upto_region 6 with fail
   have LkbF := lt_size kbF
   have Lkp6 := lt_size kp6
   refine wp_pass (C := fun _ _ _ => False) (κ := fun i => [0, 0, 0, 0, 1, 0, 1, 5].getD i 0) [0, 1, 2, 3, 4, 5, 6, 7] (by kernel_rfl) (by kernel_rfl) (fun _ _ d _ _ h => by cases d <;> first | exact h | exact absurd h (hP _ _ _)) ?_
   (refine TD.val0 (v := ?v64) (by simp only [zK]; rfl) rfl (by rfl) (fun w1 => ?y64) ?n64; (case y64 => go_simp; try with_reducible rfl); try simp only [Act.put, zL])
   (refine TD.val0 (v := ?v65) (by simp only [zK]; rfl) rfl (by rfl) (fun w1 => ?y65) ?n65; (case y65 => go_simp; try with_reducible rfl); try simp only [Act.put, zL])
   (refine TD.val0 (v := ?v66) (by simp only [zK]; rfl) rfl (by rfl) (fun w1 => ?y66) ?n66; (case y66 => go_simp; try with_reducible rfl); try simp only [Act.put, zL])
   (refine TD.val0 (v := ?v67) (by simp only [zK]; rfl) rfl (by rfl) (fun w1 => ?y67) ?n67; (case y67 => go_simp; try with_reducible rfl); try simp only [Act.put, zL])
   (refine TD.load (v := ?v68) (p := ?p68) (Mod.refl _ _) (by simp only [zK]; rfl) rfl (by rfl) rfl ?hx68 (fun wq hSq => ?y68) ?n68; (case hx68 => simp only [Act.eval, zM]; try rfl); (case y68 => (have kbFq := hSq.at kbF (fun h => h); have kp6q := hSq.at kp6 (fun h => h); go_simp; (try with_reducible rfl))); try simp only [Act.put, zL])
   (refine TD.val0 (v := ?v69) (by simp only [zK]; rfl) rfl (by rfl) (fun w1 => ?y69) ?n69; (case y69 => go_simp; try with_reducible rfl); try simp only [Act.put, zL])
   (refine TD.load (v := ?v70) (p := ?p70) (Mod.refl _ _) (by simp only [zK]; rfl) rfl (by rfl) rfl ?hx70 (fun wq hSq => ?y70) ?n70; (case hx70 => simp only [Act.eval, zM]; try rfl); (case y70 => (have kbFq := hSq.at kbF (fun h => h); have kp6q := hSq.at kp6 (fun h => h); go_simp; (try with_reducible rfl))); try simp only [Act.put, zL])
   refine TD.eff (by simp only [zK]; rfl) rfl (fun w7 hr => ?_)
   have kbF := hr.mod.at kbF (fun h => h)
   have kp6 := hr.mod.at kp6 (fun h => h)
   have m7 := hr.mod
   clear hr
   have hcall := fin_set (w0 := w0) (HBF.out.mod0 m7) (fun j hj => ⟨(HLT.out j hj).1, Nat.lt_of_lt_of_le (HLT.out j hj).2 m7.size⟩) (HMM.out.then0 m7) HH.out.2.2.2.2.2 { y with pl := p } rfl HPM.out
   clear m7
   (refine eff_callP (by simp only [zK]; rfl) (by rfl) ?y72 hcall (fun wn hP => ?n72); (case y72 => (go_simp; (try (first | with_reducible rfl | (constructor <;> with_reducible rfl))))); try simp only [Act.put, zL])
   refine TE.nil ?_
   have HX := Lib.hid hP
   clear hP hcall
   go_wp2_with fail
   go_end0
   exact ⟨rfl, HX.out⟩
  ·have hpz := u8_nz hp
   have hpm : List.Perm C1 (wtg 0 ((conS R).set i (some ({ y with pl := p } : ItR).con))) := keep_perm M3.out.perm (by rw [conS_len]; exact HLEN.out.1) (nodeOf_nz (fun e => hp (UInt8.toNat_inj.1 e)))
   have HB4 := M3.out.bf
   have HLT := Lib.hid M3.out.lt
   have HMM := Lib.hid M3.out.m
   clear hp
   have kbF := HB4.kb
   have HPM := Lib.hid hpm
   have HBF := Lib.hid HB4
   clear HB4
   go_upto_region 6 with fail
   have LkbF := lt_size kbF
   have Lkp6 := lt_size kp6
   refine wp_pass (C := fun _ _ _ => False) (κ := fun i => [0, 0, 0, 0, 1, 0, 1, 5].getD i 0) [0, 1, 2, 3, 4, 5, 6, 7] (by kernel_rfl) (by kernel_rfl) (fun _ _ d _ _ h => by cases d <;> first | exact h | exact absurd h (hP _ _ _)) ?_
   (refine TD.val0 (v := ?v73) (by simp only [zK]; rfl) rfl (by rfl) (fun w1 => ?y73) ?n73; (case y73 => go_simp; try with_reducible rfl); try simp only [Act.put, zL])
   (refine TD.val0 (v := ?v74) (by simp only [zK]; rfl) rfl (by rfl) (fun w1 => ?y74) ?n74; (case y74 => go_simp; try with_reducible rfl); try simp only [Act.put, zL])
   (refine TD.val0 (v := ?v75) (by simp only [zK]; rfl) rfl (by rfl) (fun w1 => ?y75) ?n75; (case y75 => go_simp; try with_reducible rfl); try simp only [Act.put, zL])
   (refine TD.val0 (v := ?v76) (by simp only [zK]; rfl) rfl (by rfl) (fun w1 => ?y76) ?n76; (case y76 => go_simp; try with_reducible rfl); try simp only [Act.put, zL])
   (refine TD.load (v := ?v77) (p := ?p77) (Mod.refl _ _) (by simp only [zK]; rfl) rfl (by rfl) rfl ?hx77 (fun wq hSq => ?y77) ?n77; (case hx77 => simp only [Act.eval, zM]; try rfl); (case y77 => (have kbFq := hSq.at kbF (fun h => h); have kp6q := hSq.at kp6 (fun h => h); go_simp; (try with_reducible rfl))); try simp only [Act.put, zL])
   (refine TD.val0 (v := ?v78) (by simp only [zK]; rfl) rfl (by rfl) (fun w1 => ?y78) ?n78; (case y78 => go_simp; try with_reducible rfl); try simp only [Act.put, zL])
   (refine TD.load (v := ?v79) (p := ?p79) (Mod.refl _ _) (by simp only [zK]; rfl) rfl (by rfl) rfl ?hx79 (fun wq hSq => ?y79) ?n79; (case hx79 => simp only [Act.eval, zM]; try rfl); (case y79 => (have kbFq := hSq.at kbF (fun h => h); have kp6q := hSq.at kp6 (fun h => h); go_simp; (try with_reducible rfl))); try simp only [Act.put, zL])
   refine TD.eff (by simp only [zK]; rfl) rfl (fun w7 hr => ?_)
   have kbF := hr.mod.at kbF (fun h => h)
   have kp6 := hr.mod.at kp6 (fun h => h)
   have m7 := hr.mod
   clear hr
   have hcall := fin_set (w0 := w0) (HBF.out.mod0 m7) (fun j hj => ⟨(HLT.out j hj).1, Nat.lt_of_lt_of_le (HLT.out j hj).2 m7.size⟩) (HMM.out.then0 m7) HH.out.2.2.2.2.2 { y with pl := p } rfl HPM.out
   clear m7
   (refine eff_callP (by simp only [zK]; rfl) (by rfl) ?y81 hcall (fun wn hP => ?n81); (case y81 => (go_simp; (try (first | with_reducible rfl | (constructor <;> with_reducible rfl))))); try simp only [Act.put, zL])
   refine TE.nil ?_
   have HX := Lib.hid hP
   clear hP hcall
   go_wp2_with fail
   go_end0
   exact ⟨rfl, HX.out⟩
end Go.Proofs.YtdeghpmlhcaedaaGreatDoor
namespace Go.Proofs.YtdeghpmlhcaedaaGreatDoor
open Go.RowKit
open Go.ChangeMaps (setBlock)
attribute [local go_sem ↓] wlItem ldItem stItem wlRk ldRk stRk eqRk eqRk2
attribute [local go_sem] cell_blk frozen_blk one_int one_bool one_ptr one_slice one_map Value.cells rkc_size rkc_all1 itr_size itr_all itr_one itr_one' itr_n itr_prio itr_pl itr_sent itr_n' itr_prio' itr_pl' itr_sent' itr_r zItem_size zItem_all zItem_one
def AwayS (S : List (Option It)) (n : Int) : Prop := n < 0 ∨ (S.length : Int) ≤ n ∨ S[n.toNat]? = some none
theorem AwayS.con {R : List (Option ItR)} {n : Int} (h : AwayS (conS R) n) : Away R n := by
 rcases h with h | h | h
 ·exact .inl h
 ·exact .inr (.inl (by rw [conS_len] at h; exact h))
 ·exact .inr (.inr (con_none h))
theorem away_or (S : List (Option It)) (n : Int) : AwayS S n ∨ ∃ (i : Nat) (x : It), n = i ∧ S[i]? = some (some x) := by
 by_cases h1 : n < 0
 ·exact .inl (.inl h1)
 ·by_cases h2 : (S.length : Int) ≤ n
  ·exact .inl (.inr (.inl h2))
  ·cases h : S[n.toNat]? with
   | none => rw [List.getElem?_eq_none_iff] at h; omega
   | some o =>
    cases o with
    | none => exact .inl (.inr (.inr h))
    | some x => exact .inr ⟨n.toNat, x, by omega, h⟩
section
variable {w0 w w' ws : World} {O : Nat → Prop} {b s h : Nat} {R R' : List (Option ItR)} {C C' : List Nd} {Ts Th Tr : Nat → Prop} {S : List (Option It)}
set_option maxRecDepth 20000 in
set_option maxHeartbeats 1600000 in
theorem heldY_c (HB : Bf w b s h R C Ts Th Tr) {i : Nat} {y : ItR} (hy : R[i]? = some (some y)) : Calls Tryz.prog 46 #[ptrV b, .int .i64 (i : Int)] w fun e w' => e = .returned (.tuple #[.agg (itr y), .int .i64 0]) ∧ Mod (fun _ => False) w w' := by
 have kb := HB.kb
 have HH := Lib.hid (And.intro HB hy)
 clear HB hy
 go_enter Tryz.func46, Tryz.ntmps46
 go_upto_region 0 with fail
 have Lkb := lt_size kb
 refine wp_pass0 (C := fun _ _ _ => False) (κ := fun i => [3, 0].getD i 0) [0, 1] (by kernel_rfl) (by kernel_rfl) (fun _ _ d _ _ h => by cases d <;> first | exact h | exact absurd h (hP _ _ _)) ?_
 (refine TD.allocB (by simp only [zK]; rfl) rfl (by rfl) rfl rfl alItem (fun p4 hp4 => ?n1); try simp only [Act.put, zL])
 (refine TD.val0 (v := ?v2) (by simp only [zK]; rfl) rfl (by rfl) (fun w1 => ?y2) ?n2; (case y2 => go_simp; try with_reducible rfl); try simp only [Act.put, zL])
 refine TD.nil (fun w1 hr => ?_)
 have kb := hr.mod.at kb (fun h => h)
 have kp4 := hr.box p4 _ (by first | exact Bx.set_same _ _ _ | (simp only [Bx.set_same]; rfl)); dsimp only [Value.cells] at kp4; obtain ⟨gp4, kp4⟩ := kp4
 have m1 := hr.mod
 clear hr
 go_wp2_with fail
 go_at_call 35
 refine (bthere_c kb).mono ?_
 rintro e w2 ⟨rfl, rfl⟩
 go_upto_region 3 with fail
 have Lkb := lt_size kb
 have Lkp4 := lt_size kp4
 refine wp_pass0 (C := fun _ _ v => v = .tuple #[.agg (itr y), .int .i64 0]) (κ := fun i => [0, 0, 0, 0, 1, 0, 2, 0, 0, 5, 0].getD i 0) [0, 1, 2, 3, 4, 5, 6, 7, 8, 9, 10] (by kernel_rfl) (by kernel_rfl) (fun _ _ d _ _ h => by cases d <;> first | exact h | exact absurd h (hP _ _ _)) ?_
 (refine TD.val0 (v := ?v3) (by simp only [zK]; rfl) rfl (by rfl) (fun w1 => ?y3) ?n3; (case y3 => go_simp; try with_reducible rfl); try simp only [Act.put, zL])
 (refine TD.val0 (v := ?v4) (by simp only [zK]; rfl) rfl (by rfl) (fun w1 => ?y4) ?n4; (case y4 => go_simp; try with_reducible rfl); try simp only [Act.put, zL])
 (refine TD.val0 (v := ?v5) (by simp only [zK]; rfl) rfl (by rfl) (fun w1 => ?y5) ?n5; (case y5 => go_simp; try with_reducible rfl); try simp only [Act.put, zL])
 (refine TD.val0 (v := ?v6) (by simp only [zK]; rfl) rfl (by rfl) (fun w1 => ?y6) ?n6; (case y6 => go_simp; try with_reducible rfl); try simp only [Act.put, zL])
 (refine TD.load (v := ?v7) (p := ?p7) (Mod.refl _ _) (by simp only [zK]; rfl) rfl (by rfl) rfl ?hx7 (fun wq hSq => ?y7) ?n7; (case hx7 => simp only [Act.eval, zM]; try rfl); (case y7 => (have kbq := hSq.at kb (fun h => h); have kp4q := hSq.at kp4 (fun h => h); go_simp; (try with_reducible rfl))); try simp only [Act.put, zL])
 (refine TD.val0 (v := ?v8) (by simp only [zK]; rfl) rfl (by rfl) (fun w1 => ?y8) ?n8; (case y8 => go_simp; try with_reducible rfl); try simp only [Act.put, zL])
 (refine TD.call (f := ?f9) (args := ?r9) (Mod.refl _ _) (by simp only [zK]; rfl) rfl (by rfl) (fun w1 => ?y9) ?hsp9 ?n9; (case y9 => (go_simp; (first | with_reducible rfl | (constructor <;> with_reducible rfl)))); (case hsp9 => (intro wq hSq; have kbq := hSq.at kb (fun h => h); have kp4q := hSq.at kp4 (fun h => h); exact (sget_c (HH.out.1.mod0 (m1.then0 hSq)).sat HH.out.2).mono (fun e w' h => ⟨_, h.1, rfl, h.2⟩))); rintro _ rfl; try simp only [Act.put, zL])
 (refine TD.val0 (v := ?v10) (by simp only [zK]; rfl) rfl (by rfl) (fun w1 => ?y10) ?n10; (case y10 => go_simp; try with_reducible rfl); try simp only [Act.put, zL])
 (refine TD.val0 (v := ?v11) (by simp only [zK]; rfl) rfl (by rfl) (fun w1 => ?y11) ?n11; (case y11 => go_simp; try with_reducible rfl); try simp only [Act.put, zL])
 refine TD.eff (by simp only [zK]; rfl) rfl (fun w3 hr => ?_)
 have kb := hr.mod.at kb (fun h => h)
 have kp4 := hr.mod.at kp4 (fun h => h)
 have m3 := m1.then0 hr.mod
 clear hr
 (refine eff_store (X := ?X13) (Y := ?Y13) (w' := ?w13) (by simp only [zK]; rfl) (by rfl) rfl ?hx13 ?hz13 ?y13 ?n13; (case hx13 => simp only [Act.eval, zM]; try rfl); (case hz13 => simp only [Act.eval, zM]; try rfl); (case y13 => go_simp; try with_reducible rfl))
 (first | refine TE.mid_set kp4 (fun wn kp4 mS => ?_) | refine TE.mid_setCell kp4 (fun wn kp4 mS => ?_))
 (try simp only [Array.setIfInBounds, zL] at kp4)
 have m4 := m3.thenB mS (.inl gp4)
 clear mS
 (refine TE.val0 (v := ?v14) (by simp only [zK]; rfl) (by rfl) (fun w1 => ?y14) ?n14; (case y14 => go_simp; try with_reducible rfl); try simp only [Act.put, zL])
 refine TE.nil ?_
 go_wp2_with fail
 exact bodyPost_ret (results_cell2 (x := .agg (itr y)) rfl rfl (by rw [ldItem]; simp [kp4, itr_all, itr_size])) rfl ⟨rfl, m4⟩
set_option maxRecDepth 20000 in
set_option maxHeartbeats 1600000 in
theorem heldN_c (HB : Bf w b s h R C Ts Th Tr) {n : Int} (hn : Away R n) : Calls Tryz.prog 46 #[ptrV b, .int .i64 n] w fun e w' => e = .returned (.tuple #[.agg zItem, .int .i64 11]) ∧ Mod (fun _ => False) w w' := by
 have kb := HB.kb
 have HH := Lib.hid (And.intro HB hn)
 clear HB hn
 go_enter Tryz.func46, Tryz.ntmps46
 go_upto_region 0 with fail
 have Lkb := lt_size kb
 refine wp_pass0 (C := fun _ _ _ => False) (κ := fun i => [3, 0].getD i 0) [0, 1] (by kernel_rfl) (by kernel_rfl) (fun _ _ d _ _ h => by cases d <;> first | exact h | exact absurd h (hP _ _ _)) ?_
 (refine TD.allocB (by simp only [zK]; rfl) rfl (by rfl) rfl rfl alItem (fun p4 hp4 => ?n15); try simp only [Act.put, zL])
 (refine TD.val0 (v := ?v16) (by simp only [zK]; rfl) rfl (by rfl) (fun w1 => ?y16) ?n16; (case y16 => go_simp; try with_reducible rfl); try simp only [Act.put, zL])
 refine TD.nil (fun w1 hr => ?_)
 have kb := hr.mod.at kb (fun h => h)
 have kp4 := hr.box p4 _ (by first | exact Bx.set_same _ _ _ | (simp only [Bx.set_same]; rfl)); dsimp only [Value.cells] at kp4; obtain ⟨gp4, kp4⟩ := kp4
 have m1 := hr.mod
 clear hr
 go_wp2_with fail
 go_at_call 35
 refine (bthere_c kb).mono ?_
 rintro e w2 ⟨rfl, rfl⟩
 go_upto_region 3 with fail
 have Lkb := lt_size kb
 have Lkp4 := lt_size kp4
 refine wp_pass0 (C := fun _ _ v => v = .tuple #[.agg zItem, .int .i64 11]) (κ := fun i => [0, 0, 0, 0, 1, 0, 2, 0, 0, 5, 0].getD i 0) [0, 1, 2, 3, 4, 5, 6, 7, 8, 9, 10] (by kernel_rfl) (by kernel_rfl) (fun _ _ d _ _ h => by cases d <;> first | exact h | exact absurd h (hP _ _ _)) ?_
 (refine TD.val0 (v := ?v17) (by simp only [zK]; rfl) rfl (by rfl) (fun w1 => ?y17) ?n17; (case y17 => go_simp; try with_reducible rfl); try simp only [Act.put, zL])
 (refine TD.val0 (v := ?v18) (by simp only [zK]; rfl) rfl (by rfl) (fun w1 => ?y18) ?n18; (case y18 => go_simp; try with_reducible rfl); try simp only [Act.put, zL])
 (refine TD.val0 (v := ?v19) (by simp only [zK]; rfl) rfl (by rfl) (fun w1 => ?y19) ?n19; (case y19 => go_simp; try with_reducible rfl); try simp only [Act.put, zL])
 (refine TD.val0 (v := ?v20) (by simp only [zK]; rfl) rfl (by rfl) (fun w1 => ?y20) ?n20; (case y20 => go_simp; try with_reducible rfl); try simp only [Act.put, zL])
 (refine TD.load (v := ?v21) (p := ?p21) (Mod.refl _ _) (by simp only [zK]; rfl) rfl (by rfl) rfl ?hx21 (fun wq hSq => ?y21) ?n21; (case hx21 => simp only [Act.eval, zM]; try rfl); (case y21 => (have kbq := hSq.at kb (fun h => h); have kp4q := hSq.at kp4 (fun h => h); go_simp; (try with_reducible rfl))); try simp only [Act.put, zL])
 (refine TD.val0 (v := ?v22) (by simp only [zK]; rfl) rfl (by rfl) (fun w1 => ?y22) ?n22; (case y22 => go_simp; try with_reducible rfl); try simp only [Act.put, zL])
 (refine TD.call (f := ?f23) (args := ?r23) (Mod.refl _ _) (by simp only [zK]; rfl) rfl (by rfl) (fun w1 => ?y23) ?hsp23 ?n23; (case y23 => (go_simp; (first | with_reducible rfl | (constructor <;> with_reducible rfl)))); (case hsp23 => (intro wq hSq; have kbq := hSq.at kb (fun h => h); have kp4q := hSq.at kp4 (fun h => h); exact (sgetN_c (HH.out.1.mod0 (m1.then0 hSq)).sat HH.out.2).mono (fun e w' h => ⟨_, h.1, rfl, h.2⟩))); rintro _ rfl; try simp only [Act.put, zL])
 (refine TD.val0 (v := ?v24) (by simp only [zK]; rfl) rfl (by rfl) (fun w1 => ?y24) ?n24; (case y24 => go_simp; try with_reducible rfl); try simp only [Act.put, zL])
 (refine TD.val0 (v := ?v25) (by simp only [zK]; rfl) rfl (by rfl) (fun w1 => ?y25) ?n25; (case y25 => go_simp; try with_reducible rfl); try simp only [Act.put, zL])
 refine TD.eff (by simp only [zK]; rfl) rfl (fun w3 hr => ?_)
 have kb := hr.mod.at kb (fun h => h)
 have kp4 := hr.mod.at kp4 (fun h => h)
 have m3 := m1.then0 hr.mod
 clear hr
 (refine eff_store (X := ?X27) (Y := ?Y27) (w' := ?w27) (by simp only [zK]; rfl) (by rfl) rfl ?hx27 ?hz27 ?y27 ?n27; (case hx27 => simp only [Act.eval, zM]; try rfl); (case hz27 => simp only [Act.eval, zM]; try rfl); (case y27 => go_simp; try with_reducible rfl))
 (first | refine TE.mid_set kp4 (fun wn kp4 mS => ?_) | refine TE.mid_setCell kp4 (fun wn kp4 mS => ?_))
 (try simp only [Array.setIfInBounds, zL] at kp4)
 have m4 := m3.thenB mS (.inl gp4)
 clear mS
 (refine TE.val0 (v := ?v28) (by simp only [zK]; rfl) (by rfl) (fun w1 => ?y28) ?n28; (case y28 => go_simp; try with_reducible rfl); try simp only [Act.put, zL])
 refine TE.nil ?_
 go_wp2_with fail
 exact bodyPost_ret (results_cell2 (x := .agg zItem) rfl rfl (by rw [ldItem]; simp [kp4, zItem, itr_all, itr_size])) rfl ⟨rfl, m4⟩
theorem heldA_c (H : BH w0 O b S w) {n : Int} (hn : AwayS S n) : Calls Tryz.prog 46 #[ptrV b, .int .i64 n] w fun e w' => e = .returned (.tuple #[.agg zItem, .int .i64 11]) ∧ Mod (fun _ => False) w w' := by
 obtain ⟨s, h, R, C, Ts, Th, Tr, HB, rfl, hperm, hT, m⟩ := H
 exact heldN_c HB hn.con
theorem slenS_c (hs : SAt s R Ts w) : Calls Tryz.prog 58 #[ptrV s] w fun e w' => e = .returned (.int .i64 (R.countP Option.isSome : Nat)) ∧ Mod (fun _ => False) w w' := by
 obtain ⟨g, u, cur, us, H, _⟩ := hs
 exact (slen_c H).mono fun e w' h => ⟨h.1, by rw [h.2]; exact Mod.refl _ _⟩
set_option maxRecDepth 20000 in
set_option maxHeartbeats 1600000 in
theorem blen_c (H : BH w0 O b S w) : Calls Tryz.prog 28 #[ptrV b] w fun e w' => e = .returned (.int .i64 (S.countP Option.isSome)) ∧ Mod (fun _ => False) w w' := by
 obtain ⟨s, h, R, C, Ts, Th, Tr, HB, rfl, hperm, hT, m⟩ := H
 have kb := HB.kb
 have HH := Lib.hid HB
 have hcnt : (conS R).countP Option.isSome = R.countP Option.isSome := by
  unfold conS
  rw [List.countP_map]
  exact List.countP_congr (fun o _ => by cases o <;> simp)
 rw [hcnt]
 generalize hN : R.countP Option.isSome = N
 have HN := Lib.hid hN
 clear HB hperm hT m hcnt hN
 go_enter Tryz.func28, Tryz.ntmps28
 go_wp2_with fail
 go_at_call 35
 refine (bthere_c kb).mono ?_
 rintro e w2 ⟨rfl, rfl⟩
 go_upto_region 3 with fail
 have Lkb := lt_size kb
 refine wp_pass0 (C := fun _ _ v => v = .int .i64 N) (κ := fun i => [0, 0, 0, 0, 1, 2, 0].getD i 0) [0, 1, 2, 3, 4, 5, 6] (by kernel_rfl) (by kernel_rfl) (fun _ _ d _ _ h => by cases d <;> first | exact h | exact absurd h (hP _ _ _)) ?_
 (refine TD.val0 (v := ?v29) (by simp only [zK]; rfl) rfl (by rfl) (fun w1 => ?y29) ?n29; (case y29 => go_simp; try with_reducible rfl); try simp only [Act.put, zL])
 (refine TD.val0 (v := ?v30) (by simp only [zK]; rfl) rfl (by rfl) (fun w1 => ?y30) ?n30; (case y30 => go_simp; try with_reducible rfl); try simp only [Act.put, zL])
 (refine TD.val0 (v := ?v31) (by simp only [zK]; rfl) rfl (by rfl) (fun w1 => ?y31) ?n31; (case y31 => go_simp; try with_reducible rfl); try simp only [Act.put, zL])
 (refine TD.val0 (v := ?v32) (by simp only [zK]; rfl) rfl (by rfl) (fun w1 => ?y32) ?n32; (case y32 => go_simp; try with_reducible rfl); try simp only [Act.put, zL])
 (refine TD.load (v := ?v33) (p := ?p33) (Mod.refl _ _) (by simp only [zK]; rfl) rfl (by rfl) rfl ?hx33 (fun wq hSq => ?y33) ?n33; (case hx33 => simp only [Act.eval, zM]; try rfl); (case y33 => (have kbq := hSq.at kb (fun h => h); go_simp; (try with_reducible rfl))); try simp only [Act.put, zL])
 (refine TD.call (f := ?f34) (args := ?r34) (Mod.refl _ _) (by simp only [zK]; rfl) rfl (by rfl) (fun w1 => ?y34) ?hsp34 ?n34; (case y34 => (go_simp; (first | with_reducible rfl | (constructor <;> with_reducible rfl)))); (case hsp34 => (intro wq hSq; have kbq := hSq.at kb (fun h => h); exact (slenS_c (HH.out.mod0 hSq).sat).mono (fun e w' h => ⟨_, h.1, by rw [HN.out], h.2⟩))); rintro _ rfl; try simp only [Act.put, zL])
 (refine TD.val0 (v := ?v35) (by simp only [zK]; rfl) rfl (by rfl) (fun w1 => ?y35) ?n35; (case y35 => go_simp; try with_reducible rfl); try simp only [Act.put, zL])
 refine TD.nil (fun w3 hr => ?_)
 have kb := hr.mod.at kb (fun h => h)
 have m3 := hr.mod
 clear hr
 go_wp2_with fail
 go_ret
 exact ⟨rfl, m3⟩
set_option maxRecDepth 20000 in
set_option maxHeartbeats 1600000 in
theorem bwait_c (H : BH w0 O b S w) {D : List Nd} (hD : D.Perm (wtg 0 S)) (hS : Srt D) : Calls Tryz.prog 18 #[ptrV b] w fun e w' => ∃ v, e = .returned v ∧ SlOwn ic 1 3 w' w.heap.size v (D.map Nd.id) ∧ Mod (fun _ => False) w w' := by
 have hsl := H.len
 obtain ⟨s, h, R, C, Ts, Th, Tr, HB, rfl, hperm, hT, m⟩ := H
 have kb := HB.kb
 have hC : C.length ≤ 700000 := by
  have h1 := hperm.length_eq
  have h2 := wtg_len (S := conS R) (k := 0)
  omega
 have HH := Lib.hid (And.intro HB (And.intro (hD.trans hperm.symm) (And.intro hS hC)))
 clear HB hperm hT m hC hS hD hsl
 go_enter Tryz.func18, Tryz.ntmps18
 go_wp2_with fail
 go_at_call 35
 refine (bthere_c kb).mono ?_
 rintro e w2 ⟨rfl, rfl⟩
 go_wp2_with fail
 go_at_call 47
 refine (listS_c HH.out.1.hat HH.out.2.1 HH.out.2.2.1 HH.out.2.2.2).mono ?_
 rintro e w3 ⟨v, rfl, ho, m3⟩
 have HO := Lib.hid (And.intro ho m3)
 clear ho m3
 go_wp2_with fail
 go_ret
 exact ⟨_, rfl, HO.out.1, HO.out.2⟩
end
end Go.Proofs.YtdeghpmlhcaedaaGreatDoor
namespace Go.Proofs.YtdeghpmlhcaedaaGreatDoor
open Go.RowKit
open Go.ChangeMaps (setBlock)
attribute [local go_sem ↓] wlItem ldItem stItem wlRk ldRk stRk eqRk eqRk2
attribute [local go_sem] cell_blk frozen_blk one_int one_bool one_ptr one_slice one_map Value.cells rkc_size rkc_all1 itr_size itr_all itr_one itr_one' itr_n itr_prio itr_pl itr_sent itr_n' itr_prio' itr_pl' itr_sent' itr_r zItem_size zItem_all zItem_one
theorem u8_is {p : UInt8} (k : UInt8) {K : Int} (hk : (k.toNat : Int) = K) (h : p = k) : ((p.toNat : Int) == K) = true := by subst h; subst hk; exact beq_self_eq_true _
theorem u8_not {p : UInt8} (k : UInt8) {K : Int} (hk : (k.toNat : Int) = K) (h : p ≠ k) : ((p.toNat : Int) == K) = false := by
 rw [beq_eq_false_iff_ne]
 intro e
 subst hk
 exact h (UInt8.toNat_inj.1 (by exact_mod_cast e))
section
variable {w0 w w' ws : World} {O : Nat → Prop} {b : Nat} {S : List (Option It)}
theorem heldP_c (H : BH w0 O b S w) {i : Nat} {x : It} (hx : S[i]? = some (some x)) : ∃ y : ItR, y.con = x ∧ ∀ wq, Mod (fun _ => False) w wq → Calls Tryz.prog 46 #[ptrV b, .int .i64 (i : Int)] wq fun e w' => e = .returned (.tuple #[.agg (itr y), .int .i64 0]) ∧ Mod (fun _ => False) wq w' := by
 obtain ⟨s, h, R, C, Ts, Th, Tr, HB, rfl, hperm, hT, m⟩ := H
 obtain ⟨y, hy, rfl⟩ := con_at hx
 exact ⟨y, rfl, fun wq hq => heldY_c (HB.mod0 hq) hy⟩
set_option maxRecDepth 20000 in
set_option maxHeartbeats 3200000 in
theorem ParkN_c (H : BH w0 O b S w) {n : Int} (hn : AwayS S n) : Calls Tryz.prog 16 #[ptrV b, .int .i64 n] w fun e w' => e = .returned (.int .i64 11) ∧ Mod (fun _ => False) w w' := by
 have HH := Lib.hid (And.intro H hn)
 clear H hn
 go_enter Tryz.func16, Tryz.ntmps16
 go_upto_region 1 with fail
 refine wp_pass0 (C := fun _ _ v => v = .tuple #[.agg zItem, .int .i64 11]) (κ := fun i => [0, 0, 2, 0, 0, 0, 3, 4, 0].getD i 0) [0, 1, 2, 3, 4, 5, 6, 7, 8] (by kernel_rfl) (by kernel_rfl) (fun _ _ d _ _ h => by cases d <;> first | exact h | exact absurd h (hP _ _ _)) ?_
 (refine TD.val0 (v := ?v1) (by simp only [zK]; rfl) rfl (by rfl) (fun w1 => ?y1) ?n1; (case y1 => go_simp; try with_reducible rfl); try simp only [Act.put, zL])
 (refine TD.val0 (v := ?v2) (by simp only [zK]; rfl) rfl (by rfl) (fun w1 => ?y2) ?n2; (case y2 => go_simp; try with_reducible rfl); try simp only [Act.put, zL])
 (refine TD.call (f := ?f3) (args := ?r3) (Mod.refl _ _) (by simp only [zK]; rfl) rfl (by rfl) (fun w1 => ?y3) ?hsp3 ?n3; (case y3 => (go_simp; (first | with_reducible rfl | (constructor <;> with_reducible rfl)))); (case hsp3 => (intro wq hSq; exact (heldA_c (HH.out.1.mod0 hSq) HH.out.2).mono (fun e w' h => ⟨_, h.1, rfl, h.2⟩))); rintro _ rfl; try simp only [Act.put, zL])
 (refine TD.val0 (v := ?v4) (by simp only [zK]; rfl) rfl (by rfl) (fun w1 => ?y4) ?n4; (case y4 => go_simp; try with_reducible rfl); try simp only [Act.put, zL])
 (refine TD.val0 (v := ?v5) (by simp only [zK]; rfl) rfl (by rfl) (fun w1 => ?y5) ?n5; (case y5 => go_simp; try with_reducible rfl); try simp only [Act.put, zL])
 (refine TD.val0 (v := ?v6) (by simp only [zK]; rfl) rfl (by rfl) (fun w1 => ?y6) ?n6; (case y6 => go_simp; try with_reducible rfl); try simp only [Act.put, zL])
 (refine TD.allocB (by simp only [zK]; rfl) rfl (by rfl) rfl rfl alItem (fun p5 hp5 => ?n7); try simp only [Act.put, zL])
 (refine TD.storeB (d := ?d8) (T := ?T8) (y := ?y8) (p := ?p8) (b := ?b8) (v := ?v8) (by simp only [zK]; rfl) rfl (by rfl) ?hd8 ?hop8 ?hev8 ?hx8 ?hb8 ?htag8 (fun w1 hb1 => ?hy8) ?hn8; (case hd8 => rfl); (case hop8 => rfl); (case hev8 => (simp only [Act.eval, zM]; (try rfl))); (case hx8 => simp only [Act.eval, zM]; try rfl); (case hb8 => first | exact Bx.set_same _ _ _ | (simp only [Bx.set_same]; rfl)); (case hy8 => (go_simp; (try first | with_reducible rfl | (rw [setCell_blk hb1]; rfl)))); try simp only [Act.put, zL])
 (refine TD.val0 (v := ?v9) (by simp only [zK]; rfl) rfl (by rfl) (fun w1 => ?y9) ?n9; (case y9 => go_simp; try with_reducible rfl); try simp only [Act.put, zL])
 refine TD.nil (fun w3 hr => ?_)
 have kp5 := hr.box p5 _ (by first | exact Bx.set_same _ _ _ | (simp only [Bx.set_same]; rfl)); dsimp only [Value.cells] at kp5; obtain ⟨gp5, kp5⟩ := kp5
 have m3 := hr.mod
 clear hr
 go_wp2_with fail
 first
 | (go_ret; exact ⟨rfl, m3⟩)
 | (exact bodyPost_ret (results_tmp rfl _ _ _) rfl ⟨rfl, m3⟩)
set_option maxRecDepth 20000 in
set_option maxHeartbeats 3200000 in
theorem BackN_c (H : BH w0 O b S w) {n : Int} (hn : AwayS S n) : Calls Tryz.prog 15 #[ptrV b, .int .i64 n] w fun e w' => e = .returned (.int .i64 11) ∧ Mod (fun _ => False) w w' := by
 have HH := Lib.hid (And.intro H hn)
 clear H hn
 go_enter Tryz.func15, Tryz.ntmps15
 go_upto_region 1 with fail
 refine wp_pass0 (C := fun _ _ v => v = .tuple #[.agg zItem, .int .i64 11]) (κ := fun i => [0, 0, 2, 0, 0, 0, 3, 4, 0].getD i 0) [0, 1, 2, 3, 4, 5, 6, 7, 8] (by kernel_rfl) (by kernel_rfl) (fun _ _ d _ _ h => by cases d <;> first | exact h | exact absurd h (hP _ _ _)) ?_
 (refine TD.val0 (v := ?v10) (by simp only [zK]; rfl) rfl (by rfl) (fun w1 => ?y10) ?n10; (case y10 => go_simp; try with_reducible rfl); try simp only [Act.put, zL])
 (refine TD.val0 (v := ?v11) (by simp only [zK]; rfl) rfl (by rfl) (fun w1 => ?y11) ?n11; (case y11 => go_simp; try with_reducible rfl); try simp only [Act.put, zL])
 (refine TD.call (f := ?f12) (args := ?r12) (Mod.refl _ _) (by simp only [zK]; rfl) rfl (by rfl) (fun w1 => ?y12) ?hsp12 ?n12; (case y12 => (go_simp; (first | with_reducible rfl | (constructor <;> with_reducible rfl)))); (case hsp12 => (intro wq hSq; exact (heldA_c (HH.out.1.mod0 hSq) HH.out.2).mono (fun e w' h => ⟨_, h.1, rfl, h.2⟩))); rintro _ rfl; try simp only [Act.put, zL])
 (refine TD.val0 (v := ?v13) (by simp only [zK]; rfl) rfl (by rfl) (fun w1 => ?y13) ?n13; (case y13 => go_simp; try with_reducible rfl); try simp only [Act.put, zL])
 (refine TD.val0 (v := ?v14) (by simp only [zK]; rfl) rfl (by rfl) (fun w1 => ?y14) ?n14; (case y14 => go_simp; try with_reducible rfl); try simp only [Act.put, zL])
 (refine TD.val0 (v := ?v15) (by simp only [zK]; rfl) rfl (by rfl) (fun w1 => ?y15) ?n15; (case y15 => go_simp; try with_reducible rfl); try simp only [Act.put, zL])
 (refine TD.allocB (by simp only [zK]; rfl) rfl (by rfl) rfl rfl alItem (fun p5 hp5 => ?n16); try simp only [Act.put, zL])
 (refine TD.storeB (d := ?d17) (T := ?T17) (y := ?y17) (p := ?p17) (b := ?b17) (v := ?v17) (by simp only [zK]; rfl) rfl (by rfl) ?hd17 ?hop17 ?hev17 ?hx17 ?hb17 ?htag17 (fun w1 hb1 => ?hy17) ?hn17; (case hd17 => rfl); (case hop17 => rfl); (case hev17 => (simp only [Act.eval, zM]; (try rfl))); (case hx17 => simp only [Act.eval, zM]; try rfl); (case hb17 => first | exact Bx.set_same _ _ _ | (simp only [Bx.set_same]; rfl)); (case hy17 => (go_simp; (try first | with_reducible rfl | (rw [setCell_blk hb1]; rfl)))); try simp only [Act.put, zL])
 (refine TD.val0 (v := ?v18) (by simp only [zK]; rfl) rfl (by rfl) (fun w1 => ?y18) ?n18; (case y18 => go_simp; try with_reducible rfl); try simp only [Act.put, zL])
 refine TD.nil (fun w3 hr => ?_)
 have kp5 := hr.box p5 _ (by first | exact Bx.set_same _ _ _ | (simp only [Bx.set_same]; rfl)); dsimp only [Value.cells] at kp5; obtain ⟨gp5, kp5⟩ := kp5
 have m3 := hr.mod
 clear hr
 go_wp2_with fail
 first
 | (go_ret; exact ⟨rfl, m3⟩)
 | (exact bodyPost_ret (results_tmp rfl _ _ _) rfl ⟨rfl, m3⟩)
set_option maxRecDepth 20000 in
set_option maxHeartbeats 3200000 in
theorem DoneN_c (H : BH w0 O b S w) {n : Int} (hn : AwayS S n) : Calls Tryz.prog 24 #[ptrV b, .int .i64 n] w fun e w' => e = .returned (.int .i64 11) ∧ Mod (fun _ => False) w w' := by
 have HH := Lib.hid (And.intro H hn)
 clear H hn
 go_enter Tryz.func24, Tryz.ntmps24
 go_upto_region 1 with fail
 refine wp_pass0 (C := fun _ _ v => v = .tuple #[.agg zItem, .int .i64 11]) (κ := fun i => [0, 0, 2, 0, 0, 0, 3, 4, 0].getD i 0) [0, 1, 2, 3, 4, 5, 6, 7, 8] (by kernel_rfl) (by kernel_rfl) (fun _ _ d _ _ h => by cases d <;> first | exact h | exact absurd h (hP _ _ _)) ?_
 (refine TD.val0 (v := ?v19) (by simp only [zK]; rfl) rfl (by rfl) (fun w1 => ?y19) ?n19; (case y19 => go_simp; try with_reducible rfl); try simp only [Act.put, zL])
 (refine TD.val0 (v := ?v20) (by simp only [zK]; rfl) rfl (by rfl) (fun w1 => ?y20) ?n20; (case y20 => go_simp; try with_reducible rfl); try simp only [Act.put, zL])
 (refine TD.call (f := ?f21) (args := ?r21) (Mod.refl _ _) (by simp only [zK]; rfl) rfl (by rfl) (fun w1 => ?y21) ?hsp21 ?n21; (case y21 => (go_simp; (first | with_reducible rfl | (constructor <;> with_reducible rfl)))); (case hsp21 => (intro wq hSq; exact (heldA_c (HH.out.1.mod0 hSq) HH.out.2).mono (fun e w' h => ⟨_, h.1, rfl, h.2⟩))); rintro _ rfl; try simp only [Act.put, zL])
 (refine TD.val0 (v := ?v22) (by simp only [zK]; rfl) rfl (by rfl) (fun w1 => ?y22) ?n22; (case y22 => go_simp; try with_reducible rfl); try simp only [Act.put, zL])
 (refine TD.val0 (v := ?v23) (by simp only [zK]; rfl) rfl (by rfl) (fun w1 => ?y23) ?n23; (case y23 => go_simp; try with_reducible rfl); try simp only [Act.put, zL])
 (refine TD.val0 (v := ?v24) (by simp only [zK]; rfl) rfl (by rfl) (fun w1 => ?y24) ?n24; (case y24 => go_simp; try with_reducible rfl); try simp only [Act.put, zL])
 (refine TD.allocB (by simp only [zK]; rfl) rfl (by rfl) rfl rfl alItem (fun p5 hp5 => ?n25); try simp only [Act.put, zL])
 (refine TD.storeB (d := ?d26) (T := ?T26) (y := ?y26) (p := ?p26) (b := ?b26) (v := ?v26) (by simp only [zK]; rfl) rfl (by rfl) ?hd26 ?hop26 ?hev26 ?hx26 ?hb26 ?htag26 (fun w1 hb1 => ?hy26) ?hn26; (case hd26 => rfl); (case hop26 => rfl); (case hev26 => (simp only [Act.eval, zM]; (try rfl))); (case hx26 => simp only [Act.eval, zM]; try rfl); (case hb26 => first | exact Bx.set_same _ _ _ | (simp only [Bx.set_same]; rfl)); (case hy26 => (go_simp; (try first | with_reducible rfl | (rw [setCell_blk hb1]; rfl)))); try simp only [Act.put, zL])
 (refine TD.val0 (v := ?v27) (by simp only [zK]; rfl) rfl (by rfl) (fun w1 => ?y27) ?n27; (case y27 => go_simp; try with_reducible rfl); try simp only [Act.put, zL])
 refine TD.nil (fun w3 hr => ?_)
 have kp5 := hr.box p5 _ (by first | exact Bx.set_same _ _ _ | (simp only [Bx.set_same]; rfl)); dsimp only [Value.cells] at kp5; obtain ⟨gp5, kp5⟩ := kp5
 have m3 := hr.mod
 clear hr
 go_wp2_with fail
 first
 | (go_ret; exact ⟨rfl, m3⟩)
 | (exact bodyPost_ret (results_tmp rfl _ _ _) rfl ⟨rfl, m3⟩)
set_option maxRecDepth 20000 in
set_option maxHeartbeats 3200000 in
theorem SendN_c (H : BH w0 O b S w) {n : Int} (hn : AwayS S n) : Calls Tryz.prog 26 #[ptrV b, .int .i64 n] w fun e w' => e = .returned (.int .i64 11) ∧ Mod (fun _ => False) w w' := by
 have HH := Lib.hid (And.intro H hn)
 clear H hn
 go_enter Tryz.func26, Tryz.ntmps26
 go_upto_region 1 with fail
 refine wp_pass0 (C := fun _ _ v => v = .tuple #[.agg zItem, .int .i64 11]) (κ := fun i => [0, 0, 2, 0, 0, 0, 3, 4, 0].getD i 0) [0, 1, 2, 3, 4, 5, 6, 7, 8] (by kernel_rfl) (by kernel_rfl) (fun _ _ d _ _ h => by cases d <;> first | exact h | exact absurd h (hP _ _ _)) ?_
 (refine TD.val0 (v := ?v28) (by simp only [zK]; rfl) rfl (by rfl) (fun w1 => ?y28) ?n28; (case y28 => go_simp; try with_reducible rfl); try simp only [Act.put, zL])
 (refine TD.val0 (v := ?v29) (by simp only [zK]; rfl) rfl (by rfl) (fun w1 => ?y29) ?n29; (case y29 => go_simp; try with_reducible rfl); try simp only [Act.put, zL])
 (refine TD.call (f := ?f30) (args := ?r30) (Mod.refl _ _) (by simp only [zK]; rfl) rfl (by rfl) (fun w1 => ?y30) ?hsp30 ?n30; (case y30 => (go_simp; (first | with_reducible rfl | (constructor <;> with_reducible rfl)))); (case hsp30 => (intro wq hSq; exact (heldA_c (HH.out.1.mod0 hSq) HH.out.2).mono (fun e w' h => ⟨_, h.1, rfl, h.2⟩))); rintro _ rfl; try simp only [Act.put, zL])
 (refine TD.val0 (v := ?v31) (by simp only [zK]; rfl) rfl (by rfl) (fun w1 => ?y31) ?n31; (case y31 => go_simp; try with_reducible rfl); try simp only [Act.put, zL])
 (refine TD.val0 (v := ?v32) (by simp only [zK]; rfl) rfl (by rfl) (fun w1 => ?y32) ?n32; (case y32 => go_simp; try with_reducible rfl); try simp only [Act.put, zL])
 (refine TD.val0 (v := ?v33) (by simp only [zK]; rfl) rfl (by rfl) (fun w1 => ?y33) ?n33; (case y33 => go_simp; try with_reducible rfl); try simp only [Act.put, zL])
 (refine TD.allocB (by simp only [zK]; rfl) rfl (by rfl) rfl rfl alItem (fun p5 hp5 => ?n34); try simp only [Act.put, zL])
 (refine TD.storeB (d := ?d35) (T := ?T35) (y := ?y35) (p := ?p35) (b := ?b35) (v := ?v35) (by simp only [zK]; rfl) rfl (by rfl) ?hd35 ?hop35 ?hev35 ?hx35 ?hb35 ?htag35 (fun w1 hb1 => ?hy35) ?hn35; (case hd35 => rfl); (case hop35 => rfl); (case hev35 => (simp only [Act.eval, zM]; (try rfl))); (case hx35 => simp only [Act.eval, zM]; try rfl); (case hb35 => first | exact Bx.set_same _ _ _ | (simp only [Bx.set_same]; rfl)); (case hy35 => (go_simp; (try first | with_reducible rfl | (rw [setCell_blk hb1]; rfl)))); try simp only [Act.put, zL])
 (refine TD.val0 (v := ?v36) (by simp only [zK]; rfl) rfl (by rfl) (fun w1 => ?y36) ?n36; (case y36 => go_simp; try with_reducible rfl); try simp only [Act.put, zL])
 refine TD.nil (fun w3 hr => ?_)
 have kp5 := hr.box p5 _ (by first | exact Bx.set_same _ _ _ | (simp only [Bx.set_same]; rfl)); dsimp only [Value.cells] at kp5; obtain ⟨gp5, kp5⟩ := kp5
 have m3 := hr.mod
 clear hr
 go_wp2_with fail
 first
 | (go_ret; exact ⟨rfl, m3⟩)
 | (exact bodyPost_ret (results_tmp rfl _ _ _) rfl ⟨rfl, m3⟩)
set_option maxRecDepth 20000 in
set_option maxHeartbeats 3200000 in
theorem ParkY_c (H : BH w0 O b S w) {i : Nat} {x : It} (hx : S[i]? = some (some x)) (hp : x.pl = 1) : Calls Tryz.prog 16 #[ptrV b, .int .i64 (i : Int)] w fun e w' => e = .returned (.int .i64 0) ∧ BH w0 O b (S.set i (some { x with pl := 2 })) w' := by
 obtain ⟨y, hy, hc⟩ := heldP_c H hx
 have hpl : ((y.pl.toNat : Int) == 1) = true := u8_is 1 rfl (UInt8.toNat_inj.1 (by rw [← hy] at hp; exact hp))
 have HH := Lib.hid (And.intro H (And.intro hx (And.intro hy hc)))
 clear H hx hy hc hp
 go_enter Tryz.func16, Tryz.ntmps16
 go_upto_region 1 with fail
 refine wp_pass0 (C := fun _ _ v => v = .tuple #[.agg (itr y), .int .i64 0]) (κ := fun i => [0, 0, 2, 0, 0, 0, 3, 4, 0].getD i 0) [0, 1, 2, 3, 4, 5, 6, 7, 8] (by kernel_rfl) (by kernel_rfl) (fun _ _ d _ _ h => by cases d <;> first | exact h | exact absurd h (hP _ _ _)) ?_
 (refine TD.val0 (v := ?v37) (by simp only [zK]; rfl) rfl (by rfl) (fun w1 => ?y37) ?n37; (case y37 => go_simp; try with_reducible rfl); try simp only [Act.put, zL])
 (refine TD.val0 (v := ?v38) (by simp only [zK]; rfl) rfl (by rfl) (fun w1 => ?y38) ?n38; (case y38 => go_simp; try with_reducible rfl); try simp only [Act.put, zL])
 (refine TD.call (f := ?f39) (args := ?r39) (Mod.refl _ _) (by simp only [zK]; rfl) rfl (by rfl) (fun w1 => ?y39) ?hsp39 ?n39; (case y39 => (go_simp; (first | with_reducible rfl | (constructor <;> with_reducible rfl)))); (case hsp39 => (intro wq hSq; exact (HH.out.2.2.2 wq hSq).mono (fun e w' h => ⟨_, h.1, rfl, h.2⟩))); rintro _ rfl; try simp only [Act.put, zL])
 (refine TD.val0 (v := ?v40) (by simp only [zK]; rfl) rfl (by rfl) (fun w1 => ?y40) ?n40; (case y40 => go_simp; try with_reducible rfl); try simp only [Act.put, zL])
 (refine TD.val0 (v := ?v41) (by simp only [zK]; rfl) rfl (by rfl) (fun w1 => ?y41) ?n41; (case y41 => go_simp; try with_reducible rfl); try simp only [Act.put, zL])
 (refine TD.val0 (v := ?v42) (by simp only [zK]; rfl) rfl (by rfl) (fun w1 => ?y42) ?n42; (case y42 => go_simp; try with_reducible rfl); try simp only [Act.put, zL])
 (refine TD.allocB (by simp only [zK]; rfl) rfl (by rfl) rfl rfl alItem (fun p5 hp5 => ?n43); try simp only [Act.put, zL])
 (refine TD.storeB (d := ?d44) (T := ?T44) (y := ?y44) (p := ?p44) (b := ?b44) (v := ?v44) (by simp only [zK]; rfl) rfl (by rfl) ?hd44 ?hop44 ?hev44 ?hx44 ?hb44 ?htag44 (fun w1 hb1 => ?hy44) ?hn44; (case hd44 => rfl); (case hop44 => rfl); (case hev44 => (simp only [Act.eval, zM]; (try rfl))); (case hx44 => simp only [Act.eval, zM]; try rfl); (case hb44 => first | exact Bx.set_same _ _ _ | (simp only [Bx.set_same]; rfl)); (case hy44 => (go_simp; (try first | with_reducible rfl | (rw [setCell_blk hb1]; rfl)))); try simp only [Act.put, zL])
 (refine TD.val0 (v := ?v45) (by simp only [zK]; rfl) rfl (by rfl) (fun w1 => ?y45) ?n45; (case y45 => go_simp; try with_reducible rfl); try simp only [Act.put, zL])
 refine TD.nil (fun w3 hr => ?_)
 have kp5 := hr.box p5 _ (by first | exact Bx.set_same _ _ _ | (simp only [Bx.set_same]; rfl)); dsimp only [Value.cells] at kp5; obtain ⟨gp5, kp5⟩ := kp5
 have m3 := hr.mod
 clear hr
 go_wp2_with fail
 go_at_call 45
 refine (turn_c (HH.out.1.mod0 m3) HH.out.2.1 2).mono ?_
 rintro e w4 ⟨rfl, H4⟩
 have HX := Lib.hid H4
 clear H4
 go_wp2_with fail
 go_ret
 exact ⟨rfl, HX.out⟩
set_option maxRecDepth 20000 in
set_option maxHeartbeats 3200000 in
theorem ParkX_c (H : BH w0 O b S w) {i : Nat} {x : It} (hx : S[i]? = some (some x)) (hp : x.pl ≠ 1) : Calls Tryz.prog 16 #[ptrV b, .int .i64 (i : Int)] w fun e w' => e = .returned (.int .i64 23) ∧ Mod (fun _ => False) w w' := by
 obtain ⟨y, hy, hc⟩ := heldP_c H hx
 have hpl : ((y.pl.toNat : Int) == 1) = false := u8_not 1 rfl (fun e => hp (by rw [← hy]; show y.pl.toNat = 1; rw [e]; rfl))
 have HH := Lib.hid (And.intro H (And.intro hx (And.intro hy hc)))
 clear H hx hy hc hp
 go_enter Tryz.func16, Tryz.ntmps16
 go_upto_region 1 with fail
 refine wp_pass0 (C := fun _ _ v => v = .tuple #[.agg (itr y), .int .i64 0]) (κ := fun i => [0, 0, 2, 0, 0, 0, 3, 4, 0].getD i 0) [0, 1, 2, 3, 4, 5, 6, 7, 8] (by kernel_rfl) (by kernel_rfl) (fun _ _ d _ _ h => by cases d <;> first | exact h | exact absurd h (hP _ _ _)) ?_
 (refine TD.val0 (v := ?v46) (by simp only [zK]; rfl) rfl (by rfl) (fun w1 => ?y46) ?n46; (case y46 => go_simp; try with_reducible rfl); try simp only [Act.put, zL])
 (refine TD.val0 (v := ?v47) (by simp only [zK]; rfl) rfl (by rfl) (fun w1 => ?y47) ?n47; (case y47 => go_simp; try with_reducible rfl); try simp only [Act.put, zL])
 (refine TD.call (f := ?f48) (args := ?r48) (Mod.refl _ _) (by simp only [zK]; rfl) rfl (by rfl) (fun w1 => ?y48) ?hsp48 ?n48; (case y48 => (go_simp; (first | with_reducible rfl | (constructor <;> with_reducible rfl)))); (case hsp48 => (intro wq hSq; exact (HH.out.2.2.2 wq hSq).mono (fun e w' h => ⟨_, h.1, rfl, h.2⟩))); rintro _ rfl; try simp only [Act.put, zL])
 (refine TD.val0 (v := ?v49) (by simp only [zK]; rfl) rfl (by rfl) (fun w1 => ?y49) ?n49; (case y49 => go_simp; try with_reducible rfl); try simp only [Act.put, zL])
 (refine TD.val0 (v := ?v50) (by simp only [zK]; rfl) rfl (by rfl) (fun w1 => ?y50) ?n50; (case y50 => go_simp; try with_reducible rfl); try simp only [Act.put, zL])
 (refine TD.val0 (v := ?v51) (by simp only [zK]; rfl) rfl (by rfl) (fun w1 => ?y51) ?n51; (case y51 => go_simp; try with_reducible rfl); try simp only [Act.put, zL])
 (refine TD.allocB (by simp only [zK]; rfl) rfl (by rfl) rfl rfl alItem (fun p5 hp5 => ?n52); try simp only [Act.put, zL])
 (refine TD.storeB (d := ?d53) (T := ?T53) (y := ?y53) (p := ?p53) (b := ?b53) (v := ?v53) (by simp only [zK]; rfl) rfl (by rfl) ?hd53 ?hop53 ?hev53 ?hx53 ?hb53 ?htag53 (fun w1 hb1 => ?hy53) ?hn53; (case hd53 => rfl); (case hop53 => rfl); (case hev53 => (simp only [Act.eval, zM]; (try rfl))); (case hx53 => simp only [Act.eval, zM]; try rfl); (case hb53 => first | exact Bx.set_same _ _ _ | (simp only [Bx.set_same]; rfl)); (case hy53 => (go_simp; (try first | with_reducible rfl | (rw [setCell_blk hb1]; rfl)))); try simp only [Act.put, zL])
 (refine TD.val0 (v := ?v54) (by simp only [zK]; rfl) rfl (by rfl) (fun w1 => ?y54) ?n54; (case y54 => go_simp; try with_reducible rfl); try simp only [Act.put, zL])
 refine TD.nil (fun w3 hr => ?_)
 have kp5 := hr.box p5 _ (by first | exact Bx.set_same _ _ _ | (simp only [Bx.set_same]; rfl)); dsimp only [Value.cells] at kp5; obtain ⟨gp5, kp5⟩ := kp5
 have m3 := hr.mod
 clear hr
 go_wp2_with fail
 go_ret
 exact ⟨rfl, m3⟩
set_option maxRecDepth 20000 in
set_option maxHeartbeats 3200000 in
theorem BackY_c (H : BH w0 O b S w) {i : Nat} {x : It} (hx : S[i]? = some (some x)) (hp : x.pl ≠ 0) : Calls Tryz.prog 15 #[ptrV b, .int .i64 (i : Int)] w fun e w' => e = .returned (.int .i64 0) ∧ BH w0 O b (S.set i (some { x with pl := 0 })) w' := by
 obtain ⟨y, hy, hc⟩ := heldP_c H hx
 have hpl : ((y.pl.toNat : Int) == 0) = false := u8_not 0 rfl (fun e => hp (by rw [← hy]; show y.pl.toNat = 0; rw [e]; rfl))
 have HH := Lib.hid (And.intro H (And.intro hx (And.intro hy hc)))
 clear H hx hy hc hp
 go_enter Tryz.func15, Tryz.ntmps15
 go_upto_region 1 with fail
 refine wp_pass0 (C := fun _ _ v => v = .tuple #[.agg (itr y), .int .i64 0]) (κ := fun i => [0, 0, 2, 0, 0, 0, 3, 4, 0].getD i 0) [0, 1, 2, 3, 4, 5, 6, 7, 8] (by kernel_rfl) (by kernel_rfl) (fun _ _ d _ _ h => by cases d <;> first | exact h | exact absurd h (hP _ _ _)) ?_
 (refine TD.val0 (v := ?v55) (by simp only [zK]; rfl) rfl (by rfl) (fun w1 => ?y55) ?n55; (case y55 => go_simp; try with_reducible rfl); try simp only [Act.put, zL])
 (refine TD.val0 (v := ?v56) (by simp only [zK]; rfl) rfl (by rfl) (fun w1 => ?y56) ?n56; (case y56 => go_simp; try with_reducible rfl); try simp only [Act.put, zL])
 (refine TD.call (f := ?f57) (args := ?r57) (Mod.refl _ _) (by simp only [zK]; rfl) rfl (by rfl) (fun w1 => ?y57) ?hsp57 ?n57; (case y57 => (go_simp; (first | with_reducible rfl | (constructor <;> with_reducible rfl)))); (case hsp57 => (intro wq hSq; exact (HH.out.2.2.2 wq hSq).mono (fun e w' h => ⟨_, h.1, rfl, h.2⟩))); rintro _ rfl; try simp only [Act.put, zL])
 (refine TD.val0 (v := ?v58) (by simp only [zK]; rfl) rfl (by rfl) (fun w1 => ?y58) ?n58; (case y58 => go_simp; try with_reducible rfl); try simp only [Act.put, zL])
 (refine TD.val0 (v := ?v59) (by simp only [zK]; rfl) rfl (by rfl) (fun w1 => ?y59) ?n59; (case y59 => go_simp; try with_reducible rfl); try simp only [Act.put, zL])
 (refine TD.val0 (v := ?v60) (by simp only [zK]; rfl) rfl (by rfl) (fun w1 => ?y60) ?n60; (case y60 => go_simp; try with_reducible rfl); try simp only [Act.put, zL])
 (refine TD.allocB (by simp only [zK]; rfl) rfl (by rfl) rfl rfl alItem (fun p5 hp5 => ?n61); try simp only [Act.put, zL])
 (refine TD.storeB (d := ?d62) (T := ?T62) (y := ?y62) (p := ?p62) (b := ?b62) (v := ?v62) (by simp only [zK]; rfl) rfl (by rfl) ?hd62 ?hop62 ?hev62 ?hx62 ?hb62 ?htag62 (fun w1 hb1 => ?hy62) ?hn62; (case hd62 => rfl); (case hop62 => rfl); (case hev62 => (simp only [Act.eval, zM]; (try rfl))); (case hx62 => simp only [Act.eval, zM]; try rfl); (case hb62 => first | exact Bx.set_same _ _ _ | (simp only [Bx.set_same]; rfl)); (case hy62 => (go_simp; (try first | with_reducible rfl | (rw [setCell_blk hb1]; rfl)))); try simp only [Act.put, zL])
 (refine TD.val0 (v := ?v63) (by simp only [zK]; rfl) rfl (by rfl) (fun w1 => ?y63) ?n63; (case y63 => go_simp; try with_reducible rfl); try simp only [Act.put, zL])
 refine TD.nil (fun w3 hr => ?_)
 have kp5 := hr.box p5 _ (by first | exact Bx.set_same _ _ _ | (simp only [Bx.set_same]; rfl)); dsimp only [Value.cells] at kp5; obtain ⟨gp5, kp5⟩ := kp5
 have m3 := hr.mod
 clear hr
 go_wp2_with fail
 go_at_call 45
 refine (turn_c (HH.out.1.mod0 m3) HH.out.2.1 0).mono ?_
 rintro e w4 ⟨rfl, H4⟩
 have HX := Lib.hid H4
 clear H4
 go_wp2_with fail
 go_ret
 exact ⟨rfl, HX.out⟩
set_option maxRecDepth 20000 in
set_option maxHeartbeats 3200000 in
theorem BackX_c (H : BH w0 O b S w) {i : Nat} {x : It} (hx : S[i]? = some (some x)) (hp : x.pl = 0) : Calls Tryz.prog 15 #[ptrV b, .int .i64 (i : Int)] w fun e w' => e = .returned (.int .i64 23) ∧ Mod (fun _ => False) w w' := by
 obtain ⟨y, hy, hc⟩ := heldP_c H hx
 have hpl : ((y.pl.toNat : Int) == 0) = true := u8_is 0 rfl (UInt8.toNat_inj.1 (by rw [← hy] at hp; exact hp))
 have HH := Lib.hid (And.intro H (And.intro hx (And.intro hy hc)))
 clear H hx hy hc hp
 go_enter Tryz.func15, Tryz.ntmps15
 go_upto_region 1 with fail
 refine wp_pass0 (C := fun _ _ v => v = .tuple #[.agg (itr y), .int .i64 0]) (κ := fun i => [0, 0, 2, 0, 0, 0, 3, 4, 0].getD i 0) [0, 1, 2, 3, 4, 5, 6, 7, 8] (by kernel_rfl) (by kernel_rfl) (fun _ _ d _ _ h => by cases d <;> first | exact h | exact absurd h (hP _ _ _)) ?_
 (refine TD.val0 (v := ?v64) (by simp only [zK]; rfl) rfl (by rfl) (fun w1 => ?y64) ?n64; (case y64 => go_simp; try with_reducible rfl); try simp only [Act.put, zL])
 (refine TD.val0 (v := ?v65) (by simp only [zK]; rfl) rfl (by rfl) (fun w1 => ?y65) ?n65; (case y65 => go_simp; try with_reducible rfl); try simp only [Act.put, zL])
 (refine TD.call (f := ?f66) (args := ?r66) (Mod.refl _ _) (by simp only [zK]; rfl) rfl (by rfl) (fun w1 => ?y66) ?hsp66 ?n66; (case y66 => (go_simp; (first | with_reducible rfl | (constructor <;> with_reducible rfl)))); (case hsp66 => (intro wq hSq; exact (HH.out.2.2.2 wq hSq).mono (fun e w' h => ⟨_, h.1, rfl, h.2⟩))); rintro _ rfl; try simp only [Act.put, zL])
 (refine TD.val0 (v := ?v67) (by simp only [zK]; rfl) rfl (by rfl) (fun w1 => ?y67) ?n67; (case y67 => go_simp; try with_reducible rfl); try simp only [Act.put, zL])
 (refine TD.val0 (v := ?v68) (by simp only [zK]; rfl) rfl (by rfl) (fun w1 => ?y68) ?n68; (case y68 => go_simp; try with_reducible rfl); try simp only [Act.put, zL])
 (refine TD.val0 (v := ?v69) (by simp only [zK]; rfl) rfl (by rfl) (fun w1 => ?y69) ?n69; (case y69 => go_simp; try with_reducible rfl); try simp only [Act.put, zL])
 (refine TD.allocB (by simp only [zK]; rfl) rfl (by rfl) rfl rfl alItem (fun p5 hp5 => ?n70); try simp only [Act.put, zL])
 (refine TD.storeB (d := ?d71) (T := ?T71) (y := ?y71) (p := ?p71) (b := ?b71) (v := ?v71) (by simp only [zK]; rfl) rfl (by rfl) ?hd71 ?hop71 ?hev71 ?hx71 ?hb71 ?htag71 (fun w1 hb1 => ?hy71) ?hn71; (case hd71 => rfl); (case hop71 => rfl); (case hev71 => (simp only [Act.eval, zM]; (try rfl))); (case hx71 => simp only [Act.eval, zM]; try rfl); (case hb71 => first | exact Bx.set_same _ _ _ | (simp only [Bx.set_same]; rfl)); (case hy71 => (go_simp; (try first | with_reducible rfl | (rw [setCell_blk hb1]; rfl)))); try simp only [Act.put, zL])
 (refine TD.val0 (v := ?v72) (by simp only [zK]; rfl) rfl (by rfl) (fun w1 => ?y72) ?n72; (case y72 => go_simp; try with_reducible rfl); try simp only [Act.put, zL])
 refine TD.nil (fun w3 hr => ?_)
 have kp5 := hr.box p5 _ (by first | exact Bx.set_same _ _ _ | (simp only [Bx.set_same]; rfl)); dsimp only [Value.cells] at kp5; obtain ⟨gp5, kp5⟩ := kp5
 have m3 := hr.mod
 clear hr
 go_wp2_with fail
 go_ret
 exact ⟨rfl, m3⟩
theorem fin_free (H : BH w0 O b S w) {i : Nat} {x : It} (hx : S[i]? = some (some x)) (hp : x.pl ≠ 0) : ∃ s h, w.heap[b]? = some (.cells #[ptrV s, ptrV h] 66 (0, 0)) ∧ Calls Tryz.prog 42 #[ptrV s, .int .i64 (i : Int)] w fun e w' => e = .returned (.int .i64 0) ∧ BH w0 O b (S.set i none) w' := by
 have hlen := H.len
 obtain ⟨s, h, R, C, Ts, Th, Tr, HB, rfl, hperm, hT, m⟩ := H
 obtain ⟨y, hy, rfl⟩ := con_at hx
 refine ⟨s, h, HB.kb, (sfree_c HB.sat hy).mono ?_⟩
 rintro e w' ⟨he, hs, hm⟩
 have hil : i < (conS R).length := (List.getElem?_eq_some_iff.1 hx).1
 refine ⟨he, s, h, R.set i none, C, Ts, Th, Tr, HB.stepS hs hm (fun k y' hy' => ?_), con_setN.symm, ?_, fun j hj => ⟨(hT j hj).1, Nat.lt_of_lt_of_le (hT j hj).2 hm.size⟩, m.then hm (fun j hj e => (hT j (.inl e)).1.resolve_right (by omega))⟩
 ·by_cases hk : k = i
  ·subst hk
   rw [List.getElem?_set_self (List.getElem?_eq_some_iff.1 hy).1] at hy'
   cases hy'
  ·rw [List.getElem?_set_ne (fun e => hk e.symm)] at hy'
   exact .inl hy'
 ·exact keep_perm (node_none (by omega) hperm hx (by simp [nodeOf, hp])).2 hil rfl
set_option maxRecDepth 20000 in
set_option maxHeartbeats 3200000 in
theorem DoneY_c (H : BH w0 O b S w) {i : Nat} {x : It} (hx : S[i]? = some (some x)) : Calls Tryz.prog 24 #[ptrV b, .int .i64 (i : Int)] w fun e w' => e = .returned (.int .i64 0) ∧ BH w0 O b (S.set i none) w' := by
 obtain ⟨y, hy, hc⟩ := heldP_c H hx
 have hp := trivial
 have HH := Lib.hid (And.intro H (And.intro hx (And.intro hy hc)))
 clear H hx hy hc hp
 go_enter Tryz.func24, Tryz.ntmps24
 go_upto_region 1 with fail
 refine wp_pass0 (C := fun _ _ v => v = .tuple #[.agg (itr y), .int .i64 0]) (κ := fun i => [0, 0, 2, 0, 0, 0, 3, 4, 0].getD i 0) [0, 1, 2, 3, 4, 5, 6, 7, 8] (by kernel_rfl) (by kernel_rfl) (fun _ _ d _ _ h => by cases d <;> first | exact h | exact absurd h (hP _ _ _)) ?_
 (refine TD.val0 (v := ?v73) (by simp only [zK]; rfl) rfl (by rfl) (fun w1 => ?y73) ?n73; (case y73 => go_simp; try with_reducible rfl); try simp only [Act.put, zL])
 (refine TD.val0 (v := ?v74) (by simp only [zK]; rfl) rfl (by rfl) (fun w1 => ?y74) ?n74; (case y74 => go_simp; try with_reducible rfl); try simp only [Act.put, zL])
 (refine TD.call (f := ?f75) (args := ?r75) (Mod.refl _ _) (by simp only [zK]; rfl) rfl (by rfl) (fun w1 => ?y75) ?hsp75 ?n75; (case y75 => (go_simp; (first | with_reducible rfl | (constructor <;> with_reducible rfl)))); (case hsp75 => (intro wq hSq; exact (HH.out.2.2.2 wq hSq).mono (fun e w' h => ⟨_, h.1, rfl, h.2⟩))); rintro _ rfl; try simp only [Act.put, zL])
 (refine TD.val0 (v := ?v76) (by simp only [zK]; rfl) rfl (by rfl) (fun w1 => ?y76) ?n76; (case y76 => go_simp; try with_reducible rfl); try simp only [Act.put, zL])
 (refine TD.val0 (v := ?v77) (by simp only [zK]; rfl) rfl (by rfl) (fun w1 => ?y77) ?n77; (case y77 => go_simp; try with_reducible rfl); try simp only [Act.put, zL])
 (refine TD.val0 (v := ?v78) (by simp only [zK]; rfl) rfl (by rfl) (fun w1 => ?y78) ?n78; (case y78 => go_simp; try with_reducible rfl); try simp only [Act.put, zL])
 (refine TD.allocB (by simp only [zK]; rfl) rfl (by rfl) rfl rfl alItem (fun p5 hp5 => ?n79); try simp only [Act.put, zL])
 (refine TD.storeB (d := ?d80) (T := ?T80) (y := ?y80) (p := ?p80) (b := ?b80) (v := ?v80) (by simp only [zK]; rfl) rfl (by rfl) ?hd80 ?hop80 ?hev80 ?hx80 ?hb80 ?htag80 (fun w1 hb1 => ?hy80) ?hn80; (case hd80 => rfl); (case hop80 => rfl); (case hev80 => (simp only [Act.eval, zM]; (try rfl))); (case hx80 => simp only [Act.eval, zM]; try rfl); (case hb80 => first | exact Bx.set_same _ _ _ | (simp only [Bx.set_same]; rfl)); (case hy80 => (go_simp; (try first | with_reducible rfl | (rw [setCell_blk hb1]; rfl)))); try simp only [Act.put, zL])
 (refine TD.val0 (v := ?v81) (by simp only [zK]; rfl) rfl (by rfl) (fun w1 => ?y81) ?n81; (case y81 => go_simp; try with_reducible rfl); try simp only [Act.put, zL])
 refine TD.nil (fun w3 hr => ?_)
 have kp5 := hr.box p5 _ (by first | exact Bx.set_same _ _ _ | (simp only [Bx.set_same]; rfl)); dsimp only [Value.cells] at kp5; obtain ⟨gp5, kp5⟩ := kp5
 have m3 := hr.mod
 clear hr
 go_wp2_with fail
 go_at_call 45
 refine (turn_c (HH.out.1.mod0 m3) HH.out.2.1 1).mono ?_
 rintro e w4 ⟨rfl, H4⟩
 have hx4 : (S.set i (some { x with pl := (1 : UInt8).toNat }))[i]? = some (some { x with pl := (1 : UInt8).toNat }) := List.getElem?_set_self (List.getElem?_eq_some_iff.1 HH.out.2.1).1
 obtain ⟨s, h, kb, hf⟩ := fin_free H4 hx4 (by show (1 : UInt8).toNat ≠ 0; decide)
 rw [List.set_set] at hf
 have HF := Lib.hid hf
 clear H4 hx4 hf
 go_wp2_with fail
 go_at_call 42
 refine HF.out.mono ?_
 rintro e w5 ⟨rfl, H5⟩
 have HX := Lib.hid H5
 clear H5
 go_wp2_with fail
 go_ret
 exact ⟨rfl, HX.out⟩
set_option maxRecDepth 20000 in
set_option maxHeartbeats 3200000 in
theorem SendY_c (H : BH w0 O b S w) {i : Nat} {x : It} (hx : S[i]? = some (some x)) : Calls Tryz.prog 26 #[ptrV b, .int .i64 (i : Int)] w fun e w' => e = .returned (.int .i64 0) ∧ BH w0 O b (S.set i (some { x with sent := true })) w' := by
 have hlen := H.len
 obtain ⟨s, h, R, C, Ts, Th, Tr, HB, rfl, hperm, hT, m⟩ := H
 obtain ⟨y, hy, rfl⟩ := con_at hx
 have kb := HB.kb
 have hp := trivial
 have hc : ∀ wq, Mod (fun _ => False) w wq → Calls Tryz.prog 46 #[ptrV b, .int .i64 (i : Int)] wq fun e w' => e = .returned (.tuple #[.agg (itr y), .int .i64 0]) ∧ Mod (fun _ => False) wq w' := fun wq hq => heldY_c (HB.mod0 hq) hy
 have hset : ∀ wq, Mod (fun _ => False) w wq → Calls Tryz.prog 57 #[ptrV s, .int .i64 (i : Int), .agg (itr { y with sent := true })] wq fun e w' => e = .returned (.int .i64 0) ∧ BH w0 O b ((conS R).set i (some ({ y with sent := true } : ItR).con)) w' := by
  intro wq hq
  refine fin_set (C := C) (HB.mod0 hq) (fun j hj => ⟨(hT j hj).1, Nat.lt_of_lt_of_le (hT j hj).2 hq.size⟩) (m.then0 hq) hy { y with sent := true } rfl ?_
  have hil : i < (conS R).length := (List.getElem?_eq_some_iff.1 hx).1
  by_cases h0 : y.con.pl = 0
  ·refine hperm.trans (((wtg_at hx).trans ?_).trans (wtg_set hil).symm)
   exact .refl _
  ·exact keep_perm (node_none (by omega) hperm hx (by simp [nodeOf, h0])).2 hil (if_neg (show ¬ y.con.pl = 0 from h0))
 have HH := Lib.hid (And.intro hset (And.intro hc hc))
 clear HB hperm hT m hx hy hset hc hlen
 go_enter Tryz.func26, Tryz.ntmps26
 go_upto_region 1 with fail
 have Lkb := lt_size kb
 refine wp_pass0 (C := fun _ _ v => v = .tuple #[.agg (itr y), .int .i64 0]) (κ := fun i => [0, 0, 2, 0, 0, 0, 3, 4, 0].getD i 0) [0, 1, 2, 3, 4, 5, 6, 7, 8] (by kernel_rfl) (by kernel_rfl) (fun _ _ d _ _ h => by cases d <;> first | exact h | exact absurd h (hP _ _ _)) ?_
 (refine TD.val0 (v := ?v82) (by simp only [zK]; rfl) rfl (by rfl) (fun w1 => ?y82) ?n82; (case y82 => go_simp; try with_reducible rfl); try simp only [Act.put, zL])
 (refine TD.val0 (v := ?v83) (by simp only [zK]; rfl) rfl (by rfl) (fun w1 => ?y83) ?n83; (case y83 => go_simp; try with_reducible rfl); try simp only [Act.put, zL])
 (refine TD.call (f := ?f84) (args := ?r84) (Mod.refl _ _) (by simp only [zK]; rfl) rfl (by rfl) (fun w1 => ?y84) ?hsp84 ?n84; (case y84 => (go_simp; (first | with_reducible rfl | (constructor <;> with_reducible rfl)))); (case hsp84 => (intro wq hSq; have kbq := hSq.at kb (fun h => h); exact (HH.out.2.1 wq hSq).mono (fun e w' h => ⟨_, h.1, rfl, h.2⟩))); rintro _ rfl; try simp only [Act.put, zL])
 (refine TD.val0 (v := ?v85) (by simp only [zK]; rfl) rfl (by rfl) (fun w1 => ?y85) ?n85; (case y85 => go_simp; try with_reducible rfl); try simp only [Act.put, zL])
 (refine TD.val0 (v := ?v86) (by simp only [zK]; rfl) rfl (by rfl) (fun w1 => ?y86) ?n86; (case y86 => go_simp; try with_reducible rfl); try simp only [Act.put, zL])
 (refine TD.val0 (v := ?v87) (by simp only [zK]; rfl) rfl (by rfl) (fun w1 => ?y87) ?n87; (case y87 => go_simp; try with_reducible rfl); try simp only [Act.put, zL])
 (refine TD.allocB (by simp only [zK]; rfl) rfl (by rfl) rfl rfl alItem (fun p5 hp5 => ?n88); try simp only [Act.put, zL])
 (refine TD.storeB (d := ?d89) (T := ?T89) (y := ?y89) (p := ?p89) (b := ?b89) (v := ?v89) (by simp only [zK]; rfl) rfl (by rfl) ?hd89 ?hop89 ?hev89 ?hx89 ?hb89 ?htag89 (fun w1 hb1 => ?hy89) ?hn89; (case hd89 => rfl); (case hop89 => rfl); (case hev89 => (simp only [Act.eval, zM]; (try rfl))); (case hx89 => simp only [Act.eval, zM]; try rfl); (case hb89 => first | exact Bx.set_same _ _ _ | (simp only [Bx.set_same]; rfl)); (case hy89 => (go_simp; (try first | with_reducible rfl | (rw [setCell_blk hb1]; rfl)))); try simp only [Act.put, zL])
 (refine TD.val0 (v := ?v90) (by simp only [zK]; rfl) rfl (by rfl) (fun w1 => ?y90) ?n90; (case y90 => go_simp; try with_reducible rfl); try simp only [Act.put, zL])
 refine TD.nil (fun w3 hr => ?_)
 have kb := hr.mod.at kb (fun h => h)
 have kp5 := hr.box p5 _ (by first | exact Bx.set_same _ _ _ | (simp only [Bx.set_same]; rfl)); dsimp only [Value.cells] at kp5; obtain ⟨gp5, kp5⟩ := kp5
 have m3 := hr.mod
 clear hr
 go_upto_region 4 with fail
 have Lkb := lt_size kb
 have Lkp5 := lt_size kp5
 refine wp_pass0 (C := fun _ _ _ => False) (κ := fun i => [0, 5].getD i 0) [0, 1] (by kernel_rfl) (by kernel_rfl) (fun _ _ d _ _ h => by cases d <;> first | exact h | exact absurd h (hP _ _ _)) ?_
 (refine TD.val0 (v := ?v91) (by simp only [zK]; rfl) rfl (by rfl) (fun w1 => ?y91) ?n91; (case y91 => go_simp; try with_reducible rfl); try simp only [Act.put, zL])
 refine TD.eff (by simp only [zK]; rfl) rfl (fun wE hr => ?_)
 have kb := hr.mod.at0 kb
 have kp5 := hr.mod.at0 kp5
 have mE := hr.mod
 (refine eff_store (X := ?X92) (Y := ?Y92) (w' := ?w92) (by simp only [zK]; rfl) (by rfl) rfl ?hx92 ?hz92 ?y92 ?n92; (case hx92 => simp only [Act.eval, zM]; try rfl); (case hz92 => simp only [Act.eval, zM]; try rfl); (case y92 => go_simp; try with_reducible rfl))
 (first | refine TE.nil_set kp5 (fun w4 kp5 mS => ?_) | refine TE.nil_setCell kp5 (fun w4 kp5 mS => ?_))
 have kb := mS.at_ne kb (by omega)
 have m4 := (m3.then0 mE).thenB mS (.inl gp5)
 clear hr mE mS
 rw [set_sent] at kp5
 go_upto_region 5 with fail
 have Lkb := lt_size kb
 have Lkp5 := lt_size kp5
 refine wp_pass (C := fun _ _ _ => False) (κ := fun i => [0, 0, 0, 0, 1, 0, 1, 5, 0].getD i 0) [0, 1, 2, 3, 4, 5, 6, 7, 8] (by kernel_rfl) (by kernel_rfl) (fun _ _ d _ _ h => by cases d <;> first | exact h | exact absurd h (hP _ _ _)) ?_
 (refine TD.val0 (v := ?v93) (by simp only [zK]; rfl) rfl (by rfl) (fun w1 => ?y93) ?n93; (case y93 => go_simp; try with_reducible rfl); try simp only [Act.put, zL])
 (refine TD.val0 (v := ?v94) (by simp only [zK]; rfl) rfl (by rfl) (fun w1 => ?y94) ?n94; (case y94 => go_simp; try with_reducible rfl); try simp only [Act.put, zL])
 (refine TD.val0 (v := ?v95) (by simp only [zK]; rfl) rfl (by rfl) (fun w1 => ?y95) ?n95; (case y95 => go_simp; try with_reducible rfl); try simp only [Act.put, zL])
 (refine TD.val0 (v := ?v96) (by simp only [zK]; rfl) rfl (by rfl) (fun w1 => ?y96) ?n96; (case y96 => go_simp; try with_reducible rfl); try simp only [Act.put, zL])
 (refine TD.load (v := ?v97) (p := ?p97) (Mod.refl _ _) (by simp only [zK]; rfl) rfl (by rfl) rfl ?hx97 (fun wq hSq => ?y97) ?n97; (case hx97 => simp only [Act.eval, zM]; try rfl); (case y97 => (have kbq := hSq.at kb (fun h => h); have kp5q := hSq.at kp5 (fun h => h); go_simp; (try with_reducible rfl))); try simp only [Act.put, zL])
 (refine TD.val0 (v := ?v98) (by simp only [zK]; rfl) rfl (by rfl) (fun w1 => ?y98) ?n98; (case y98 => go_simp; try with_reducible rfl); try simp only [Act.put, zL])
 (refine TD.load (v := ?v99) (p := ?p99) (Mod.refl _ _) (by simp only [zK]; rfl) rfl (by rfl) rfl ?hx99 (fun wq hSq => ?y99) ?n99; (case hx99 => simp only [Act.eval, zM]; try rfl); (case y99 => (have kbq := hSq.at kb (fun h => h); have kp5q := hSq.at kp5 (fun h => h); go_simp; (try with_reducible rfl))); try simp only [Act.put, zL])
 refine TD.eff (by simp only [zK]; rfl) rfl (fun w5 hr => ?_)
 have kb := hr.mod.at kb (fun h => h)
 have kp5 := hr.mod.at kp5 (fun h => h)
 have hcall := HH.out.1 _ (m4.then0 hr.mod)
 clear hr
 (refine eff_callP (by simp only [zK]; rfl) (by rfl) ?y101 hcall (fun wn hP => ?n101); (case y101 => (go_simp; (try (first | with_reducible rfl | (constructor <;> with_reducible rfl))))); try simp only [Act.put, zL])
 (refine TE.val0 (v := ?v102) (by simp only [zK]; rfl) (by rfl) (fun w1 => ?y102) ?n102; (case y102 => go_simp; try with_reducible rfl); try simp only [Act.put, zL])
 refine TE.nil ?_
 have HX := Lib.hid hP
 clear hP hcall
 go_wp2_with fail
 go_ret
 exact ⟨rfl, HX.out⟩
end
end Go.Proofs.YtdeghpmlhcaedaaGreatDoor
namespace Go.Proofs.YtdeghpmlhcaedaaGreatDoor
open Go.RowKit
open Go.ChangeMaps (setBlock)
attribute [local go_sem ↓] wlItem ldItem stItem wlRk ldRk stRk eqRk eqRk2
attribute [local go_sem] cell_blk frozen_blk one_int one_bool one_ptr one_slice one_map Value.cells rkc_size rkc_all1 itr_size itr_all itr_one itr_one' itr_n itr_prio itr_pl itr_sent itr_n' itr_prio' itr_pl' itr_sent' itr_r zItem_size zItem_all zItem_one
section
variable {w0 w w' ws : World} {O : Nat → Prop} {b : Nat} {S : List (Option It)}
theorem btop_c (H : BH w0 O b S w) {D : List Nd} (hD : D.Perm (wtg 0 S)) (hS : Srt D) : ∃ s h, w.heap[b]? = some (.cells #[ptrV s, ptrV h] 66 (0, 0)) ∧ ∀ wq, Mod (fun _ => False) w wq → Calls Tryz.prog 44 #[ptrV h] wq fun e w' => e = .returned (env (enOf D.head?)) ∧ Mod (fun _ => False) wq w' := by
 obtain ⟨s, h, R, C, Ts, Th, Tr, HB, rfl, hperm, hT, m⟩ := H
 exact ⟨s, h, HB.kb, fun wq hq => topS_c (HB.mod0 hq).hat (hD.trans hperm.symm) hS⟩
set_option maxRecDepth 20000 in
set_option maxHeartbeats 3200000 in
theorem bpopN_c (H : BH w0 O b S w) (hw : wtg 0 S = []) : Calls Tryz.prog 14 #[ptrV b] w fun e w' => e = .returned (.tuple #[.int .i64 0, .bool false]) ∧ Mod (fun _ => False) w w' := by
 obtain ⟨s, h, kb, hc⟩ := btop_c H (D := []) (by rw [hw]) .nil
 clear hw
 have HH := Lib.hid (And.intro H hc)
 clear H hc
 go_enter Tryz.func14, Tryz.ntmps14
 go_wp2_with fail
 go_at_call 35
 refine (bthere_c kb).mono ?_
 rintro e w2 ⟨rfl, rfl⟩
 go_upto_region 3 with fail
 have Lkb := lt_size kb
 refine wp_pass0 (C := fun _ _ v => v = .tuple #[.agg (rkc rk0), .int .i64 0, .bool false]) (κ := fun i => [0, 0, 0, 0, 1, 2, 0, 0, 0, 0, 0, 0].getD i 0) [0, 1, 2, 3, 4, 5, 6, 7, 8, 9, 10, 11] (by kernel_rfl) (by kernel_rfl) (fun _ _ d _ _ h => by cases d <;> first | exact h | exact absurd h (hP _ _ _)) ?_
 (refine TD.val0 (v := ?v1) (by simp only [zK]; rfl) rfl (by rfl) (fun w1 => ?y1) ?n1; (case y1 => go_simp; try with_reducible rfl); try simp only [Act.put, zL])
 (refine TD.val0 (v := ?v2) (by simp only [zK]; rfl) rfl (by rfl) (fun w1 => ?y2) ?n2; (case y2 => go_simp; try with_reducible rfl); try simp only [Act.put, zL])
 (refine TD.val0 (v := ?v3) (by simp only [zK]; rfl) rfl (by rfl) (fun w1 => ?y3) ?n3; (case y3 => go_simp; try with_reducible rfl); try simp only [Act.put, zL])
 (refine TD.val0 (v := ?v4) (by simp only [zK]; rfl) rfl (by rfl) (fun w1 => ?y4) ?n4; (case y4 => go_simp; try with_reducible rfl); try simp only [Act.put, zL])
 (refine TD.load (v := ?v5) (p := ?p5) (Mod.refl _ _) (by simp only [zK]; rfl) rfl (by rfl) rfl ?hx5 (fun wq hSq => ?y5) ?n5; (case hx5 => simp only [Act.eval, zM]; try rfl); (case y5 => (have kbq := hSq.at kb (fun h => h); go_simp; (try with_reducible rfl))); try simp only [Act.put, zL])
 (refine TD.call (f := ?f6) (args := ?r6) (Mod.refl _ _) (by simp only [zK]; rfl) rfl (by rfl) (fun w1 => ?y6) ?hsp6 ?n6; (case y6 => (go_simp; (first | with_reducible rfl | (constructor <;> with_reducible rfl)))); (case hsp6 => (intro wq hSq; have kbq := hSq.at kb (fun h => h); exact (HH.out.2 wq hSq).mono (fun e w' h => ⟨_, h.1, rfl, h.2⟩))); rintro _ rfl; try simp only [Act.put, zL])
 (refine TD.val0 (v := ?v7) (by simp only [zK]; rfl) rfl (by rfl) (fun w1 => ?y7) ?n7; (case y7 => go_simp; try with_reducible rfl); try simp only [Act.put, zL])
 (refine TD.val0 (v := ?v8) (by simp only [zK]; rfl) rfl (by rfl) (fun w1 => ?y8) ?n8; (case y8 => go_simp; try with_reducible rfl); try simp only [Act.put, zL])
 (refine TD.val0 (v := ?v9) (by simp only [zK]; rfl) rfl (by rfl) (fun w1 => ?y9) ?n9; (case y9 => go_simp; try with_reducible rfl); try simp only [Act.put, zL])
 (refine TD.val0 (v := ?v10) (by simp only [zK]; rfl) rfl (by rfl) (fun w1 => ?y10) ?n10; (case y10 => go_simp; try with_reducible rfl); try simp only [Act.put, zL])
 (refine TD.val0 (v := ?v11) (by simp only [zK]; rfl) rfl (by rfl) (fun w1 => ?y11) ?n11; (case y11 => go_simp; try with_reducible rfl); try simp only [Act.put, zL])
 (refine TD.val0 (v := ?v12) (by simp only [zK]; rfl) rfl (by rfl) (fun w1 => ?y12) ?n12; (case y12 => go_simp; try with_reducible rfl); try simp only [Act.put, zL])
 refine TD.nil (fun w3 hr => ?_)
 have kb := hr.mod.at kb (fun h => h)
 have m3 := hr.mod
 clear hr
 go_wp2_with fail
 exact bodyPost_ret (results_tmp2 rfl _ _ _) rfl ⟨rfl, m3⟩
set_option maxRecDepth 20000 in
set_option maxHeartbeats 3200000 in
theorem bpopY_c (H : BH w0 O b S w) {D : List Nd} (hD : D.Perm (wtg 0 S)) (hS : Srt D) {i : Nat} {x : It} (hx : S[i]? = some (some x)) (hh : D.head? = some ⟨x.rk, idn i⟩) : Calls Tryz.prog 14 #[ptrV b] w fun e w' => e = .returned (.tuple #[.int .i64 (i : Int), .bool true]) ∧ BH w0 O b (S.set i (some { x with pl := 1 })) w' := by
 have hlen := H.len
 have hil : i < S.length := (List.getElem?_eq_some_iff.1 hx).1
 obtain ⟨s, h, kb, hc⟩ := btop_c H hD hS
 rw [hh] at hc
 have hi : (idn i).toInt = (i : Int) := idn_toInt (by omega)
 have hv : env (enOf (some ⟨x.rk, idn i⟩)) = .tuple #[.agg (rkc x.rk), .int .i64 (i : Int), .bool true] := by
  show env ⟨x.rk, idn i, true⟩ = _
  unfold env
  rw [hi]
 rw [hv] at hc
 have HXX := Lib.hid hx
 clear hD hS hx hh hi hv hlen hil
 have HH := Lib.hid (And.intro H hc)
 clear H hc
 go_enter Tryz.func14, Tryz.ntmps14
 go_wp2_with fail
 go_at_call 35
 refine (bthere_c kb).mono ?_
 rintro e w2 ⟨rfl, rfl⟩
 go_upto_region 3 with fail
 have Lkb := lt_size kb
 refine wp_pass0 (C := fun _ _ v => v = .tuple #[.agg (rkc x.rk), .int .i64 (i : Int), .bool true]) (κ := fun i => [0, 0, 0, 0, 1, 2, 0, 0, 0, 0, 0, 0].getD i 0) [0, 1, 2, 3, 4, 5, 6, 7, 8, 9, 10, 11] (by kernel_rfl) (by kernel_rfl) (fun _ _ d _ _ h => by cases d <;> first | exact h | exact absurd h (hP _ _ _)) ?_
 (refine TD.val0 (v := ?v13) (by simp only [zK]; rfl) rfl (by rfl) (fun w1 => ?y13) ?n13; (case y13 => go_simp; try with_reducible rfl); try simp only [Act.put, zL])
 (refine TD.val0 (v := ?v14) (by simp only [zK]; rfl) rfl (by rfl) (fun w1 => ?y14) ?n14; (case y14 => go_simp; try with_reducible rfl); try simp only [Act.put, zL])
 (refine TD.val0 (v := ?v15) (by simp only [zK]; rfl) rfl (by rfl) (fun w1 => ?y15) ?n15; (case y15 => go_simp; try with_reducible rfl); try simp only [Act.put, zL])
 (refine TD.val0 (v := ?v16) (by simp only [zK]; rfl) rfl (by rfl) (fun w1 => ?y16) ?n16; (case y16 => go_simp; try with_reducible rfl); try simp only [Act.put, zL])
 (refine TD.load (v := ?v17) (p := ?p17) (Mod.refl _ _) (by simp only [zK]; rfl) rfl (by rfl) rfl ?hx17 (fun wq hSq => ?y17) ?n17; (case hx17 => simp only [Act.eval, zM]; try rfl); (case y17 => (have kbq := hSq.at kb (fun h => h); go_simp; (try with_reducible rfl))); try simp only [Act.put, zL])
 (refine TD.call (f := ?f18) (args := ?r18) (Mod.refl _ _) (by simp only [zK]; rfl) rfl (by rfl) (fun w1 => ?y18) ?hsp18 ?n18; (case y18 => (go_simp; (first | with_reducible rfl | (constructor <;> with_reducible rfl)))); (case hsp18 => (intro wq hSq; have kbq := hSq.at kb (fun h => h); exact (HH.out.2 wq hSq).mono (fun e w' h => ⟨_, h.1, rfl, h.2⟩))); rintro _ rfl; try simp only [Act.put, zL])
 (refine TD.val0 (v := ?v19) (by simp only [zK]; rfl) rfl (by rfl) (fun w1 => ?y19) ?n19; (case y19 => go_simp; try with_reducible rfl); try simp only [Act.put, zL])
 (refine TD.val0 (v := ?v20) (by simp only [zK]; rfl) rfl (by rfl) (fun w1 => ?y20) ?n20; (case y20 => go_simp; try with_reducible rfl); try simp only [Act.put, zL])
 (refine TD.val0 (v := ?v21) (by simp only [zK]; rfl) rfl (by rfl) (fun w1 => ?y21) ?n21; (case y21 => go_simp; try with_reducible rfl); try simp only [Act.put, zL])
 (refine TD.val0 (v := ?v22) (by simp only [zK]; rfl) rfl (by rfl) (fun w1 => ?y22) ?n22; (case y22 => go_simp; try with_reducible rfl); try simp only [Act.put, zL])
 (refine TD.val0 (v := ?v23) (by simp only [zK]; rfl) rfl (by rfl) (fun w1 => ?y23) ?n23; (case y23 => go_simp; try with_reducible rfl); try simp only [Act.put, zL])
 (refine TD.val0 (v := ?v24) (by simp only [zK]; rfl) rfl (by rfl) (fun w1 => ?y24) ?n24; (case y24 => go_simp; try with_reducible rfl); try simp only [Act.put, zL])
 refine TD.nil (fun w3 hr => ?_)
 have kb := hr.mod.at kb (fun h => h)
 have m3 := hr.mod
 clear hr
 go_wp2_with fail
 go_at_call 45
 refine (turn_c (HH.out.1.mod0 m3) HXX.out 1).mono ?_
 rintro e w4 ⟨rfl, H4⟩
 have HX := Lib.hid H4
 clear H4
 go_wp2_with fail
 exact bodyPost_ret (results_tmp2 rfl _ _ _) rfl ⟨rfl, HX.out⟩
end
end Go.Proofs.YtdeghpmlhcaedaaGreatDoor
namespace Go.Proofs.YtdeghpmlhcaedaaGreatDoor
open Go.RowKit
open Go.ChangeMaps (setBlock)
attribute [local go_sem ↓] wlItem ldItem stItem wlRdy ldRdy stRdy
attribute [local go_sem] cell_blk frozen_blk one_int one_bool one_ptr one_slice one_map Value.cells rkc_size rkc_all1 itr_size itr_all itr_one itr_one' itr_n itr_prio itr_pl itr_sent itr_n' itr_prio' itr_pl' itr_sent' itr_r zItem_size zItem_all zItem_one rdr_size rdr_all rdr_one rdr_one'
theorem NewS.modI {α : Type} {f : α → Array Value} {n m c : Nat} {E : TypeId} {b : Nat} {w w' : World} {a : Option Addr} {l : List α} {S T : Nat → Prop} (h : NewS f n E b w (.slice a m c) l) (hm : Mod S w w') (hi : Inb T a) (hT : ∀ i, T i → ¬ S i) : NewS f n E b w' (.slice a m c) l := by
 refine h.mod hm (fun g hg => hT g ?_)
 rcases h with ⟨e, _⟩ | ⟨g', cur, e, _⟩
 ·injection e with e1 _ _
  subst e1
  cases hg
 ·injection e with e1 _ _
  subst e1
  cases hg
  exact hi _ _ rfl
section
variable {w0 w w' ws : World} {O : Nat → Prop} {b base : Nat} {S : List (Option It)} {x : RdR}
theorem RdNew.mod {S T : Nat → Prop} (h : RdNew base w x) (hm : Mod S w w') (hi : RdIn T x) (hT : ∀ i, T i → ¬ S i) : RdNew base w' x :=
 ⟨h.b.modI hm hi.b hT, h.sg.modI hm hi.sg hT, h.ks.modI hm hi.ks hT, h.ins.modI hm hi.ins hT, fun y hy => ⟨(h.insB y hy).1.modI hm (hi.insB y hy).1 hT, (h.insB y hy).2.modI hm (hi.insB y hy).2 hT⟩, h.lks.modI hm hi.lks hT, fun y hy => ⟨(h.lksB y hy).1.modI hm (hi.lksB y hy).1 hT, (h.lksB y hy).2.modI hm (hi.lksB y hy).2 hT⟩, h.ro.modI hm hi.ro hT⟩
theorem RdNew.mod0 (h : RdNew base w x) (hm : Mod (fun _ => False) w w') : RdNew base w' x := h.mod hm h.inn (fun _ _ h => h)
theorem RdNew.lower {b' : Nat} (h : RdNew base w x) (hb : b' ≤ base) : RdNew b' w x :=
 ⟨h.b.base hb, h.sg.base hb, h.ks.base hb, h.ins.base hb, fun y hy => ⟨(h.insB y hy).1.base hb, (h.insB y hy).2.base hb⟩, h.lks.base hb, fun y hy => ⟨(h.lksB y hy).1.base hb, (h.lksB y hy).2.base hb⟩, h.ro.base hb⟩
end
def RdL (base : Nat) (c : RdC) (v : Value) : Land := fun T w => ∃ x : RdR, v = .agg (rdr x) ∧ x.con = c ∧ RdNew base w x ∧ RdIn T x
theorem goodRd (base : Nat) (c : RdC) (v : Value) : Good (RdL base c v) where
 cl := fun T w w' h hm => by
  obtain ⟨x, e, hc, hn, hi⟩ := h
  exact ⟨x, e, hc, hn.mod hm hi (fun i hi hn => hn hi), hi⟩
 gr := fun T T' w hT h => by
  obtain ⟨x, e, hc, hn, hi⟩ := h
  exact ⟨x, e, hc, hn, hi.mono hT⟩
theorem freshL {wq : World} {x : RdR} (base : Nat) (hb : base ≤ wq.heap.size) (T : Nat → Prop) (hx : RdOk wq x) (hs : RdSm x.con) : Calls Tryz.prog 36 #[.agg (rdr x)] wq fun e w' => ∃ v, e = .returned v ∧ Mod (fun _ => False) wq w' ∧ RdL base x.con v (Grow T wq w') w' :=
 (fresh_n hx hs).mono fun e w' h => by
  obtain ⟨y, he, hc, hn, hm⟩ := h
  exact ⟨_, he, hm, y, rfl, hc, hn.lower hb, hn.inn.mono (fun i hi => .inr hi)⟩
theorem rd0_ok (w : World) : RdOk w rd0 :=
 ⟨.inl rfl, .inl rfl, .inl rfl, .inl rfl, fun y hy => (by cases hy), .inl rfl, fun y hy => (by cases hy), .inl rfl⟩
theorem rd0_sm : RdSm rd0.con :=
 ⟨by decide, by decide, by decide, by decide, fun y hy => (by cases hy), by decide, fun y hy => (by cases hy), by decide⟩
set_option maxRecDepth 20000 in
set_option maxHeartbeats 3200000 in
theorem find_c {w : World} {bv : Option Addr} {n er : Int} {y : ItR} (hheld : ∀ wq, Mod (fun _ => False) w wq → Calls Tryz.prog 46 #[.pointer bv, .int .i64 n] wq fun e w' => e = .returned (.tuple #[.agg (itr y), .int .i64 er]) ∧ Mod (fun _ => False) wq w') (hok : RdOk w y.r) (hsm : RdSm y.r.con) :
  Calls Tryz.prog 31 #[.pointer bv, .int .i64 n] w fun e w' => ∃ z : ItR, z.con = y.con ∧ RdNew w.heap.size w' z.r ∧ e = .returned (.tuple #[.agg (itr z), .int .i64 er]) ∧ Mod (fun _ => False) w w' := by
 have HH := Lib.hid (And.intro hheld (And.intro hok hsm))
 clear hheld hok hsm
 go_enter Tryz.func31, Tryz.ntmps31
 go_upto_region 0 with fail
 refine wp_pass0 (C := fun _ _ _ => False) (κ := fun i => [3, 0].getD i 0) [0, 1] (by kernel_rfl) (by kernel_rfl) (fun _ _ d _ _ h => by cases d <;> first | exact h | exact absurd h (hP _ _ _)) ?_
 (refine TD.allocB (by simp only [zK]; rfl) rfl (by rfl) rfl rfl alItem (fun p4 hp4 => ?n1); try simp only [Act.put, zL])
 (refine TD.val0 (v := ?v2) (by simp only [zK]; rfl) rfl (by rfl) (fun w1 => ?y2) ?n2; (case y2 => go_simp; try with_reducible rfl); try simp only [Act.put, zL])
 refine TD.nil (fun w1 hr => ?_)
 have kp4 := hr.box p4 _ (by first | exact Bx.set_same _ _ _ | (simp only [Bx.set_same]; rfl)); dsimp only [Value.cells] at kp4; obtain ⟨gp4, kp4⟩ := kp4
 have m1 := hr.mod
 clear hr
 go_upto_region 1 with fail
 have Lkp4 := lt_size kp4
 refine wp_pass0 (C := fun _ _ v => v = .tuple #[.agg (itr y), .int .i64 er]) (κ := fun i => [0, 0, 2, 0, 0, 0, 3, 4, 0].getD i 0) [0, 1, 2, 3, 4, 5, 6, 7, 8] (by kernel_rfl) (by kernel_rfl) (fun _ _ d _ _ h => by cases d <;> first | exact h | exact absurd h (hP _ _ _)) ?_
 (refine TD.val0 (v := ?v3) (by simp only [zK]; rfl) rfl (by rfl) (fun w1 => ?y3) ?n3; (case y3 => go_simp; try with_reducible rfl); try simp only [Act.put, zL])
 (refine TD.val0 (v := ?v4) (by simp only [zK]; rfl) rfl (by rfl) (fun w1 => ?y4) ?n4; (case y4 => go_simp; try with_reducible rfl); try simp only [Act.put, zL])
 (refine TD.call (f := ?f5) (args := ?r5) (Mod.refl _ _) (by simp only [zK]; rfl) rfl (by rfl) (fun w1 => ?y5) ?hsp5 ?n5; (case y5 => (go_simp; (first | with_reducible rfl | (constructor <;> with_reducible rfl)))); (case hsp5 => (intro wq hSq; have kp4q := hSq.at kp4 (fun h => h); exact (HH.out.1 wq (m1.then0 hSq)).mono (fun e w' h => ⟨_, h.1, rfl, h.2⟩))); rintro _ rfl; try simp only [Act.put, zL])
 (refine TD.val0 (v := ?v6) (by simp only [zK]; rfl) rfl (by rfl) (fun w1 => ?y6) ?n6; (case y6 => go_simp; try with_reducible rfl); try simp only [Act.put, zL])
 (refine TD.val0 (v := ?v7) (by simp only [zK]; rfl) rfl (by rfl) (fun w1 => ?y7) ?n7; (case y7 => go_simp; try with_reducible rfl); try simp only [Act.put, zL])
 (refine TD.val0 (v := ?v8) (by simp only [zK]; rfl) rfl (by rfl) (fun w1 => ?y8) ?n8; (case y8 => go_simp; try with_reducible rfl); try simp only [Act.put, zL])
 (refine TD.allocB (by simp only [zK]; rfl) rfl (by rfl) rfl rfl alItem (fun p6 hp6 => ?n9); try simp only [Act.put, zL])
 (refine TD.storeB (d := ?d10) (T := ?T10) (y := ?y10) (p := ?p10) (b := ?b10) (v := ?v10) (by simp only [zK]; rfl) rfl (by rfl) ?hd10 ?hop10 ?hev10 ?hx10 ?hb10 ?htag10 (fun w1 hb1 => ?hy10) ?hn10; (case hd10 => rfl); (case hop10 => rfl); (case hev10 => (simp only [Act.eval, zM]; (try rfl))); (case hx10 => simp only [Act.eval, zM]; try rfl); (case hb10 => first | exact Bx.set_same _ _ _ | (simp only [Bx.set_same]; rfl)); (case hy10 => (go_simp; (try first | with_reducible rfl | (rw [setCell_blk hb1]; rfl)))); try simp only [Act.put, zL])
 (refine TD.val0 (v := ?v11) (by simp only [zK]; rfl) rfl (by rfl) (fun w1 => ?y11) ?n11; (case y11 => go_simp; try with_reducible rfl); try simp only [Act.put, zL])
 refine TD.nil (fun w2 hr => ?_)
 have kp4 := hr.mod.at kp4 (fun h => h)
 have kp6 := hr.box p6 _ (by first | exact Bx.set_same _ _ _ | (simp only [Bx.set_same]; rfl)); dsimp only [Value.cells] at kp6; obtain ⟨gp6, kp6⟩ := kp6
 have m2 := m1.then0 hr.mod
 have HNE : Hid (p4 ≠ p6 ∧ w.heap.size ≤ p6) := Lib.hid ⟨by omega, by have := m1.size; omega⟩
 clear hr
 go_upto_region 2 with fail
 have Lkp4 := lt_size kp4
 have Lkp6 := lt_size kp6
 refine wp_epass0 (T0 := fun _ => False) (K := fun _ _ => True) (κ := fun i => [0, 0, 6, 0, 6].getD i 0) (υ := fun i => [[], [], [], [], []].getD i []) [0, 1, 2, 3] [4] (by kernel_rfl) (by kernel_rfl) (Good.true).cl (trivial) (fun _ h => h.elim) ?_
 have gK := Good.true
 (refine TG.v0 (v := ?v12) (by simp only [zK]; rfl) rfl (by rfl) (fun w1 => ?y12) ?n12; (case y12 => go_simp; try with_reducible rfl); try simp only [Act.put, zL])
 (refine TG.load (v := ?v13) (p := ?p13) (by simp only [zK]; rfl) rfl (by rfl) rfl ?hx13 (fun wq hSq => ?y13) ?n13; (case hx13 => simp only [Act.eval, zM]; try rfl); (case y13 => (have kp4q := hSq.at kp4 (fun h => h); have kp6q := hSq.at kp6 (fun h => h); go_simp; (try with_reducible rfl))); try simp only [Act.put, zL])
 (refine TG.callM (f := ?f14) (args := ?r14) (RdL w.heap.size y.r.con) (goodRd w.heap.size y.r.con) gK (by simp only [zK]; rfl) rfl (by rfl) (fun w1 => ?y14) (fun T wq kq ltq hSq ub => ?hsp14) ?n14; (case y14 => (go_simp; (first | with_reducible rfl | (constructor <;> with_reducible rfl)))); (case hsp14 => (have kp4q := hSq.at kp4 (fun h => h); have kp6q := hSq.at kp6 (fun h => h); exact freshL (x := y.r) w.heap.size (m2.then0 hSq).size T (HH.out.2.1.mod0 (m2.then0 hSq)) HH.out.2.2)); rintro v14 ⟨wI, TI, hI⟩; replace gK := gK.and ((goodRd w.heap.size y.r.con) v14); (obtain ⟨_, z0, rfl, _⟩ := hI.k); (try clear hI TI wI); try simp only [Act.put, zL])
 (refine TG.v0 (v := ?v15) (by simp only [zK]; rfl) rfl (by rfl) (fun w1 => ?y15) ?n15; (case y15 => go_simp; try with_reducible rfl); try simp only [Act.put, zL])
 refine TG.nil (fun w3 ⟨TR, hr⟩ => ?_)
 have kp4 := hr.mod.at kp4 (fun h => h)
 have kp6 := hr.mod.at kp6 (fun h => h)
 clear gK
 obtain ⟨_, z, hz, hzc, hzn, hzi⟩ := hr.k
 rename_i hZ0 _ _
 clear hZ0
 injection hz with hz
 have hT6 : ∀ g, TR g → g ≠ p6 := fun g hg e => (hr.old g (e ▸ Lkp6) hg).elim
 have hT4 : ∀ g, TR g → g ≠ p4 := fun g hg e => (hr.old g (e ▸ Lkp4) hg).elim
 have m3 := m2.then0 hr.mod
 have HZ := Lib.hid (And.intro hzc (And.intro hzn (And.intro hzi (And.intro hT6 hT4))))
 clear hr hzc hzn hzi hT6 hT4
 refine TE.step (by simp only [zK]; rfl) rfl ?_
 (refine eff_store (X := ?X16) (Y := ?Y16) (w' := ?w16) (by simp only [zK]; rfl) (by rfl) rfl ?hx16 ?hz16 ?y16 ?n16; (case hx16 => simp only [Act.eval, zM]; try rfl); (case hz16 => simp only [Act.eval, zM]; try rfl); (case y16 => go_simp; try with_reducible rfl))
 (first | refine TE.nil_set kp6 (fun wn kp6 mS => ?_) | refine TE.nil_setCell kp6 (fun wn kp6 mS => ?_))
 have m4 := m3.thenB mS (.inl HNE.out.2)
 have kp4 := mS.at kp4 HNE.out.1
 have hkp : wn.heap[p6]? = some (.cells (itr { y with r := z }) 60 (0, 0)) := by
  have hs := set_r y z
  rw [kp6, ← hs, ← hz]
 have HN := Lib.hid (show RdNew w.heap.size wn z from HZ.out.2.1.mod mS HZ.out.2.2.1 HZ.out.2.2.2.1)
 obtain ⟨y2, hy2⟩ : ∃ y2 : ItR, y2 = { y with r := z } := ⟨_, rfl⟩
 rw [← hy2] at hkp
 have HY2 := Lib.hid hy2
 have M4 := Lib.hid m4
 clear mS kp6 hz hy2 m4 m3 m2 m1
 go_upto_region 3 with fail
 simp only [Act.put]
 have Lkp4 := lt_size kp4
 have Lhkp := lt_size hkp
 refine wp_pass0 (C := fun _ _ _ => False) (κ := fun i => [1, 0, 5, 0].getD i 0) [0, 1, 2, 3] (by kernel_rfl) (by kernel_rfl) (fun _ _ d _ _ h => by cases d <;> first | exact h | exact absurd h (hP _ _ _)) ?_
 (refine TD.load (v := ?v17) (p := ?p17) (Mod.refl _ _) (by simp only [zK]; rfl) rfl (by rfl) rfl ?hx17 (fun wq hSq => ?y17) ?n17; (case hx17 => simp only [Act.eval, zM]; try rfl); (case y17 => (have kp4q := hSq.at kp4 (fun h => h); have hkpq := hSq.at hkp (fun h => h); go_simp; (try with_reducible rfl))); try simp only [Act.put, zL])
 (refine TD.val0 (v := ?v18) (by simp only [zK]; rfl) rfl (by rfl) (fun w1 => ?y18) ?n18; (case y18 => go_simp; try with_reducible rfl); try simp only [Act.put, zL])
 refine TD.eff (by simp only [zK]; rfl) rfl (fun w5 hr => ?_)
 have kp4 := hr.mod.at kp4 (fun h => h)
 have hkp := hr.mod.at hkp (fun h => h)
 have m5 := M4.out.then0 hr.mod
 have m45 := hr.mod
 clear hr
 (refine eff_store (X := ?X20) (Y := ?Y20) (w' := ?w20) (by simp only [zK]; rfl) (by rfl) rfl ?hx20 ?hz20 ?y20 ?n20; (case hx20 => simp only [Act.eval, zM]; try rfl); (case hz20 => simp only [Act.eval, zM]; try rfl); (case y20 => go_simp; try with_reducible rfl))
 (first | refine TE.mid_set kp4 (fun wn kp4 mS => ?_) | refine TE.mid_setCell kp4 (fun wn kp4 mS => ?_))
 (try simp only [Array.setIfInBounds, zL] at kp4)
 have m6 := m5.thenB mS (.inl gp4)
 have HN6 := Lib.hid (show RdNew w.heap.size wn z from (HN.out.mod0 m45).mod mS HZ.out.2.2.1 HZ.out.2.2.2.2)
 clear mS
 (refine TE.val0 (v := ?v21) (by simp only [zK]; rfl) (by rfl) (fun w1 => ?y21) ?n21; (case y21 => go_simp; try with_reducible rfl); try simp only [Act.put, zL])
 refine TE.nil ?_
 go_wp2_with fail
 refine bodyPost_ret (results_cell2 (x := .agg (itr y2)) rfl rfl (by rw [ldItem]; simp [kp4, itr_all, itr_size])) rfl ⟨y2, ?_, ?_, rfl, m6⟩
 ·rw [HY2.out]
  show (⟨y.n, z.con, y.pl.toNat, y.sent⟩ : It) = ⟨y.n, y.r.con, y.pl.toNat, y.sent⟩
  rw [HZ.out.1]
 ·rw [HY2.out]
  exact HN6.out
section
variable {w0 w : World} {O : Nat → Prop} {b : Nat} {S : List (Option It)}
theorem bfindY_c (H : BH w0 O b S w) {i : Nat} {x : It} (hx : S[i]? = some (some x)) : Calls Tryz.prog 31 #[ptrV b, .int .i64 (i : Int)] w fun e w' => ∃ z : ItR, z.con = x ∧ RdNew w.heap.size w' z.r ∧ e = .returned (.tuple #[.agg (itr z), .int .i64 0]) ∧ Mod (fun _ => False) w w' := by
 obtain ⟨s, h, R, C, Ts, Th, Tr, HB, rfl, hperm, hT, m⟩ := H
 obtain ⟨y, hy, rfl⟩ := con_at hx
 exact find_c (fun wq hq => heldY_c (HB.mod0 hq) hy) (HB.rd i y hy).1 (HB.rd i y hy).2.2
theorem bfindN_c (H : BH w0 O b S w) {n : Int} (hn : AwayS S n) : Calls Tryz.prog 31 #[ptrV b, .int .i64 n] w fun e w' => ∃ z : ItR, z.con = it0.con ∧ RdNew w.heap.size w' z.r ∧ e = .returned (.tuple #[.agg (itr z), .int .i64 11]) ∧ Mod (fun _ => False) w w' :=
 find_c (y := it0) (fun wq hq => heldA_c (H.mod0 hq) hn) (rd0_ok w) rd0_sm
end
end Go.Proofs.YtdeghpmlhcaedaaGreatDoor
namespace Go.Proofs.YtdeghpmlhcaedaaGreatDoor
open Go.RowKit
open Go.ChangeMaps (setBlock)
attribute [local go_sem ↓] wlItem ldItem stItem
attribute [local go_sem] cell_blk frozen_blk one_int one_bool one_ptr one_slice one_map Value.cells
def HpL (base : Nat) (v : Value) : Land := fun T w => ∃ h T', v = ptrV h ∧ HAt h [] T' w ∧ (∀ i, T' i → T i ∧ base ≤ i ∧ i < w.heap.size)
theorem goodHp (base : Nat) (v : Value) : Good (HpL base v) where
 cl := fun T w w' h hm => by
  obtain ⟨h, T', e, hA, hT⟩ := h
  exact ⟨h, T', e, (HAt.good h []).cl T' w w' hA (hm.mono (fun i _ e k => e (hT i k).1)), fun i hi => ⟨(hT i hi).1, (hT i hi).2.1, Nat.lt_of_lt_of_le (hT i hi).2.2 hm.size⟩⟩
 gr := fun T T' w hT h => by
  obtain ⟨h, T'', e, hA, hT'⟩ := h
  exact ⟨h, T'', e, hA, fun i hi => ⟨hT i (hT' i hi).1, (hT' i hi).2⟩⟩
theorem newHp {base : Nat} {wq : World} (hb : base ≤ wq.heap.size) (T : Nat → Prop) : Calls Tryz.prog 10 #[] wq fun e w' => ∃ v, e = .returned v ∧ Mod (fun _ => False) wq w' ∧ HpL base v (Grow T wq w') w' :=
 (new_c wq).mono fun e w' h => by
  obtain ⟨h, he, T', hA, hm, hT⟩ := h
  exact ⟨_, he, hm, h, T', rfl, hA, fun i hi => ⟨.inr (hT i hi), by have := hT i hi; omega, (hT i hi).2⟩⟩
set_option maxRecDepth 20000 in
set_option maxHeartbeats 1600000 in
theorem bnewN_c (w : World) {n : Int} (hn : n < 1 ∨ 4096 < n) : Calls Tryz.prog 4 #[.int .i64 n] w fun e w' => e = .returned (.tuple #[.pointer none, .int .i64 1]) ∧ w' = w := by
 have HN := Lib.hid hn
 clear hn
 go_enter Tryz.func4, Tryz.ntmps4
 go_wp2_with fail
 go_at_call 9
 refine (newN_c w HN.out).mono ?_
 rintro e w' ⟨rfl, rfl⟩
 go_wp2_with fail
 exact bodyPost_ret (results_tmp2 rfl _ _ _) rfl ⟨rfl, rfl⟩
theorem wtg_repl : ∀ (n k : Nat), wtg k (List.replicate n none) = []
 | 0, _ => rfl
 | n + 1, k => wtg_repl n (k + 1)
set_option maxRecDepth 20000 in
set_option maxHeartbeats 1600000 in
theorem bnewY_c (w : World) {n : Nat} (h1 : 1 ≤ n) (h2 : n ≤ 4096) : Calls Tryz.prog 4 #[.int .i64 (n : Int)] w fun e w' => ∃ b, e = .returned (.tuple #[ptrV b, .int .i64 0]) ∧ BH w (fun _ => False) b (List.replicate n none) w' := by
 have HN := Lib.hid (And.intro h1 h2)
 clear h1 h2
 go_enter Tryz.func4, Tryz.ntmps4
 go_wp2_with fail
 go_at_call 9
 refine (newY_c w HN.out.1 HN.out.2).mono ?_
 rintro e w1 ⟨s, g, u, cur, us, rfl, hs, gs, gg, gu, m1⟩
 have HS := Lib.hid (And.intro hs (And.intro gs (And.intro gg (And.intro gu m1))))
 clear hs gs gg gu m1
 have hb1 : ∀ (h : Nat) (w : World), (Instr.build 64 #[(0, ptrV s), (1, ptrV h)]).run Tryz.prog w = .ok (.agg #[ptrV s, ptrV h]) w := fun h w => by kernel_rfl
 have hb2 : ∀ (h : Nat) (w : World), (Instr.build 66 #[(0, .agg #[ptrV s, ptrV h])]).run Tryz.prog w = .ok (.agg #[ptrV s, ptrV h]) w := fun h w => by kernel_rfl
 go_upto_region 4 with fail
 refine wp_gpass0 (T0 := fun _ => False) (K := fun _ _ => True) (κ := fun i => [0, 6, 0, 0, 3, 0, 0].getD i 0) (υ := fun i => [[], [], [], [], [], [], []].getD i []) [0, 1, 2, 3, 4, 5, 6] (by kernel_rfl) (by kernel_rfl) (Good.true).cl (trivial) (fun _ h => h.elim) ?_
 have gK := Good.true
 (refine TG.v0 (v := ?v1) (by simp only [zK]; rfl) rfl (by rfl) (fun w1 => ?y1) ?n1; (case y1 => go_simp; try with_reducible rfl); try simp only [Act.put, zL])
 (refine TG.callM (f := ?f2) (args := ?r2) (HpL w1.heap.size) (goodHp w1.heap.size) gK (by simp only [zK]; rfl) rfl (by rfl) (fun w1 => ?y2) (fun T wq kq ltq hSq ub => ?hsp2) ?n2; (case y2 => (go_simp; (first | with_reducible rfl | (constructor <;> with_reducible rfl)))); (case hsp2 => (exact newHp (base := w1.heap.size) hSq.size T)); rintro v2 ⟨wI, TI, hI⟩; replace gK := gK.and ((goodHp w1.heap.size) v2); (obtain ⟨_, h, Th0, rfl, _⟩ := hI.k); (try clear hI TI wI); try simp only [Act.put, zL])
 (refine TG.build (v := ?v3) (ps := ?p3) (by simp only [zK]; rfl) rfl (by rfl) rfl ?hx3 (fun w1 => ?y3) ?n3; (case hx3 => (simp only [List.map_toArray, List.map_cons, List.map_nil, Act.eval, zM]; (try rfl))); (case y3 => (rw [(hb1 h)]; (try with_reducible rfl))); try simp only [Act.put, zL])
 (refine TG.build (v := ?v4) (ps := ?p4) (by simp only [zK]; rfl) rfl (by rfl) rfl ?hx4 (fun w1 => ?y4) ?n4; (case hx4 => (simp only [List.map_toArray, List.map_cons, List.map_nil, Act.eval, zM]; (try rfl))); (case y4 => (rw [(hb2 h)]; (try with_reducible rfl))); try simp only [Act.put, zL])
 (refine TG.box (v := ?v5) (by simp only [zK]; rfl) rfl (by rfl) rfl rfl ?hx5 (fun p18 hp18 _ => ?n5); (case hx5 => simp only [Act.eval, zM]; try rfl); try simp only [Act.put, zL])
 (refine TG.v0 (v := ?v6) (by simp only [zK]; rfl) rfl (by rfl) (fun w1 => ?y6) ?n6; (case y6 => go_simp; try with_reducible rfl); try simp only [Act.put, zL])
 (refine TG.v0 (v := ?v7) (by simp only [zK]; rfl) rfl (by rfl) (fun w1 => ?y7) ?n7; (case y7 => go_simp; try with_reducible rfl); try simp only [Act.put, zL])
 refine TG.nil (fun w2 ⟨TR, hr⟩ => ?_)
 have kp18 := hr.box p18 _ (by first | exact Bx.set_same _ _ _ | (simp only [Bx.set_same]; rfl)); dsimp only [Value.cells] at kp18; obtain ⟨gp18, nTp18, kp18⟩ := kp18
 clear gK
 obtain ⟨_, h', Th, hh, hA, hT⟩ := hr.k
 injection hh with hh
 injection hh with hh
 injection hh with hh
 subst hh
 have m2 := hr.mod
 go_wp2_with fail
 refine bodyPost_ret (results_tmp2 rfl _ _ _) rfl ⟨p18, rfl, s, h, List.replicate n none, [], fun i => i = s ∨ i = g ∨ i = u, Th, fun _ => False, ?_, ?_, ?_, ?_, ?_⟩
 ·have hs2 := HS.out.1.mod m2 (fun h => h) (fun h => h) (fun h => h)
  have ls := lt_size HS.out.1.ks
  have lg := lt_size HS.out.1.kg
  have lu := lt_size HS.out.1.ku
  refine ⟨kp18, ⟨g, u, cur, us, hs2, .inl rfl, .inr (.inl rfl), .inr (.inr rfl)⟩, hA, fun i y hy => ?_, fun i hi e => ?_, fun i hi => hi.elim, fun i hi => hi.elim, fun e => ?_, fun e => nTp18 (hT _ e).1, fun h => h⟩
  ·obtain ⟨_, e⟩ := List.getElem?_eq_some_iff.1 hy
   rw [List.getElem_replicate] at e
   cases e
  ·have := (hT i e).2.1
   rcases hi with rfl | rfl | rfl <;> omega
  ·rcases e with e | e | e <;> omega
 ·simp [conS]
 ·rw [wtg_repl]
 ·have ls := lt_size HS.out.1.ks
  have lg := lt_size HS.out.1.kg
  have lu := lt_size HS.out.1.ku
  have hz := m2.size
  have hz1 := HS.out.2.2.2.2.size
  have lp := lt_size kp18
  obtain ⟨_, gs, gg, gu, _⟩ := HS.out
  intro i hi
  rcases hi with (rfl | rfl | rfl) | hi | hi | rfl
  ·omega
  ·omega
  ·omega
  ·have := hT i hi; omega
  ·exact hi.elim
  ·omega
 ·exact HS.out.2.2.2.2.then0 m2
end Go.Proofs.YtdeghpmlhcaedaaGreatDoor
