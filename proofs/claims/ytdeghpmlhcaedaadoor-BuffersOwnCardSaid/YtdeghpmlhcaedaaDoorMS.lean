/- One text out of several: Sb Sb2 Sb3 Sb4 Mk Sb5. -/
import Derived.Test.YtdeghpmlhcaedaaDoorTz
import Derived.Test.YtdeghpmlhcaedaaDoorBu
import Derived.Test.YtdeghpmlhcaedaaDoorTo
import Derived.Test.YtdeghpmlhcaedaaDoorRc
import Derived.Test.YtdeghpmlhcaedaaDoorWr
import Derived.Deep.CutBlock
import Derived.Scope
import Derived.WalkMore
import Derived.Test.YtdeghpmlhcaedaaDoorGen2
/- Slabs of items: what a slab is in memory; has, Len, Get. -/
namespace Go.Proofs.YtdeghpmlhcaedaaDoor
open Go.RowKit
open Go.ChangeMaps (setBlock)
set_option linter.unusedSimpArgs false
set_option linter.unusedVariables false
attribute [local go_sem ↓] wlItem ldItem stItem
attribute [local go_sem] cell_blk frozen_blk one_int one_bool one_ptr one_slice one_map Value.cells itr_size itr_all itr_one itr_one' zItem_size
/-- Is there a thing at a number? -/
def occ (R : List (Option ItR)) (i : Nat) : Bool := (R[i]?.getD none).isSome
theorem occ_some {R : List (Option ItR)} {i : Nat} {y : ItR} (h : R[i]? = some (some y)) : occ R i = true := by simp [occ, h]
theorem occ_none {R : List (Option ItR)} {i : Nat} (h : R[i]? = some none) : occ R i = false := by simp [occ, h]
theorem occ_get {R : List (Option ItR)} {i : Nat} (h : occ R i = true) : ∃ y, R[i]? = some (some y) := by
  unfold occ at h
  cases hR : R[i]? with
  | none => simp [hR] at h
  | some o =>
    cases o with
    | none => simp [hR] at h
    | some y => exact ⟨y, rfl⟩
theorem occ_out {R : List (Option ItR)} {i : Nat} (h : R.length ≤ i) : occ R i = false := by simp [occ, List.getElem?_eq_none h]
theorem occ_set {R : List (Option ItR)} {i j : Nat} {o : Option ItR} (hi : i < R.length) : occ (R.set i o) j = if j = i then o.isSome else occ R j := by
  unfold occ
  rw [List.getElem?_set]
  by_cases h : j = i
  · subst h
    simp [hi]
  · rw [if_neg (fun e => h e.symm), if_neg h]
def wcell (n : Nat) : Value := .int .u64 (n : Int)
/-- The words of what is used. -/
def WordsOf (R : List (Option ItR)) (us : List Nat) : Prop := us.length = (R.length + 63) / 64 ∧ ∀ (j x : Nat), us[j]? = some x → x < 2 ^ 64 ∧ ∀ k, k < 64 → x.testBit k = occ R (64 * j + k)
/-- The rows of the things. -/
def RowsOf (R : List (Option ItR)) (cur : Array Value) : Prop := cur.size = R.length * 51 ∧ ∀ (i : Nat) y, R[i]? = some (some y) → cur.extract (i * 51) (i * 51 + 51) = itr y
structure Slb (w : World) (s g u : Nat) (R : List (Option ItR)) (cur : Array Value) (us : List Nat) : Prop where
  ks : w.heap[s]? = some (.cells #[.slice (some ⟨g, 0, none⟩) R.length R.length, .slice (some ⟨u, 0, none⟩) us.length us.length, .int .i64 (R.countP Option.isSome : Nat)] 107 (0, 0))
  kg : w.heap[g]? = some (.cells cur 55 (0, 0))
  rows : RowsOf R cur
  ku : w.heap[u]? = some (.cells (us.map wcell).toArray 30 (0, 0))
  words : WordsOf R us
  len : 1 ≤ R.length ∧ R.length ≤ 4096
theorem wcell_get {us : List Nat} {j x : Nat} (h : us[j]? = some x) : (us.map wcell).toArray[j]? = some (.int .u64 (x : Int)) := by
  simp [h, wcell]
/-- Where the word of a number is, and its bit. -/
theorem Slb.word {w : World} {s g u : Nat} {R : List (Option ItR)} {cur : Array Value} {us : List Nat} (H : Slb w s g u R cur us) {i : Nat} (hi : i < R.length) : ∃ x, us[i / 64]? = some x ∧ x < 18446744073709551616 ∧ (∀ k, k < 64 → x.testBit k = occ R (64 * (i / 64) + k)) ∧ x.testBit (i % 64) = occ R i := by
  obtain ⟨h1, h2⟩ := H.words
  have hj : i / 64 < us.length := by rw [h1]; omega
  have hx := List.getElem?_eq_getElem hj
  obtain ⟨h3, h4⟩ := h2 _ _ hx
  refine ⟨_, hx, h3, h4, ?_⟩
  rw [h4 _ (Nat.mod_lt _ (by omega)), Nat.div_add_mod]
/-- A slab at s, in blocks of T. -/
def SAt (s : Nat) (R : List (Option ItR)) (T : Nat → Prop) (w : World) : Prop := ∃ g u cur us, Slb w s g u R cur us ∧ T s ∧ T g ∧ T u
theorem Slb.mod {w w' : World} {s g u : Nat} {R : List (Option ItR)} {cur : Array Value} {us : List Nat} {S : Nat → Prop} (H : Slb w s g u R cur us) (hm : Mod S w w') (h1 : ¬ S s) (h2 : ¬ S g) (h3 : ¬ S u) : Slb w' s g u R cur us :=
  ⟨hm.at H.ks h1, hm.at H.kg h2, H.rows, hm.at H.ku h3, H.words, H.len⟩
theorem SAt.good (s : Nat) (R : List (Option ItR)) : Good (SAt s R) where
  cl := by
    rintro T w w' ⟨g, u, cur, us, H, h1, h2, h3⟩ hm
    exact ⟨g, u, cur, us, H.mod hm (fun e => e h1) (fun e => e h2) (fun e => e h3), h1, h2, h3⟩
  gr := by
    rintro T T' w hT ⟨g, u, cur, us, H, h1, h2, h3⟩
    exact ⟨g, u, cur, us, H, hT _ h1, hT _ h2, hT _ h3⟩
theorem bit_and1 (x i : Nat) (hx : x < 18446744073709551616) : bits .and .u64 ((x : Int) / 2 ^ i) 1 = if x.testBit i then 1 else 0 := by
  have h1 := u64_and_nat (x / 2 ^ i) 1 (Nat.lt_of_le_of_lt (Nat.div_le_self _ _) hx) (by omega)
  have e : ((x / 2 ^ i : Nat) : Int) = (x : Int) / 2 ^ i := by simp
  rw [e] at h1
  have h2 : ((1 : Nat) : Int) = 1 := rfl
  rw [h2] at h1
  rw [h1, Nat.and_one_is_mod, Nat.testBit_eq_decide_div_mod_eq]
  have := Nat.mod_lt (x / 2 ^ i) (show 0 < 2 by omega)
  by_cases h : x / 2 ^ i % 2 = 1
  · simp [h]
  · have : x / 2 ^ i % 2 = 0 := by omega
    simp [this]
theorem eqSl (w : World) (a : Option Addr) (n c : Nat) : (binOp .eql 105 (.slice a n c) (.slice none 0 0)).run Tryd.prog w = .ok (.bool a.isNone) w := by
  cases a <;> kernel_rfl
attribute [local go_sem] eqSl
set_option maxRecDepth 20000 in
set_option maxHeartbeats 1600000 in
theorem has1_c {w : World} {s g u : Nat} {R : List (Option ItR)} {cur : Array Value} {us : List Nat} (H : Slb w s g u R cur us) {i : Nat} (hi : i < R.length) : Calls Tryd.prog 57 #[ptrV s, .int .i64 (i : Int)] w fun e w' => e = .returned (.int .i64 (if occ R i then 0 else 11)) ∧ w' = w := by
  obtain ⟨x, hx, hlt, _, hb⟩ := H.word hi
  have ks := H.ks
  have ku := H.ku
  have hc := wcell_get hx
  have hl : i ≤ 4095 := by have := H.len; omega
  have hus : us.length = (R.length + 63) / 64 := H.words.1
  have ha := bit_and1 x (i % 64) hlt
  rw [hb] at ha
  have hj : i / 64 < us.length := by rw [hus]; omega
  have hrl := H.len.2
  have hi0 : decide ((i : Int) < 0) = false := decide_eq_false (by omega)
  generalize R.countP Option.isSome = many at *
  generalize R.length = rl at *
  generalize us.length = ul at *
  generalize (us.map wcell).toArray = U at *
  have hir : decide (rl ≤ i) = false := decide_eq_false (by omega)
  clear H hx hb hus
  have key : ∀ z : Int, z = (if occ R i then 1 else 0) → bits .and .u64 ((x : Int) / 2 ^ (i % 64)) 1 = z → Calls Tryd.prog 57 #[ptrV s, .int .i64 (i : Int)] w fun e w' => e = .returned (.int .i64 (if occ R i then 0 else 11)) ∧ w' = w := by
    intro z hz hb
    clear ha
    cases ho : occ R i
    · rw [ho] at hz
      simp only [Bool.false_eq_true, if_false] at hz
      subst hz
      clear ho
      go_enter Tryd.func57, Tryd.ntmps57
      go_wp2_with fail
      go_ret
      exact ⟨rfl, rfl⟩
    · rw [ho] at hz
      simp only [if_true] at hz
      subst hz
      clear ho
      go_enter Tryd.func57, Tryd.ntmps57
      go_wp2_with fail
      go_ret
      exact ⟨rfl, rfl⟩
  exact key _ rfl ha
end Go.Proofs.YtdeghpmlhcaedaaDoor
/- Slabs of items: has of none, Get, Set, Free, Len. -/
namespace Go.Proofs.YtdeghpmlhcaedaaDoor
open Go.RowKit
open Go.ChangeMaps (setBlock)
set_option linter.unusedSimpArgs false
set_option linter.unusedVariables false
attribute [local go_sem ↓] wlItem ldItem stItem
attribute [local go_sem] cell_blk frozen_blk one_int one_bool one_ptr one_slice one_map Value.cells itr_size itr_all itr_one itr_one' zItem_size eqSl
theorem zItem_all : zItem.extract 0 51 = zItem := itr_all _
theorem zItem_one : zItem.all (·.oneCell') 0 51 = true := itr_one _
attribute [local go_sem] zItem_all zItem_one
theorem RowsOf.set {R : List (Option ItR)} {cur : Array Value} (h : RowsOf R cur) {i : Nat} (hi : i < R.length) {o : Option ItR} {vs : Array Value} (hs : vs.size = 51) (ho : ∀ y, o = some y → vs = itr y) : RowsOf (R.set i o) (wr cur (i * 51) vs.toList) := by
  obtain ⟨h1, h2⟩ := h
  refine ⟨by rw [wr_size, h1, List.length_set], fun j y hy => ?_⟩
  have hl : vs.toList.length = 51 := by rw [Array.length_toList, hs]
  have hii : (i + 1) * 51 ≤ R.length * 51 := Nat.mul_le_mul_right _ hi
  have hget := fun t => wr_get vs.toList cur (i * 51) (by rw [hl]; omega) t
  rw [hl] at hget
  by_cases hj : j = i
  · subst hj
    rw [List.getElem?_set_self hi] at hy
    have hv := ho y (Option.some.inj hy)
    rw [← hv]
    apply Array.ext_getElem?
    intro t
    rw [Array.getElem?_extract, wr_size]
    by_cases ht : t < 51
    · rw [if_pos (by omega), hget, if_pos (by omega), Nat.add_sub_cancel_left, Array.getElem?_toList]
    · rw [if_neg (by omega), Array.getElem?_eq_none (by omega)]
  · rw [List.getElem?_set_ne (fun e => hj e.symm)] at hy
    rw [← h2 j y hy]
    apply Array.ext_getElem?
    intro t
    rw [Array.getElem?_extract, Array.getElem?_extract, wr_size]
    by_cases ht : t < 51
    · have h9 : ¬ (i * 51 ≤ j * 51 + t ∧ j * 51 + t < i * 51 + 51) := by omega
      rw [hget, if_neg h9]
    · rw [if_neg (by omega), if_neg (by omega)]
theorem RowsOf.le {R : List (Option ItR)} {cur : Array Value} (h : RowsOf R cur) {i : Nat} (hi : i < R.length) : i * 51 + 51 ≤ cur.size := by
  rw [h.1]
  omega
section
variable {w : World} {s g u : Nat} {R : List (Option ItR)} {cur : Array Value} {us : List Nat}
set_option maxRecDepth 20000 in
set_option maxHeartbeats 1600000 in
theorem has0_c (H : Slb w s g u R cur us) {n : Int} (hn : n < 0 ∨ (R.length : Int) ≤ n) : Calls Tryd.prog 57 #[ptrV s, .int .i64 n] w fun e w' => e = .returned (.int .i64 11) ∧ w' = w := by
  have ks := H.ks
  generalize R.countP Option.isSome = many at *
  generalize R.length = rl at *
  generalize us.length = ul at *
  clear H
  rcases hn with hn | hn
  · have hd := decide_eq_true hn
    clear hn
    go_enter Tryd.func57, Tryd.ntmps57
    go_wp2_with fail
    go_ret
    exact ⟨rfl, rfl⟩
  · have hd := decide_eq_true hn
    have hd0 : decide (n < 0) = false := decide_eq_false (by omega)
    clear hn
    go_enter Tryd.func57, Tryd.ntmps57
    go_wp2_with fail
    go_ret
    exact ⟨rfl, rfl⟩
/-- Nothing has that number. -/
def Away (R : List (Option ItR)) (n : Int) : Prop := n < 0 ∨ (R.length : Int) ≤ n ∨ R[n.toNat]? = some none
theorem hasN_c (H : Slb w s g u R cur us) {n : Int} (hn : Away R n) : Calls Tryd.prog 57 #[ptrV s, .int .i64 n] w fun e w' => e = .returned (.int .i64 11) ∧ w' = w := by
  rcases hn with h | h | h
  · exact has0_c H (.inl h)
  · exact has0_c H (.inr h)
  · by_cases h0 : n < 0
    · exact has0_c H (.inl h0)
    · have hi := (List.getElem?_eq_some_iff.1 h).1
      have := has1_c H hi
      rw [occ_none h, Int.toNat_of_nonneg (by omega)] at this
      exact this
theorem hasY_c (H : Slb w s g u R cur us) {i : Nat} {y : ItR} (hy : R[i]? = some (some y)) : Calls Tryd.prog 57 #[ptrV s, .int .i64 (i : Int)] w fun e w' => e = .returned (.int .i64 0) ∧ w' = w := by
  have := has1_c H (List.getElem?_eq_some_iff.1 hy).1
  rw [occ_some hy] at this
  exact this
theorem Slb.mod0 {w' : World} (H : Slb w s g u R cur us) (hm : Mod (fun _ => False) w w') : Slb w' s g u R cur us := H.mod hm (fun h => h) (fun h => h) (fun h => h)
set_option maxRecDepth 20000 in
set_option maxHeartbeats 3200000 in
theorem getN_c (H : Slb w s g u R cur us) {n : Int} (hn : Away R n) : Calls Tryd.prog 43 #[ptrV s, .int .i64 n] w fun e w' => e = .returned (.tuple #[.agg zItem, .int .i64 11]) ∧ Mod (fun _ => False) w w' := by
  have HH := Lib.hid (And.intro H hn)
  clear H hn
  go_enter Tryd.func43, Tryd.ntmps43
  go_upto_region 0 with fail
  refine wp_pass0 (C := fun _ _ _ => False) (κ := fun i => [3, 0].getD i 0) [0, 1] (by kernel_rfl) (by kernel_rfl) (fun _ _ d _ _ h => by cases d <;> first | exact h | exact absurd h (hP _ _ _)) ?_
  (refine TD.allocB (by simp only [zA, zB, zC]; rfl) rfl ?hw1 rfl rfl alItem (fun p4 hp4 => ?hn1); (case hw1 => rfl); (try simp only [Act.put, zF, zG, zH]))
  (refine TD.val0 (v := ?v2) (by simp only [zA, zB, zC]; rfl) rfl ?hw2 (fun w1 => ?hy2) ?hn2; (case hw2 => rfl); (case hy2 => (go_simp; (try with_reducible rfl))); (try simp only [Act.put, zF, zG, zH]))
  refine TD.nil (fun w1 hr => ?_)
  have kp4 := hr.box p4 _ (by first | exact Bx.set_same _ _ _ | (simp only [Bx.set_same]; rfl)); dsimp only [Value.cells] at kp4; obtain ⟨gp4, kp4⟩ := kp4
  have m1 := hr.mod
  clear hr
  go_wp2_with fail
  go_at_call 57
  refine (hasN_c (HH.out.1.mod0 m1) HH.out.2).mono ?_
  rintro e w2 ⟨rfl, rfl⟩
  go_upto_region 3 with fail
  have Lkp4 := lt_size kp4
  refine wp_pass0 (C := fun _ _ _ => False) (κ := fun i => [1, 0, 5, 0].getD i 0) [0, 1, 2, 3] (by kernel_rfl) (by kernel_rfl) (fun _ _ d _ _ h => by cases d <;> first | exact h | exact absurd h (hP _ _ _)) ?_
  (refine TD.load (v := ?v3) (p := ?p3) (Mod.refl _ _) (by simp only [zA, zB, zC]; rfl) rfl ?hw3 rfl ?hx3 (fun wq hSq => ?hy3) ?hn3; (case hw3 => rfl); (case hx3 => (simp only [Act.eval, zD, zA, zB, zC, zE]; (try rfl))); (case hy3 => (have kp4q := hSq.at kp4 (fun h => h); go_simp; (try with_reducible rfl))); (try simp only [Act.put, zF, zG, zH]))
  (refine TD.val0 (v := ?v4) (by simp only [zA, zB, zC]; rfl) rfl ?hw4 (fun w1 => ?hy4) ?hn4; (case hw4 => rfl); (case hy4 => (go_simp; (try with_reducible rfl))); (try simp only [Act.put, zF, zG, zH]))
  refine TD.eff (by simp only [zA, zB, zC]; rfl) rfl (fun w3 hr => ?_)
  have kp4 := hr.mod.at kp4 (fun h => h)
  have m3 := m1.then0 hr.mod
  clear hr
  (refine eff_store (X := ?X6) (Y := ?Y6) (w' := ?w6) (by simp only [zA, zB, zC]; rfl) ?hw6 rfl ?hx6 ?hz6 ?hy6 ?hn6; (case hw6 => rfl); (case hx6 => (simp only [Act.eval, zD, zA, zB, zC, zE]; (try rfl))); (case hz6 => (simp only [Act.eval, zD, zA, zB, zC, zE]; (try rfl))); (case hy6 => (go_simp; (try with_reducible rfl))))
  (first | refine TE.mid_set kp4 (fun wn kp4 mS => ?_) | refine TE.mid_setCell kp4 (fun wn kp4 mS => ?_))
  (try simp only [Array.setIfInBounds, zF, zG, zH] at kp4)
  have m4 := m3.thenB mS (.inl gp4)
  clear mS
  (refine TE.val0 (v := ?v7) (by simp only [zA, zB, zC]; rfl) ?hw7 (fun w1 => ?hy7) ?hn7; (case hw7 => rfl); (case hy7 => (go_simp; (try with_reducible rfl))); (try simp only [Act.put, zF, zG, zH]))
  refine TE.nil ?_
  go_wp2_with fail
  exact bodyPost_ret (results_cell2 (x := .agg zItem) rfl rfl (by rw [ldItem]; simp [kp4, zItem, itr_all, itr_size])) rfl ⟨rfl, m4⟩
theorem RowsOf.size (h : RowsOf R cur) {i : Nat} (hi : i < R.length) : i * 51 + 51 ≤ cur.size := by
  rw [h.1]
  omega
set_option maxRecDepth 20000 in
set_option maxHeartbeats 3200000 in
theorem getY_c (H : Slb w s g u R cur us) {i : Nat} {y : ItR} (hy : R[i]? = some (some y)) : Calls Tryd.prog 43 #[ptrV s, .int .i64 (i : Int)] w fun e w' => e = .returned (.tuple #[.agg (itr y), .int .i64 0]) ∧ Mod (fun _ => False) w w' := by
  have HH := Lib.hid (And.intro H hy)
  have hi := (List.getElem?_eq_some_iff.1 hy).1
  have hsz := H.rows.size hi
  have hrow := H.rows.2 i y hy
  have ks := H.ks
  have kg := H.kg
  have hi2 : (i : Int) < (R.length : Int) := by omega
  generalize R.countP Option.isSome = many at *
  generalize R.length = rl at *
  clear H hy
  go_enter Tryd.func43, Tryd.ntmps43
  go_upto_region 0 with fail
  have Lks := lt_size ks
  have Lkg := lt_size kg
  refine wp_pass0 (C := fun _ _ _ => False) (κ := fun i => [3, 0].getD i 0) [0, 1] (by kernel_rfl) (by kernel_rfl) (fun _ _ d _ _ h => by cases d <;> first | exact h | exact absurd h (hP _ _ _)) ?_
  (refine TD.allocB (by simp only [zA, zB, zC]; rfl) rfl ?hw8 rfl rfl alItem (fun p4 hp4 => ?hn8); (case hw8 => rfl); (try simp only [Act.put, zF, zG, zH]))
  (refine TD.val0 (v := ?v9) (by simp only [zA, zB, zC]; rfl) rfl ?hw9 (fun w1 => ?hy9) ?hn9; (case hw9 => rfl); (case hy9 => (go_simp; (try with_reducible rfl))); (try simp only [Act.put, zF, zG, zH]))
  refine TD.nil (fun w1 hr => ?_)
  have ks := hr.mod.at ks (fun h => h)
  have kg := hr.mod.at kg (fun h => h)
  have kp4 := hr.box p4 _ (by first | exact Bx.set_same _ _ _ | (simp only [Bx.set_same]; rfl)); dsimp only [Value.cells] at kp4; obtain ⟨gp4, kp4⟩ := kp4
  have m1 := hr.mod
  clear hr
  go_wp2_with fail
  go_at_call 57
  refine (hasY_c (HH.out.1.mod0 m1) HH.out.2).mono ?_
  rintro e w2 ⟨rfl, rfl⟩
  go_upto_region 4 with fail
  have Lks := lt_size ks
  have Lkg := lt_size kg
  have Lkp4 := lt_size kp4
  refine wp_pass0 (C := fun _ _ _ => False) (κ := fun i => [0, 0, 0, 1, 0, 0, 1, 5, 0].getD i 0) [0, 1, 2, 3, 4, 5, 6, 7, 8] (by kernel_rfl) (by kernel_rfl) (fun _ _ d _ _ h => by cases d <;> first | exact h | exact absurd h (hP _ _ _)) ?_
  (refine TD.val0 (v := ?v10) (by simp only [zA, zB, zC]; rfl) rfl ?hw10 (fun w1 => ?hy10) ?hn10; (case hw10 => rfl); (case hy10 => (go_simp; (try with_reducible rfl))); (try simp only [Act.put, zF, zG, zH]))
  (refine TD.val0 (v := ?v11) (by simp only [zA, zB, zC]; rfl) rfl ?hw11 (fun w1 => ?hy11) ?hn11; (case hw11 => rfl); (case hy11 => (go_simp; (try with_reducible rfl))); (try simp only [Act.put, zF, zG, zH]))
  (refine TD.val0 (v := ?v12) (by simp only [zA, zB, zC]; rfl) rfl ?hw12 (fun w1 => ?hy12) ?hn12; (case hw12 => rfl); (case hy12 => (go_simp; (try with_reducible rfl))); (try simp only [Act.put, zF, zG, zH]))
  (refine TD.load (v := ?v13) (p := ?p13) (Mod.refl _ _) (by simp only [zA, zB, zC]; rfl) rfl ?hw13 rfl ?hx13 (fun wq hSq => ?hy13) ?hn13; (case hw13 => rfl); (case hx13 => (simp only [Act.eval, zD, zA, zB, zC, zE]; (try rfl))); (case hy13 => (have ksq := hSq.at ks (fun h => h); have kgq := hSq.at kg (fun h => h); have kp4q := hSq.at kp4 (fun h => h); go_simp; (try with_reducible rfl))); (try simp only [Act.put, zF, zG, zH]))
  (refine TD.val0 (v := ?v14) (by simp only [zA, zB, zC]; rfl) rfl ?hw14 (fun w1 => ?hy14) ?hn14; (case hw14 => rfl); (case hy14 => (go_simp; (try with_reducible rfl))); (try simp only [Act.put, zF, zG, zH]))
  (refine TD.val0 (v := ?v15) (by simp only [zA, zB, zC]; rfl) rfl ?hw15 (fun w1 => ?hy15) ?hn15; (case hw15 => rfl); (case hy15 => (go_simp; (try with_reducible rfl))); (try simp only [Act.put, zF, zG, zH]))
  (refine TD.load (v := ?v16) (p := ?p16) (Mod.refl _ _) (by simp only [zA, zB, zC]; rfl) rfl ?hw16 rfl ?hx16 (fun wq hSq => ?hy16) ?hn16; (case hw16 => rfl); (case hx16 => (simp only [Act.eval, zD, zA, zB, zC, zE]; (try rfl))); (case hy16 => (have ksq := hSq.at ks (fun h => h); have kgq := hSq.at kg (fun h => h); have kp4q := hSq.at kp4 (fun h => h); go_simp; (try with_reducible rfl))); (try simp only [Act.put, zF, zG, zH]))
  refine TD.eff (by simp only [zA, zB, zC]; rfl) rfl (fun w3 hr => ?_)
  have ks := hr.mod.at ks (fun h => h)
  have kg := hr.mod.at kg (fun h => h)
  have kp4 := hr.mod.at kp4 (fun h => h)
  have m3 := m1.then0 hr.mod
  clear hr
  (refine eff_store (X := ?X18) (Y := ?Y18) (w' := ?w18) (by simp only [zA, zB, zC]; rfl) ?hw18 rfl ?hx18 ?hz18 ?hy18 ?hn18; (case hw18 => rfl); (case hx18 => (simp only [Act.eval, zD, zA, zB, zC, zE]; (try rfl))); (case hz18 => (simp only [Act.eval, zD, zA, zB, zC, zE]; (try rfl))); (case hy18 => (go_simp; (try with_reducible rfl))))
  (first | refine TE.mid_set kp4 (fun wn kp4 mS => ?_) | refine TE.mid_setCell kp4 (fun wn kp4 mS => ?_))
  (try simp only [Array.setIfInBounds, zF, zG, zH] at kp4)
  have m4 := m3.thenB mS (.inl gp4)
  clear mS
  (refine TE.val0 (v := ?v19) (by simp only [zA, zB, zC]; rfl) ?hw19 (fun w1 => ?hy19) ?hn19; (case hw19 => rfl); (case hy19 => (go_simp; (try with_reducible rfl))); (try simp only [Act.put, zF, zG, zH]))
  refine TE.nil ?_
  go_wp2_with fail
  exact bodyPost_ret (results_cell2 (x := .agg (itr y)) rfl rfl (by rw [ldItem]; simp [kp4, itr_all, itr_size])) rfl ⟨rfl, m4⟩
set_option maxRecDepth 20000 in
set_option maxHeartbeats 3200000 in
theorem setY_c (H : Slb w s g u R cur us) {i : Nat} {y : ItR} (hy : R[i]? = some (some y)) (z : ItR) : Calls Tryd.prog 44 #[ptrV s, .int .i64 (i : Int), .agg (itr z)] w fun e w' => e = .returned (.int .i64 0) ∧ ∃ cur', Slb w' s g u (R.set i (some z)) cur' us ∧ Mod (fun b => b = g) w w' := by
  have HH := Lib.hid (And.intro H hy)
  have hi := (List.getElem?_eq_some_iff.1 hy).1
  have hsz := H.rows.size hi
  have ks := H.ks
  have kg := H.kg
  have hsg : s ≠ g := ne_of_obj ks kg (obj_ty (by decide))
  have hug : u ≠ g := ne_of_obj H.ku kg (obj_ty (by decide))
  have hi2 : (i : Int) < (R.length : Int) := by omega
  generalize hmany : R.countP Option.isSome = many at *
  generalize hrl : R.length = rl at *
  have HE := Lib.hid (And.intro hmany (And.intro hrl (And.intro hsg hug)))
  clear H hy hmany hrl
  go_enter Tryd.func44, Tryd.ntmps44
  go_upto_region 0 with fail
  have Lks := lt_size ks
  have Lkg := lt_size kg
  refine wp_pass0 (C := fun _ _ _ => False) (κ := fun i => [3, 0].getD i 0) [0, 1] (by kernel_rfl) (by kernel_rfl) (fun _ _ d _ _ h => by cases d <;> first | exact h | exact absurd h (hP _ _ _)) ?_
  (refine TD.box (v := ?v20) (by simp only [zA, zB, zC]; rfl) rfl ?hw20 rfl rfl ?hx20 (fun p5 hp5 => ?hn20); (case hw20 => rfl); (case hx20 => (simp only [Act.eval, zD, zA, zB, zC, zE]; (try rfl))); (try simp only [Act.put, zF, zG, zH]))
  (refine TD.val0 (v := ?v21) (by simp only [zA, zB, zC]; rfl) rfl ?hw21 (fun w1 => ?hy21) ?hn21; (case hw21 => rfl); (case hy21 => (go_simp; (try with_reducible rfl))); (try simp only [Act.put, zF, zG, zH]))
  refine TD.nil (fun w1 hr => ?_)
  have ks := hr.mod.at ks (fun h => h)
  have kg := hr.mod.at kg (fun h => h)
  have kp5 := hr.box p5 _ (by first | exact Bx.set_same _ _ _ | (simp only [Bx.set_same]; rfl)); dsimp only [Value.cells] at kp5; obtain ⟨gp5, kp5⟩ := kp5
  have m1 := hr.mod
  clear hr
  go_wp2_with fail
  go_at_call 57
  refine (hasY_c (HH.out.1.mod0 m1) HH.out.2).mono ?_
  rintro e w2 ⟨rfl, rfl⟩
  go_upto_region 3 with fail
  have Lks := lt_size ks
  have Lkp5 := lt_size kp5
  have Lkg := lt_size kg
  refine wp_pass (C := fun _ _ _ => False) (κ := fun i => [0, 0, 0, 1, 0, 1, 0, 5].getD i 0) [0, 1, 2, 3, 4, 5, 6, 7] (by kernel_rfl) (by kernel_rfl) (fun _ _ d _ _ h => by cases d <;> first | exact h | exact absurd h (hP _ _ _)) ?_
  (refine TD.val0 (v := ?v22) (by simp only [zA, zB, zC]; rfl) rfl ?hw22 (fun w1 => ?hy22) ?hn22; (case hw22 => rfl); (case hy22 => (go_simp; (try with_reducible rfl))); (try simp only [Act.put, zF, zG, zH]))
  (refine TD.val0 (v := ?v23) (by simp only [zA, zB, zC]; rfl) rfl ?hw23 (fun w1 => ?hy23) ?hn23; (case hw23 => rfl); (case hy23 => (go_simp; (try with_reducible rfl))); (try simp only [Act.put, zF, zG, zH]))
  (refine TD.val0 (v := ?v24) (by simp only [zA, zB, zC]; rfl) rfl ?hw24 (fun w1 => ?hy24) ?hn24; (case hw24 => rfl); (case hy24 => (go_simp; (try with_reducible rfl))); (try simp only [Act.put, zF, zG, zH]))
  (refine TD.load (v := ?v25) (p := ?p25) (Mod.refl _ _) (by simp only [zA, zB, zC]; rfl) rfl ?hw25 rfl ?hx25 (fun wq hSq => ?hy25) ?hn25; (case hw25 => rfl); (case hx25 => (simp only [Act.eval, zD, zA, zB, zC, zE]; (try rfl))); (case hy25 => (have ksq := hSq.at ks (fun h => h); have kp5q := hSq.at kp5 (fun h => h); have kgq := hSq.at kg (fun h => h); go_simp; (try with_reducible rfl))); (try simp only [Act.put, zF, zG, zH]))
  (refine TD.val0 (v := ?v26) (by simp only [zA, zB, zC]; rfl) rfl ?hw26 (fun w1 => ?hy26) ?hn26; (case hw26 => rfl); (case hy26 => (go_simp; (try with_reducible rfl))); (try simp only [Act.put, zF, zG, zH]))
  (refine TD.load (v := ?v27) (p := ?p27) (Mod.refl _ _) (by simp only [zA, zB, zC]; rfl) rfl ?hw27 rfl ?hx27 (fun wq hSq => ?hy27) ?hn27; (case hw27 => rfl); (case hx27 => (simp only [Act.eval, zD, zA, zB, zC, zE]; (try rfl))); (case hy27 => (have ksq := hSq.at ks (fun h => h); have kp5q := hSq.at kp5 (fun h => h); have kgq := hSq.at kg (fun h => h); go_simp; (try with_reducible rfl))); (try simp only [Act.put, zF, zG, zH]))
  (refine TD.val0 (v := ?v28) (by simp only [zA, zB, zC]; rfl) rfl ?hw28 (fun w1 => ?hy28) ?hn28; (case hw28 => rfl); (case hy28 => (go_simp; (try with_reducible rfl))); (try simp only [Act.put, zF, zG, zH]))
  refine TD.eff (by simp only [zA, zB, zC]; rfl) rfl (fun wE hr => ?_)
  have ks := hr.mod.at0 ks
  have kp5 := hr.mod.at0 kp5
  have kg := hr.mod.at0 kg
  have mE := hr.mod
  (refine eff_store (X := ?X29) (Y := ?Y29) (w' := ?w29) (by simp only [zA, zB, zC]; rfl) ?hw29 rfl ?hx29 ?hz29 ?hy29 ?hn29; (case hw29 => rfl); (case hx29 => (simp only [Act.eval, zD, zA, zB, zC, zE]; (try rfl))); (case hz29 => (simp only [Act.eval, zD, zA, zB, zC, zE]; (try rfl))); (case hy29 => (go_simp; (try with_reducible rfl))))
  (first | refine TE.nil_set kg (fun w3 kg mS => ?_) | refine TE.nil_setCell kg (fun w3 kg mS => ?_))
  (try simp only [Array.setIfInBounds, zF, zG, zH] at kg)
  have ks := mS.at_ne ks (by omega)
  have kp5 := mS.at_ne kp5 (by omega)
  have m3 : Mod (fun b => b = g) w w3 := ((m1.then0 mE).mono (fun _ _ h => h.elim)).then mS (fun _ _ h => h)
  clear hr mE mS
  go_wp2_with fail
  go_ret
  have hz : (itr z).size = 51 := itr_size z
  have hi3 : i < R.length := (List.getElem?_eq_some_iff.1 HH.out.2).1
  refine ⟨rfl, wr cur (i * 51) (itr z).toList, ?_, m3⟩
  have H := HH.out.1
  have hcnt : (R.set i (some z)).countP Option.isSome = R.countP Option.isSome := by
    rw [List.countP_set hi3]
    have h9 : R[i] = some y := (List.getElem?_eq_some_iff.1 HH.out.2).2
    have hp : 0 < R.countP Option.isSome := List.countP_pos_iff.2 ⟨R[i], List.getElem_mem _, by rw [h9]; rfl⟩
    simp [h9]
    omega
  refine ⟨?_, ?_, H.rows.set hi3 hz (fun y' e => by cases e; rfl), ?_, ?_, by rw [List.length_set]; exact H.len⟩
  · rw [List.length_set, hcnt]
    exact m3.at H.ks (HE.out.2.2.1)
  · rw [kg]
    congr 2
    exact ite_wr hz
  · exact m3.at H.ku (HE.out.2.2.2)
  · refine ⟨by rw [List.length_set]; exact H.words.1, fun j x hx => ⟨(H.words.2 j x hx).1, fun k hk => ?_⟩⟩
    rw [(H.words.2 j x hx).2 k hk, occ_set hi3]
    split
    · rename_i e
      rw [e, occ_some HH.out.2]
      rfl
    · rfl
set_option maxRecDepth 20000 in
theorem slen_c (H : Slb w s g u R cur us) : Calls Tryd.prog 34 #[ptrV s] w fun e w' => e = .returned (.int .i64 (R.countP Option.isSome : Nat)) ∧ w' = w := by
  have ks := H.ks
  clear H
  generalize R.countP Option.isSome = many at *
  go_enter Tryd.func34, Tryd.ntmps34
  go_wp2_with fail
  go_ret
  exact ⟨rfl, rfl⟩
theorem WordsOf.set (h : WordsOf R us) {i : Nat} (hi : i < R.length) {o : Option ItR} {x : Nat} (hx : x < 2 ^ 64) (hb : ∀ k, k < 64 → x.testBit k = if k = i % 64 then o.isSome else occ R (64 * (i / 64) + k)) : WordsOf (R.set i o) (us.set (i / 64) x) := by
  obtain ⟨h1, h2⟩ := h
  refine ⟨by rw [List.length_set, List.length_set]; exact h1, fun j y hy => ?_⟩
  by_cases hj : j = i / 64
  · subst hj
    rw [List.getElem?_set_self (by rw [h1]; omega)] at hy
    cases hy
    refine ⟨hx, fun k hk => ?_⟩
    rw [hb k hk, occ_set hi]
    by_cases hki : k = i % 64
    · rw [if_pos hki, if_pos (by omega)]
    · rw [if_neg hki, if_neg (by omega)]
  · rw [List.getElem?_set_ne (fun e => hj e.symm)] at hy
    refine ⟨(h2 j y hy).1, fun k hk => ?_⟩
    rw [(h2 j y hy).2 k hk, occ_set hi, if_neg (by omega)]
theorem words_set {us : List Nat} {j x : Nat} : (us.map wcell).toArray.setIfInBounds j (.int .u64 (x : Int)) = ((us.set j x).map wcell).toArray := by
  rw [List.map_set]
  simp [wcell]
theorem count_set {i : Nat} {o o' : Option ItR} (h : R[i]? = some o) : ((R.set i o').countP Option.isSome : Int) = (R.countP Option.isSome : Int) - (if o.isSome then 1 else 0) + (if o'.isSome then 1 else 0) := by
  obtain ⟨hi, h9⟩ := List.getElem?_eq_some_iff.1 h
  rw [List.countP_set hi, h9]
  have hp : o.isSome = true → 0 < R.countP Option.isSome := fun e => List.countP_pos_iff.2 ⟨R[i], List.getElem_mem _, by rw [h9]; exact e⟩
  cases ho : o.isSome
  · cases o'.isSome <;> simp
  · have := hp ho
    cases o'.isSome <;> simp <;> omega
theorem pow_wrap (i : Nat) : IntKind.u64.wrap ((2 : Int) ^ (i % 64)) = ((2 ^ (i % 64) : Nat) : Int) ∧ 2 ^ (i % 64) < 18446744073709551616 := by
  have he : i % 64 < 64 := Nat.mod_lt _ (by omega)
  have hp0 : 2 ^ (i % 64) < 2 ^ 64 := Nat.pow_lt_pow_right (by omega) he
  rw [show (2 : Int) ^ (i % 64) = ((2 ^ (i % 64) : Nat) : Int) by simp]
  generalize 2 ^ (i % 64) = P at *
  rw [IntKind.wrap_u64]
  omega
theorem andNot_facts {x i : Nat} (hlt : x < 18446744073709551616) : ∃ P xn : Nat, IntKind.u64.wrap ((2 : Int) ^ (i % 64)) = (P : Int) ∧ bits .andNot .u64 (x : Int) (P : Int) = (xn : Int) ∧ xn < 18446744073709551616 ∧ ∀ k, k < 64 → xn.testBit k = if k = i % 64 then false else x.testBit k := by
  obtain ⟨h1, h2⟩ := pow_wrap i
  refine ⟨_, _, h1, u64_andNot_nat _ _ hlt h2, Nat.and_lt_two_pow (n := 64) _ ?_, fun k hk => ?_⟩
  · generalize 2 ^ (i % 64) = P at *
    omega
  rw [Nat.testBit_and, show 18446744073709551615 - 2 ^ (i % 64) = 2 ^ 64 - 1 - 2 ^ (i % 64) from rfl, compl_bit h2, Nat.testBit_two_pow, decide_eq_true hk]
  by_cases hki : k = i % 64
  · rw [if_pos hki, decide_eq_true hki.symm]
    simp
  · rw [if_neg hki, show decide (i % 64 = k) = false from decide_eq_false (fun e => hki e.symm)]
    simp
theorem or_facts {x i : Nat} (hlt : x < 18446744073709551616) : ∃ P xn : Nat, IntKind.u64.wrap ((2 : Int) ^ (i % 64)) = (P : Int) ∧ bits .or .u64 (x : Int) (P : Int) = (xn : Int) ∧ xn < 18446744073709551616 ∧ ∀ k, k < 64 → xn.testBit k = if k = i % 64 then true else x.testBit k := by
  obtain ⟨h1, h2⟩ := pow_wrap i
  refine ⟨_, _, h1, u64_or_nat _ _ hlt h2, Nat.or_lt_two_pow (n := 64) hlt h2, fun k hk => ?_⟩
  rw [Nat.testBit_or, Nat.testBit_two_pow]
  by_cases hki : k = i % 64
  · rw [if_pos hki, decide_eq_true hki.symm]
    simp
  · rw [if_neg hki, show decide (i % 64 = k) = false from decide_eq_false (fun e => hki e.symm)]
    simp
set_option maxRecDepth 20000 in
set_option maxHeartbeats 3200000 in
theorem freeY_c (H : Slb w s g u R cur us) {i : Nat} {y : ItR} (hy : R[i]? = some (some y)) : Calls Tryd.prog 32 #[ptrV s, .int .i64 (i : Int)] w fun e w' => e = .returned (.int .i64 0) ∧ ∃ cur' us', Slb w' s g u (R.set i none) cur' us' ∧ Mod (fun b => b = g ∨ b = u ∨ b = s) w w' := by
  have HH := Lib.hid (And.intro H hy)
  have hi := (List.getElem?_eq_some_iff.1 hy).1
  have hsz := H.rows.size hi
  have ks := H.ks
  have kg := H.kg
  have ku := H.ku
  obtain ⟨x, hx, hlt, hbs, hb⟩ := H.word hi
  have hc := wcell_get hx
  have hsg : s ≠ g := ne_of_obj ks kg (obj_ty (by decide))
  have hug : u ≠ g := ne_of_obj ku kg (obj_ty (by decide))
  have hsu : s ≠ u := ne_of_obj ks ku (obj_ty (by decide))
  have hgu : g ≠ u := Ne.symm hug
  have hgs : g ≠ s := Ne.symm hsg
  have hus : u ≠ s := Ne.symm hsu
  have hi2 : (i : Int) < (R.length : Int) := by omega
  have hj : i / 64 < us.length := (List.getElem?_eq_some_iff.1 hx).1
  have hl : i ≤ 4095 := by have := H.len; omega
  have hmp : 0 < R.countP Option.isSome ∧ R.countP Option.isSome ≤ 4096 := ⟨List.countP_pos_iff.2 ⟨R[i], List.getElem_mem _, by rw [(List.getElem?_eq_some_iff.1 hy).2]; rfl⟩, Nat.le_trans List.countP_le_length H.len.2⟩
  generalize hmany : R.countP Option.isSome = many at *
  generalize hrl : R.length = rl at *
  generalize hul : us.length = ul at *
  generalize hU : (us.map wcell).toArray = U at *
  have hUs : i / 64 < U.size := by rw [← hU]; simp; omega
  have hms : IntKind.i64.wrap ((many : Int) - 1) = ((many - 1 : Nat) : Int) := by
    rw [IntKind.wrap_i64]
    omega
  have q1 : IntKind.i64.wrap ((i : Int) / 64) = ((i / 64 : Nat) : Int) := by
    rw [IntKind.wrap_i64]
    omega
  have q2 : Int.tmod (i : Int) 64 = ((i % 64 : Nat) : Int) := by
    rw [Int.tmod_eq_emod_of_nonneg (by omega)]
    omega
  have he : i % 64 < 64 := Nat.mod_lt _ (by omega)
  have he2 : ((i % 64 : Nat) : Int) ≤ 64 := by omega
  have he3 : i % 64 ≤ 64 := by omega
  obtain ⟨P, xn, q3, q4, hn2, hn3⟩ := andNot_facts (i := i) hlt
  have hc2 : ∀ h : i / 64 < U.size, U[i / 64] = .int .u64 (x : Int) := fun h => at_get hc h
  have HE := Lib.hid (And.intro hmany (And.intro hrl (And.intro hul (And.intro hU (And.intro hx (And.intro hlt (And.intro hn2 (And.intro hn3 hbs))))))))
  clear H hy hmany hrl hul hU hx hbs hb hn2 hn3
  generalize hdd : i / 64 = d at *
  generalize hee : i % 64 = ee at *
  have HDE := Lib.hid (And.intro hdd hee)
  clear hdd hee
  go_enter Tryd.func32, Tryd.ntmps32
  go_wp2_with fail
  go_at_call 57
  refine (hasY_c HH.out.1 HH.out.2).mono ?_
  rintro e w1 ⟨rfl, rfl⟩
  go_upto_region 3 with fail
  have Lks := lt_size ks
  have Lkg := lt_size kg
  have Lku := lt_size ku
  refine wp_pass0 (C := fun _ _ _ => False) (κ := fun i => [3].getD i 0) [0] (by kernel_rfl) (by kernel_rfl) (fun _ _ d _ _ h => by cases d <;> first | exact h | exact absurd h (hP _ _ _)) ?_
  (refine TD.allocB (by simp only [zA, zB, zC]; rfl) rfl ?hw30 rfl rfl alItem (fun p6 hp6 => ?hn30); (case hw30 => rfl); (try simp only [Act.put, zF, zG, zH]))
  refine TD.nil (fun w2 hr => ?_)
  have ks := hr.mod.at ks (fun h => h)
  have kg := hr.mod.at kg (fun h => h)
  have ku := hr.mod.at ku (fun h => h)
  have kp6 := hr.box p6 _ (by first | exact Bx.set_same _ _ _ | (simp only [Bx.set_same]; rfl)); dsimp only [Value.cells] at kp6; obtain ⟨gp6, kp6⟩ := kp6
  have m2 := hr.mod
  clear hr
  go_upto_region 4 with fail
  have Lks := lt_size ks
  have Lku := lt_size ku
  have Lkp6 := lt_size kp6
  have Lkg := lt_size kg
  refine wp_pass (C := fun _ _ _ => False) (κ := fun i => [0, 0, 0, 1, 0, 1, 0, 5].getD i 0) [0, 1, 2, 3, 4, 5, 6, 7] (by kernel_rfl) (by kernel_rfl) (fun _ _ d _ _ h => by cases d <;> first | exact h | exact absurd h (hP _ _ _)) ?_
  (refine TD.val0 (v := ?v31) (by simp only [zA, zB, zC]; rfl) rfl ?hw31 (fun w1 => ?hy31) ?hn31; (case hw31 => rfl); (case hy31 => (go_simp; (try with_reducible rfl))); (try simp only [Act.put, zF, zG, zH]))
  (refine TD.val0 (v := ?v32) (by simp only [zA, zB, zC]; rfl) rfl ?hw32 (fun w1 => ?hy32) ?hn32; (case hw32 => rfl); (case hy32 => (go_simp; (try with_reducible rfl))); (try simp only [Act.put, zF, zG, zH]))
  (refine TD.val0 (v := ?v33) (by simp only [zA, zB, zC]; rfl) rfl ?hw33 (fun w1 => ?hy33) ?hn33; (case hw33 => rfl); (case hy33 => (go_simp; (try with_reducible rfl))); (try simp only [Act.put, zF, zG, zH]))
  (refine TD.load (v := ?v34) (p := ?p34) (Mod.refl _ _) (by simp only [zA, zB, zC]; rfl) rfl ?hw34 rfl ?hx34 (fun wq hSq => ?hy34) ?hn34; (case hw34 => rfl); (case hx34 => (simp only [Act.eval, zD, zA, zB, zC, zE]; (try rfl))); (case hy34 => (have ksq := hSq.at ks (fun h => h); have kuq := hSq.at ku (fun h => h); have kp6q := hSq.at kp6 (fun h => h); have kgq := hSq.at kg (fun h => h); go_simp; (try with_reducible rfl))); (try simp only [Act.put, zF, zG, zH]))
  (refine TD.val0 (v := ?v35) (by simp only [zA, zB, zC]; rfl) rfl ?hw35 (fun w1 => ?hy35) ?hn35; (case hw35 => rfl); (case hy35 => (go_simp; (try with_reducible rfl))); (try simp only [Act.put, zF, zG, zH]))
  (refine TD.load (v := ?v36) (p := ?p36) (Mod.refl _ _) (by simp only [zA, zB, zC]; rfl) rfl ?hw36 rfl ?hx36 (fun wq hSq => ?hy36) ?hn36; (case hw36 => rfl); (case hx36 => (simp only [Act.eval, zD, zA, zB, zC, zE]; (try rfl))); (case hy36 => (have ksq := hSq.at ks (fun h => h); have kuq := hSq.at ku (fun h => h); have kp6q := hSq.at kp6 (fun h => h); have kgq := hSq.at kg (fun h => h); go_simp; (try with_reducible rfl))); (try simp only [Act.put, zF, zG, zH]))
  (refine TD.val0 (v := ?v37) (by simp only [zA, zB, zC]; rfl) rfl ?hw37 (fun w1 => ?hy37) ?hn37; (case hw37 => rfl); (case hy37 => (go_simp; (try with_reducible rfl))); (try simp only [Act.put, zF, zG, zH]))
  refine TD.eff (by simp only [zA, zB, zC]; rfl) rfl (fun wE hr => ?_)
  have ks := hr.mod.at0 ks
  have ku := hr.mod.at0 ku
  have kp6 := hr.mod.at0 kp6
  have kg := hr.mod.at0 kg
  have mE := hr.mod
  (refine eff_store (X := ?X38) (Y := ?Y38) (w' := ?w38) (by simp only [zA, zB, zC]; rfl) ?hw38 rfl ?hx38 ?hz38 ?hy38 ?hn38; (case hw38 => rfl); (case hx38 => (simp only [Act.eval, zD, zA, zB, zC, zE]; (try rfl))); (case hz38 => (simp only [Act.eval, zD, zA, zB, zC, zE]; (try rfl))); (case hy38 => (go_simp; (try with_reducible rfl))))
  (first | refine TE.nil_set kg (fun w3 kg mS => ?_) | refine TE.nil_setCell kg (fun w3 kg mS => ?_))
  (try simp only [Array.setIfInBounds, zF, zG, zH] at kg)
  have ks := mS.at_ne ks (by omega)
  have ku := mS.at_ne ku (by omega)
  have kp6 := mS.at_ne kp6 (by omega)
  have m3 : Mod (fun b => b = g) w1 w3 := ((m2.then0 mE).mono (fun _ _ h => h.elim)).then mS (fun _ _ h => h)
  clear hr mE mS
  go_upto_region 5 with fail
  have Lks := lt_size ks
  have Lkg := lt_size kg
  have Lku := lt_size ku
  refine wp_pass (C := fun _ _ _ => False) (κ := fun i => [0, 0, 0, 1, 0, 0, 0, 1, 0, 0, 0, 0, 0, 5].getD i 0) [0, 1, 2, 3, 4, 5, 6, 7, 8, 9, 10, 11, 12, 13] (by kernel_rfl) (by kernel_rfl) (fun _ _ d _ _ h => by cases d <;> first | exact h | exact absurd h (hP _ _ _)) ?_
  (refine TD.val0 (v := ?v39) (by simp only [zA, zB, zC]; rfl) rfl ?hw39 (fun w1 => ?hy39) ?hn39; (case hw39 => rfl); (case hy39 => (go_simp; (try with_reducible rfl))); (try simp only [Act.put, zF, zG, zH]))
  (refine TD.val0 (v := ?v40) (by simp only [zA, zB, zC]; rfl) rfl ?hw40 (fun w1 => ?hy40) ?hn40; (case hw40 => rfl); (case hy40 => (go_simp; (try with_reducible rfl))); (try simp only [Act.put, zF, zG, zH]))
  (refine TD.val0 (v := ?v41) (by simp only [zA, zB, zC]; rfl) rfl ?hw41 (fun w1 => ?hy41) ?hn41; (case hw41 => rfl); (case hy41 => (go_simp; (try with_reducible rfl))); (try simp only [Act.put, zF, zG, zH]))
  (refine TD.load (v := ?v42) (p := ?p42) (Mod.refl _ _) (by simp only [zA, zB, zC]; rfl) rfl ?hw42 rfl ?hx42 (fun wq hSq => ?hy42) ?hn42; (case hw42 => rfl); (case hx42 => (simp only [Act.eval, zD, zA, zB, zC, zE]; (try rfl))); (case hy42 => (have ksq := hSq.at ks (fun h => h); have kgq := hSq.at kg (fun h => h); have kuq := hSq.at ku (fun h => h); go_simp; (try with_reducible rfl))); (try simp only [Act.put, zF, zG, zH]))
  (refine TD.val0 (v := ?v43) (by simp only [zA, zB, zC]; rfl) rfl ?hw43 (fun w1 => ?hy43) ?hn43; (case hw43 => rfl); (case hy43 => (go_simp; (try with_reducible rfl))); (try simp only [Act.put, zF, zG, zH]))
  (refine TD.val0 (v := ?v44) (by simp only [zA, zB, zC]; rfl) rfl ?hw44 (fun w1 => ?hy44) ?hn44; (case hw44 => rfl); (case hy44 => (go_simp; (try with_reducible rfl))); (try simp only [Act.put, zF, zG, zH]))
  (refine TD.val0 (v := ?v45) (by simp only [zA, zB, zC]; rfl) rfl ?hw45 (fun w1 => ?hy45) ?hn45; (case hw45 => rfl); (case hy45 => (go_simp; (try with_reducible rfl))); (try simp only [Act.put, zF, zG, zH]))
  (refine TD.load (v := ?v46) (p := ?p46) (Mod.refl _ _) (by simp only [zA, zB, zC]; rfl) rfl ?hw46 rfl ?hx46 (fun wq hSq => ?hy46) ?hn46; (case hw46 => rfl); (case hx46 => (simp only [Act.eval, zD, zA, zB, zC, zE]; (try rfl))); (case hy46 => (have ksq := hSq.at ks (fun h => h); have kgq := hSq.at kg (fun h => h); have kuq := hSq.at ku (fun h => h); go_simp; (try with_reducible rfl))); (try simp only [Act.put, zF, zG, zH]))
  (refine TD.val0 (v := ?v47) (by simp only [zA, zB, zC]; rfl) rfl ?hw47 (fun w1 => ?hy47) ?hn47; (case hw47 => rfl); (case hy47 => (go_simp; (try with_reducible rfl))); (try simp only [Act.put, zF, zG, zH]))
  (refine TD.val0 (v := ?v48) (by simp only [zA, zB, zC]; rfl) rfl ?hw48 (fun w1 => ?hy48) ?hn48; (case hw48 => rfl); (case hy48 => (go_simp; (try with_reducible rfl))); (try simp only [Act.put, zF, zG, zH]))
  (refine TD.val0 (v := ?v49) (by simp only [zA, zB, zC]; rfl) rfl ?hw49 (fun w1 => ?hy49) ?hn49; (case hw49 => rfl); (case hy49 => (go_simp; (try with_reducible rfl))); (try simp only [Act.put, zF, zG, zH]))
  (refine TD.val0 (v := ?v50) (by simp only [zA, zB, zC]; rfl) rfl ?hw50 (fun w1 => ?hy50) ?hn50; (case hw50 => rfl); (case hy50 => (go_simp; (try with_reducible rfl))); (try simp only [Act.put, zF, zG, zH]))
  (refine TD.val0 (v := ?v51) (by simp only [zA, zB, zC]; rfl) rfl ?hw51 (fun w1 => ?hy51) ?hn51; (case hw51 => rfl); (case hy51 => (go_simp; (try with_reducible rfl))); (try simp only [Act.put, zF, zG, zH]))
  refine TD.eff (by simp only [zA, zB, zC]; rfl) rfl (fun wE hr => ?_)
  have ks := hr.mod.at0 ks
  have kg := hr.mod.at0 kg
  have ku := hr.mod.at0 ku
  have mE := hr.mod
  (refine eff_store (X := ?X52) (Y := ?Y52) (w' := ?w52) (by simp only [zA, zB, zC]; rfl) ?hw52 rfl ?hx52 ?hz52 ?hy52 ?hn52; (case hw52 => rfl); (case hx52 => (simp only [Act.eval, zD, zA, zB, zC, zE]; (try rfl))); (case hz52 => (simp only [Act.eval, zD, zA, zB, zC, zE]; (try rfl))); (case hy52 => (go_simp; (try with_reducible rfl))))
  (first | refine TE.nil_set ku (fun w4 ku mS => ?_) | refine TE.nil_setCell ku (fun w4 ku mS => ?_))
  have ks := mS.at_ne ks (by omega)
  have kg := mS.at_ne kg (by omega)
  have m4 : Mod (fun b => b = g ∨ b = u) w1 w4 := ((m3.then0 mE).mono (fun _ _ h => .inl h)).then mS (fun _ _ h => .inr h)
  clear hr mE mS
  go_upto_region 6 with fail
  have Lkg := lt_size kg
  have Lku := lt_size ku
  have Lks := lt_size ks
  refine wp_pass0 (C := fun _ _ _ => False) (κ := fun i => [0, 0, 0, 1, 0, 0, 0, 5].getD i 0) [0, 1, 2, 3, 4, 5, 6, 7] (by kernel_rfl) (by kernel_rfl) (fun _ _ d _ _ h => by cases d <;> first | exact h | exact absurd h (hP _ _ _)) ?_
  (refine TD.val0 (v := ?v53) (by simp only [zA, zB, zC]; rfl) rfl ?hw53 (fun w1 => ?hy53) ?hn53; (case hw53 => rfl); (case hy53 => (go_simp; (try with_reducible rfl))); (try simp only [Act.put, zF, zG, zH]))
  (refine TD.val0 (v := ?v54) (by simp only [zA, zB, zC]; rfl) rfl ?hw54 (fun w1 => ?hy54) ?hn54; (case hw54 => rfl); (case hy54 => (go_simp; (try with_reducible rfl))); (try simp only [Act.put, zF, zG, zH]))
  (refine TD.val0 (v := ?v55) (by simp only [zA, zB, zC]; rfl) rfl ?hw55 (fun w1 => ?hy55) ?hn55; (case hw55 => rfl); (case hy55 => (go_simp; (try with_reducible rfl))); (try simp only [Act.put, zF, zG, zH]))
  (refine TD.load (v := ?v56) (p := ?p56) (Mod.refl _ _) (by simp only [zA, zB, zC]; rfl) rfl ?hw56 rfl ?hx56 (fun wq hSq => ?hy56) ?hn56; (case hw56 => rfl); (case hx56 => (simp only [Act.eval, zD, zA, zB, zC, zE]; (try rfl))); (case hy56 => (have kgq := hSq.at kg (fun h => h); have kuq := hSq.at ku (fun h => h); have ksq := hSq.at ks (fun h => h); go_simp; (try with_reducible rfl))); (try simp only [Act.put, zF, zG, zH]))
  (refine TD.val0 (v := ?v57) (by simp only [zA, zB, zC]; rfl) rfl ?hw57 (fun w1 => ?hy57) ?hn57; (case hw57 => rfl); (case hy57 => (go_simp; (try with_reducible rfl))); (try simp only [Act.put, zF, zG, zH]))
  (refine TD.val0 (v := ?v58) (by simp only [zA, zB, zC]; rfl) rfl ?hw58 (fun w1 => ?hy58) ?hn58; (case hw58 => rfl); (case hy58 => (go_simp; (try with_reducible rfl))); (try simp only [Act.put, zF, zG, zH]))
  (refine TD.val0 (v := ?v59) (by simp only [zA, zB, zC]; rfl) rfl ?hw59 (fun w1 => ?hy59) ?hn59; (case hw59 => rfl); (case hy59 => (go_simp; (try with_reducible rfl))); (try simp only [Act.put, zF, zG, zH]))
  refine TD.eff (by simp only [zA, zB, zC]; rfl) rfl (fun wE hr => ?_)
  have kg := hr.mod.at0 kg
  have ku := hr.mod.at0 ku
  have ks := hr.mod.at0 ks
  have mE := hr.mod
  (refine eff_store (X := ?X60) (Y := ?Y60) (w' := ?w60) (by simp only [zA, zB, zC]; rfl) ?hw60 rfl ?hx60 ?hz60 ?hy60 ?hn60; (case hw60 => rfl); (case hx60 => (simp only [Act.eval, zD, zA, zB, zC, zE]; (try rfl))); (case hz60 => (simp only [Act.eval, zD, zA, zB, zC, zE]; (try rfl))); (case hy60 => (go_simp; (try with_reducible rfl))))
  (first | refine TE.nil_set ks (fun w5 ks mS => ?_) | refine TE.nil_setCell ks (fun w5 ks mS => ?_))
  (try simp only [Array.setIfInBounds, zF, zG, zH] at ks)
  have kg := mS.at_ne kg (by omega)
  have ku := mS.at_ne ku (by omega)
  have m5 : Mod (fun b => b = g ∨ b = u ∨ b = s) w1 w5 := ((m4.then0 mE).mono (fun i _ h => by rcases h with h | h <;> simp [h])).then mS (fun _ _ h => .inr (.inr h))
  clear hr mE mS
  go_wp2_with fail
  go_ret
  obtain ⟨H, hy⟩ := HH.out
  obtain ⟨hmany, hrl, hul, hU, hx, hlt, hn2, hn3, hbs⟩ := HE.out
  obtain ⟨hdd, hee⟩ := HDE.out
  have hz : zItem.size = 51 := zItem_size
  have hi3 : i < R.length := by omega
  have hcnt := count_set hy (o' := none)
  have hcnt2 : (R.set i none).countP Option.isSome = many - 1 := by
    simp only [Option.isSome_some, if_true, Option.isSome_none, Bool.false_eq_true, if_false] at hcnt
    omega
  refine ⟨rfl, wr cur (i * 51) zItem.toList, us.set d xn, ?_, m5⟩
  refine ⟨?_, ?_, H.rows.set hi3 hz (fun y' e => by cases e), ?_, ?_, by rw [List.length_set]; exact H.len⟩
  · rw [List.length_set, List.length_set, hcnt2, hrl, hul]
    exact ks
  · rw [kg, ite_wr hz]
  · rw [ku, ← hU, words_set]
  · rw [← hdd]
    refine H.words.set hi3 hn2 (fun k hk => ?_)
    rw [hn3 k hk, hee]
    by_cases hke : k = ee
    · rw [if_pos hke, if_pos hke]
      rfl
    · rw [if_neg hke, if_neg hke, hdd]
      exact hbs k hk
end
end Go.Proofs.YtdeghpmlhcaedaaDoor
/- Slabs of items: Put. -/
namespace Go.Proofs.YtdeghpmlhcaedaaDoor
open Go.RowKit
open Go.ChangeMaps (setBlock)
set_option linter.unusedSimpArgs false
set_option linter.unusedVariables false
attribute [local go_sem ↓] wlItem ldItem stItem
attribute [local go_sem] cell_blk frozen_blk one_int one_bool one_ptr one_slice one_map Value.cells itr_size itr_all itr_one itr_one' zItem_size eqSl zItem_all zItem_one
section
variable {w : World} {s g u : Nat} {R : List (Option ItR)} {cur : Array Value} {us : List Nat}
set_option maxRecDepth 20000 in
set_option maxHeartbeats 3200000 in
theorem putN_c (H : Slb w s g u R cur us) (hf : R.countP Option.isSome = R.length) (y : ItR) : Calls Tryd.prog 28 #[ptrV s, .agg (itr y)] w fun e w' => e = .returned (.tuple #[.int .i64 0, .int .i64 3]) ∧ Mod (fun _ => False) w w' := by
  have ks := H.ks
  rw [hf] at ks
  generalize R.length = rl at *
  clear H hf
  go_enter Tryd.func28, Tryd.ntmps28
  go_upto_region 0 with fail
  have Lks := lt_size ks
  refine wp_pass0 (C := fun _ _ _ => False) (κ := fun i => [3, 0, 0].getD i 0) [0, 1, 2] (by kernel_rfl) (by kernel_rfl) (fun _ _ d _ _ h => by cases d <;> first | exact h | exact absurd h (hP _ _ _)) ?_
  (refine TD.box (v := ?v1) (by simp only [zA, zB, zC]; rfl) rfl ?hw1 rfl rfl ?hx1 (fun p3 hp3 => ?hn1); (case hw1 => rfl); (case hx1 => (simp only [Act.eval, zD, zA, zB, zC, zE]; (try rfl))); (try simp only [Act.put, zF, zG, zH]))
  (refine TD.val0 (v := ?v2) (by simp only [zA, zB, zC]; rfl) rfl ?hw2 (fun w1 => ?hy2) ?hn2; (case hw2 => rfl); (case hy2 => (go_simp; (try with_reducible rfl))); (try simp only [Act.put, zF, zG, zH]))
  (refine TD.val0 (v := ?v3) (by simp only [zA, zB, zC]; rfl) rfl ?hw3 (fun w1 => ?hy3) ?hn3; (case hw3 => rfl); (case hy3 => (go_simp; (try with_reducible rfl))); (try simp only [Act.put, zF, zG, zH]))
  refine TD.nil (fun w1 hr => ?_)
  have ks := hr.mod.at ks (fun h => h)
  have kp3 := hr.box p3 _ (by first | exact Bx.set_same _ _ _ | (simp only [Bx.set_same]; rfl)); dsimp only [Value.cells] at kp3; obtain ⟨gp3, kp3⟩ := kp3
  have m1 := hr.mod
  clear hr
  go_upto_block 0 with fail
  refine wp_scope_straight ?_
  refine wp_seq_k fun K hK => ?_
  refine wp_block ?_
  go_upto_region 3 with fail
  have Lks := lt_size ks
  refine wp_pass (C := fun _ _ _ => False) (κ := fun i => [0, 0, 0, 1, 0, 0, 0, 1, 0, 0, 0].getD i 0) [0, 1, 2, 3, 4, 5, 6, 7, 8, 9, 10] (by kernel_rfl) (by kernel_rfl) (fun _ _ d _ _ h => by cases d <;> first | exact h | exact absurd h (hP _ _ _)) ?_
  (refine TD.val0 (v := ?v4) (by simp only [zA, zB, zC]; rfl) rfl ?hw4 (fun w1 => ?hy4) ?hn4; (case hw4 => rfl); (case hy4 => (go_simp; (try with_reducible rfl))); (try simp only [Act.put, zF, zG, zH]))
  (refine TD.val0 (v := ?v5) (by simp only [zA, zB, zC]; rfl) rfl ?hw5 (fun w1 => ?hy5) ?hn5; (case hw5 => rfl); (case hy5 => (go_simp; (try with_reducible rfl))); (try simp only [Act.put, zF, zG, zH]))
  (refine TD.val0 (v := ?v6) (by simp only [zA, zB, zC]; rfl) rfl ?hw6 (fun w1 => ?hy6) ?hn6; (case hw6 => rfl); (case hy6 => (go_simp; (try with_reducible rfl))); (try simp only [Act.put, zF, zG, zH]))
  (refine TD.load (v := ?v7) (p := ?p7) (Mod.refl _ _) (by simp only [zA, zB, zC]; rfl) rfl ?hw7 rfl ?hx7 (fun wq hSq => ?hy7) ?hn7; (case hw7 => rfl); (case hx7 => (simp only [Act.eval, zD, zA, zB, zC, zE]; (try rfl))); (case hy7 => (have ksq := hSq.at ks (fun h => h); go_simp; (try with_reducible rfl))); (try simp only [Act.put, zF, zG, zH]))
  (refine TD.val0 (v := ?v8) (by simp only [zA, zB, zC]; rfl) rfl ?hw8 (fun w1 => ?hy8) ?hn8; (case hw8 => rfl); (case hy8 => (go_simp; (try with_reducible rfl))); (try simp only [Act.put, zF, zG, zH]))
  (refine TD.val0 (v := ?v9) (by simp only [zA, zB, zC]; rfl) rfl ?hw9 (fun w1 => ?hy9) ?hn9; (case hw9 => rfl); (case hy9 => (go_simp; (try with_reducible rfl))); (try simp only [Act.put, zF, zG, zH]))
  (refine TD.val0 (v := ?v10) (by simp only [zA, zB, zC]; rfl) rfl ?hw10 (fun w1 => ?hy10) ?hn10; (case hw10 => rfl); (case hy10 => (go_simp; (try with_reducible rfl))); (try simp only [Act.put, zF, zG, zH]))
  (refine TD.load (v := ?v11) (p := ?p11) (Mod.refl _ _) (by simp only [zA, zB, zC]; rfl) rfl ?hw11 rfl ?hx11 (fun wq hSq => ?hy11) ?hn11; (case hw11 => rfl); (case hx11 => (simp only [Act.eval, zD, zA, zB, zC, zE]; (try rfl))); (case hy11 => (have ksq := hSq.at ks (fun h => h); go_simp; (try with_reducible rfl))); (try simp only [Act.put, zF, zG, zH]))
  (refine TD.val0 (v := ?v12) (by simp only [zA, zB, zC]; rfl) rfl ?hw12 (fun w1 => ?hy12) ?hn12; (case hw12 => rfl); (case hy12 => (go_simp; (try with_reducible rfl))); (try simp only [Act.put, zF, zG, zH]))
  (refine TD.val0 (v := ?v13) (by simp only [zA, zB, zC]; rfl) rfl ?hw13 (fun w1 => ?hy13) ?hn13; (case hw13 => rfl); (case hy13 => (go_simp; (try with_reducible rfl))); (try simp only [Act.put, zF, zG, zH]))
  (refine TD.val0 (v := ?v14) (by simp only [zA, zB, zC]; rfl) rfl ?hw14 (fun w1 => ?hy14) ?hn14; (case hw14 => rfl); (case hy14 => (go_simp; (try with_reducible rfl))); (try simp only [Act.put, zF, zG, zH]))
  refine TD.nil (fun w2 hr => ?_)
  have ks := hr.mod.at ks (fun h => h)
  have m2 := m1.then0 hr.mod
  clear hr
  go_wp2_with fail

  rw [Exit.noGoto_ret]
  exact bodyPost_ret (results_tmp2 rfl _ _ _) rfl ⟨rfl, m2⟩
theorem xor_max {x : Nat} (hx : x < 2 ^ 64) : bits .xor .u64 IntKind.u64.max (x : Int) = ((2 ^ 64 - 1 - x : Nat) : Int) := by
  have h := u64_xor_nat 18446744073709551615 x (by omega) hx
  rw [show IntKind.u64.max = ((18446744073709551615 : Nat) : Int) by decide, h]
  congr 1
  apply Nat.eq_of_testBit_eq
  intro i
  rw [Nat.testBit_xor, compl_bit hx, show 18446744073709551615 = 2 ^ 64 - 1 from rfl, Nat.testBit_two_pow_sub_one]
  by_cases hi : i < 64
  · simp [hi]
  · rw [decide_eq_false hi, Nat.testBit_lt_two_pow (Nat.lt_of_lt_of_le hx (Nat.pow_le_pow_right (by omega) (by omega)))]
    rfl
/-- The least number that none has. -/
def FreeAt (R : List (Option ItR)) (n : Nat) : Prop := R[n]? = some none ∧ ∀ i, i < n → occ R i = true
theorem exists_free (hf : R.countP Option.isSome ≠ R.length) : ∃ i, i < R.length ∧ occ R i = false := by
  have h1 : ¬ ∀ a ∈ R, Option.isSome a = true := fun h => hf (List.countP_eq_length.2 h)
  have : ∃ a ∈ R, a = none := by
    refine Classical.byContradiction fun hc => h1 fun a ha => ?_
    cases a with
    | none => exact absurd ⟨none, ha, rfl⟩ hc
    | some y => rfl
  obtain ⟨a, ha, rfl⟩ := this
  obtain ⟨i, hi⟩ := List.mem_iff_getElem?.1 ha
  exact ⟨i, (List.getElem?_eq_some_iff.1 hi).1, occ_none hi⟩
set_option maxRecDepth 20000 in
set_option maxHeartbeats 3200000 in
theorem putY_c (H : Slb w s g u R cur us) (hw : TabW w) (hf : R.countP Option.isSome ≠ R.length) (y : ItR) : Calls Tryd.prog 28 #[ptrV s, .agg (itr y)] w fun e w' => ∃ n : Nat, FreeAt R n ∧ e = .returned (.tuple #[.int .i64 (n : Int), .int .i64 0]) ∧ ∃ cur' us', Slb w' s g u (R.set n (some y)) cur' us' ∧ Mod (fun b => b = g ∨ b = u ∨ b = s) w w' := by
  obtain ⟨i0, hi0, ho0⟩ := exists_free hf
  have HH := Lib.hid (And.intro H (And.intro hi0 ho0))
  have ks := H.ks
  have kg := H.kg
  have ku := H.ku
  have hsg : s ≠ g := ne_of_obj ks kg (obj_ty (by decide))
  have hug : u ≠ g := ne_of_obj ku kg (obj_ty (by decide))
  have hsu : s ≠ u := ne_of_obj ks ku (obj_ty (by decide))
  have hgu : g ≠ u := Ne.symm hug
  have hgs : g ≠ s := Ne.symm hsg
  have hus : u ≠ s := Ne.symm hsu
  have hmp : R.countP Option.isSome < 4096 := Nat.lt_of_lt_of_le (Nat.lt_of_le_of_ne List.countP_le_length hf) H.len.2
  have hrl4 := H.len.2
  have hulr := H.words.1
  have hde : ((R.countP Option.isSome : Int) == (R.length : Int)) = false := by
    rw [beq_eq_false_iff_ne]
    exact fun e => hf (by exact_mod_cast e)
  generalize hmany : R.countP Option.isSome = many at *
  generalize hrl : R.length = rl at *
  generalize hul : us.length = ul at *
  generalize hU : (us.map wcell).toArray = U at *
  have HE := Lib.hid (And.intro hmany (And.intro hrl (And.intro hul (And.intro hU hulr))))
  have hulB : ul ≤ 64 := by omega
  clear H hi0 ho0 hmany hrl hul hU hulr hf
  go_enter Tryd.func28, Tryd.ntmps28
  go_upto_region 0 with fail
  have Lks := lt_size ks
  have Lkg := lt_size kg
  have Lku := lt_size ku
  refine wp_pass0 (C := fun _ _ _ => False) (κ := fun i => [3, 0, 0].getD i 0) [0, 1, 2] (by kernel_rfl) (by kernel_rfl) (fun _ _ d _ _ h => by cases d <;> first | exact h | exact absurd h (hP _ _ _)) ?_
  (refine TD.box (v := ?v15) (by simp only [zA, zB, zC]; rfl) rfl ?hw15 rfl rfl ?hx15 (fun p3 hp3 => ?hn15); (case hw15 => rfl); (case hx15 => (simp only [Act.eval, zD, zA, zB, zC, zE]; (try rfl))); (try simp only [Act.put, zF, zG, zH]))
  (refine TD.val0 (v := ?v16) (by simp only [zA, zB, zC]; rfl) rfl ?hw16 (fun w1 => ?hy16) ?hn16; (case hw16 => rfl); (case hy16 => (go_simp; (try with_reducible rfl))); (try simp only [Act.put, zF, zG, zH]))
  (refine TD.val0 (v := ?v17) (by simp only [zA, zB, zC]; rfl) rfl ?hw17 (fun w1 => ?hy17) ?hn17; (case hw17 => rfl); (case hy17 => (go_simp; (try with_reducible rfl))); (try simp only [Act.put, zF, zG, zH]))
  refine TD.nil (fun w1 hr => ?_)
  have ks := hr.mod.at ks (fun h => h)
  have kg := hr.mod.at kg (fun h => h)
  have ku := hr.mod.at ku (fun h => h)
  have kp3 := hr.box p3 _ (by first | exact Bx.set_same _ _ _ | (simp only [Bx.set_same]; rfl)); dsimp only [Value.cells] at kp3; obtain ⟨gp3, kp3⟩ := kp3
  have m1 := hr.mod
  have hw1 := Lib.hid (hw.mod0 hr.mod)
  clear hr hw
  go_upto_block 0 with fail
  refine wp_scope_straight ?_
  refine wp_seq_k fun K hK => ?_
  refine wp_block ?_
  go_upto_region 3 with fail
  have Lks := lt_size ks
  have Lkg := lt_size kg
  have Lku := lt_size ku
  have Lkp3 := lt_size kp3
  refine wp_pass (C := fun _ _ _ => False) (κ := fun i => [0, 0, 0, 1, 0, 0, 0, 1, 0, 0, 0].getD i 0) [0, 1, 2, 3, 4, 5, 6, 7, 8, 9, 10] (by kernel_rfl) (by kernel_rfl) (fun _ _ d _ _ h => by cases d <;> first | exact h | exact absurd h (hP _ _ _)) ?_
  (refine TD.val0 (v := ?v18) (by simp only [zA, zB, zC]; rfl) rfl ?hw18 (fun w1 => ?hy18) ?hn18; (case hw18 => rfl); (case hy18 => (go_simp; (try with_reducible rfl))); (try simp only [Act.put, zF, zG, zH]))
  (refine TD.val0 (v := ?v19) (by simp only [zA, zB, zC]; rfl) rfl ?hw19 (fun w1 => ?hy19) ?hn19; (case hw19 => rfl); (case hy19 => (go_simp; (try with_reducible rfl))); (try simp only [Act.put, zF, zG, zH]))
  (refine TD.val0 (v := ?v20) (by simp only [zA, zB, zC]; rfl) rfl ?hw20 (fun w1 => ?hy20) ?hn20; (case hw20 => rfl); (case hy20 => (go_simp; (try with_reducible rfl))); (try simp only [Act.put, zF, zG, zH]))
  (refine TD.load (v := ?v21) (p := ?p21) (Mod.refl _ _) (by simp only [zA, zB, zC]; rfl) rfl ?hw21 rfl ?hx21 (fun wq hSq => ?hy21) ?hn21; (case hw21 => rfl); (case hx21 => (simp only [Act.eval, zD, zA, zB, zC, zE]; (try rfl))); (case hy21 => (have ksq := hSq.at ks (fun h => h); have kgq := hSq.at kg (fun h => h); have kuq := hSq.at ku (fun h => h); have kp3q := hSq.at kp3 (fun h => h); go_simp; (try with_reducible rfl))); (try simp only [Act.put, zF, zG, zH]))
  (refine TD.val0 (v := ?v22) (by simp only [zA, zB, zC]; rfl) rfl ?hw22 (fun w1 => ?hy22) ?hn22; (case hw22 => rfl); (case hy22 => (go_simp; (try with_reducible rfl))); (try simp only [Act.put, zF, zG, zH]))
  (refine TD.val0 (v := ?v23) (by simp only [zA, zB, zC]; rfl) rfl ?hw23 (fun w1 => ?hy23) ?hn23; (case hw23 => rfl); (case hy23 => (go_simp; (try with_reducible rfl))); (try simp only [Act.put, zF, zG, zH]))
  (refine TD.val0 (v := ?v24) (by simp only [zA, zB, zC]; rfl) rfl ?hw24 (fun w1 => ?hy24) ?hn24; (case hw24 => rfl); (case hy24 => (go_simp; (try with_reducible rfl))); (try simp only [Act.put, zF, zG, zH]))
  (refine TD.load (v := ?v25) (p := ?p25) (Mod.refl _ _) (by simp only [zA, zB, zC]; rfl) rfl ?hw25 rfl ?hx25 (fun wq hSq => ?hy25) ?hn25; (case hw25 => rfl); (case hx25 => (simp only [Act.eval, zD, zA, zB, zC, zE]; (try rfl))); (case hy25 => (have ksq := hSq.at ks (fun h => h); have kgq := hSq.at kg (fun h => h); have kuq := hSq.at ku (fun h => h); have kp3q := hSq.at kp3 (fun h => h); go_simp; (try with_reducible rfl))); (try simp only [Act.put, zF, zG, zH]))
  (refine TD.val0 (v := ?v26) (by simp only [zA, zB, zC]; rfl) rfl ?hw26 (fun w1 => ?hy26) ?hn26; (case hw26 => rfl); (case hy26 => (go_simp; (try with_reducible rfl))); (try simp only [Act.put, zF, zG, zH]))
  (refine TD.val0 (v := ?v27) (by simp only [zA, zB, zC]; rfl) rfl ?hw27 (fun w1 => ?hy27) ?hn27; (case hw27 => rfl); (case hy27 => (go_simp; (try with_reducible rfl))); (try simp only [Act.put, zF, zG, zH]))
  (refine TD.val0 (v := ?v28) (by simp only [zA, zB, zC]; rfl) rfl ?hw28 (fun w1 => ?hy28) ?hn28; (case hw28 => rfl); (case hy28 => (go_simp; (try with_reducible rfl))); (try simp only [Act.put, zF, zG, zH]))
  refine TD.nil (fun w2 hr => ?_)
  have ks := hr.mod.at ks (fun h => h)
  have kg := hr.mod.at kg (fun h => h)
  have ku := hr.mod.at ku (fun h => h)
  have kp3 := hr.mod.at kp3 (fun h => h)
  have m2 := m1.then0 hr.mod
  have hw2 := Lib.hid (hw1.out.mod0 hr.mod)
  clear hr hw1
  go_wp2_with fail

  go_step3
  go_wp2_with fail
  go_loopw [35, 4, 6, 7, 8] (fun s35 s4 s6 s7 s8 ws => ∃ j : Nat, j ≤ ul ∧ s35 = .int .i64 (j : Int) ∧ Hid (∀ i, i < 64 * j → occ R i = true) ∧ ws = w2) (fun s35 _ _ _ _ _ => ul - (intOf s35).toNat)
  case atStart => exact ⟨0, by omega, rfl, Lib.hid (fun i hi => by omega), rfl⟩
  case round =>
    obtain ⟨j, hj, rfl, HO, rfl⟩ := hrel
    by_cases hlt : j < ul
    · obtain ⟨hmany, hrl, hul, hU, hulr⟩ := HE.out
      have hx := List.getElem?_eq_getElem (l := us) (i := j) (by omega)
      generalize us[j] = x at hx
      obtain ⟨hx64, hbs⟩ := HH.out.1.words.2 j x hx
      have hc : U[j]? = some (.int .u64 (x : Int)) := by rw [← hU]; exact wcell_get hx
      have hc2 : ∀ h : j < U.size, U[j] = .int .u64 (x : Int) := fun h => at_get hc h
      have hcb := compl_bit hx64
      have hwc : bits .xor .u64 IntKind.u64.max (x : Int) = ((2 ^ 64 - 1 - x : Nat) : Int) := xor_max hx64
      have hns : IntKind.u64.signed = false := rfl
      have hy64 : 2 ^ 64 - 1 - x < 2 ^ 64 := by omega
      generalize 2 ^ 64 - 1 - x = z at *
      have HX := Lib.hid (And.intro hx (And.intro hx64 (And.intro hbs (And.intro hcb hy64))))
      clear hmany hrl hul hU hulr hx hx64 hbs hcb hy64
      go_wp2_with fail
      go_at_call 53
      rcases Nat.eq_zero_or_pos z with rfl | hz
      · refine (tz0_c _).mono ?_
        rintro e w3 ⟨rfl, rfl⟩
        go_wp2_with fail
        go_roundw
        case rel => exact ⟨j + 1, by omega, by go_num, Lib.hid (fun i hi => by
          by_cases h9 : i < 64 * j
          · exact HO.out i h9
          · obtain ⟨_, _, hbs, hcb, _⟩ := HX.out
            have h8 := hcb (i - 64 * j)
            rw [Nat.zero_testBit, decide_eq_true (by omega), Bool.true_and] at h8
            have h7 := hbs (i - 64 * j) (by omega)
            rw [show 64 * j + (i - 64 * j) = i by omega] at h7
            rw [← h7]
            simpa using h8.symm), trivial⟩
        case measure => simp [intOf]; omega
      · obtain ⟨k, h1, h0⟩ := least_bit hz
        have hk := bit_lt HX.out.2.2.2.2 h1
        have hkd := decide_eq_true hk
        refine (tz_c HX.out.2.2.2.2 h1 h0 hw2.out).mono ?_
        rintro e w3 ⟨rfl, rfl⟩
        have HK := Lib.hid (And.intro h1 h0)
        clear h1 h0
        obtain ⟨n, hn, hnI⟩ : ∃ n : Nat, n = 64 * j + k ∧ (j : Int) * 64 + (k : Int) = (n : Int) := ⟨64 * j + k, rfl, by omega⟩
        have hfree : FreeAt R n := by
          obtain ⟨hmany, hrl, hul, hU, hulr⟩ := HE.out
          obtain ⟨_, _, hbs, hcb, _⟩ := HX.out
          obtain ⟨h1, h0⟩ := HK.out
          have hbelow : ∀ i, i < n → occ R i = true := fun i hi => by
            by_cases h9 : i < 64 * j
            · exact HO.out i h9
            · have h8 := hcb (i - 64 * j)
              rw [h0 _ (by omega), decide_eq_true (by omega), Bool.true_and] at h8
              have h7 := hbs (i - 64 * j) (by omega)
              rw [show 64 * j + (i - 64 * j) = i by omega] at h7
              rw [← h7]
              simpa using h8.symm
          have hnot : occ R n = false := by
            have h8 := hcb k
            rw [h1, decide_eq_true hk, Bool.true_and] at h8
            rw [hn, ← hbs k hk]
            simpa using h8.symm
          obtain ⟨H, hi0, ho0⟩ := HH.out
          have hnl : n < R.length := by
            rcases Nat.lt_or_ge i0 n with h | h
            · rw [hbelow i0 h] at ho0
              cases ho0
            · omega
          refine ⟨?_, hbelow⟩
          cases hR : R[n]? with
          | none => rw [List.getElem?_eq_none_iff] at hR; omega
          | some o =>
            cases o with
            | none => rfl
            | some y => rw [occ_some hR] at hnot; cases hnot
        have hnl : n < R.length := (List.getElem?_eq_some_iff.1 hfree.1).1
        have hsz := HH.out.1.rows.size hnl
        have hrlE := HE.out.2.1
        have hnr : n < rl := by omega
        have hnr2 : (n : Int) < (rl : Int) := by omega
        have hn4 : n ≤ 4095 := by omega
        obtain ⟨P, xn, q3, q4, hn2, hn3⟩ := or_facts (i := n) HX.out.2.1
        have hmk : n % 64 = k := by omega
        have hdj : n / 64 = j := by omega
        rw [hmk] at q3
        have q1 : IntKind.i64.wrap ((n : Int) / 64) = (j : Int) := by
          rw [IntKind.wrap_i64]
          omega
        have q2 : Int.tmod (n : Int) 64 = (k : Int) := by
          rw [Int.tmod_eq_emod_of_nonneg (by omega)]
          omega
        have q5 : IntKind.i64.wrap ((many : Int) + 1) = ((many + 1 : Nat) : Int) := by
          rw [IntKind.wrap_i64]
          omega
        have hk3 : k ≤ 64 := by omega
        have HN := Lib.hid (And.intro hfree (And.intro hn (And.intro hn2 (And.intro hn3 (And.intro hmk hdj)))))
        clear hfree hn hn2 hn3 hmk hdj hnl hrlE
        go_upto_region 12 with fail
        clear hnI
        have Lks := lt_size ks
        have Lkg := lt_size kg
        have Lkp3 := lt_size kp3
        have Lku := lt_size ku
        refine wp_pass (C := fun _ _ _ => False) (κ := fun i => [0, 0, 0, 1, 0, 0, 0, 1, 0, 0, 0, 0, 0, 5].getD i 0) [0, 1, 2, 3, 4, 5, 6, 7, 8, 9, 10, 11, 12, 13] (by kernel_rfl) (by kernel_rfl) (fun _ _ d _ _ h => by cases d <;> first | exact h | exact absurd h (hP _ _ _)) ?_
        (refine TD.val0 (v := ?v29) (by simp only [zA, zB, zC]; rfl) rfl ?hw29 (fun w1 => ?hy29) ?hn29; (case hw29 => rfl); (case hy29 => (go_simp; (try with_reducible rfl))); (try simp only [Act.put, zF, zG, zH]))
        (refine TD.val0 (v := ?v30) (by simp only [zA, zB, zC]; rfl) rfl ?hw30 (fun w1 => ?hy30) ?hn30; (case hw30 => rfl); (case hy30 => (go_simp; (try with_reducible rfl))); (try simp only [Act.put, zF, zG, zH]))
        (refine TD.val0 (v := ?v31) (by simp only [zA, zB, zC]; rfl) rfl ?hw31 (fun w1 => ?hy31) ?hn31; (case hw31 => rfl); (case hy31 => (go_simp; (try with_reducible rfl))); (try simp only [Act.put, zF, zG, zH]))
        (refine TD.load (v := ?v32) (p := ?p32) (Mod.refl _ _) (by simp only [zA, zB, zC]; rfl) rfl ?hw32 rfl ?hx32 (fun wq hSq => ?hy32) ?hn32; (case hw32 => rfl); (case hx32 => (simp only [Act.eval, zD, zA, zB, zC, zE]; (try rfl))); (case hy32 => (have ksq := hSq.at ks (fun h => h); have kgq := hSq.at kg (fun h => h); have kp3q := hSq.at kp3 (fun h => h); have kuq := hSq.at ku (fun h => h); go_simp; (try with_reducible rfl))); (try simp only [Act.put, zF, zG, zH]))
        (refine TD.val0 (v := ?v33) (by simp only [zA, zB, zC]; rfl) rfl ?hw33 (fun w1 => ?hy33) ?hn33; (case hw33 => rfl); (case hy33 => (go_simp; (try with_reducible rfl))); (try simp only [Act.put, zF, zG, zH]))
        (refine TD.val0 (v := ?v34) (by simp only [zA, zB, zC]; rfl) rfl ?hw34 (fun w1 => ?hy34) ?hn34; (case hw34 => rfl); (case hy34 => (go_simp; (try with_reducible rfl))); (try simp only [Act.put, zF, zG, zH]))
        (refine TD.val0 (v := ?v35) (by simp only [zA, zB, zC]; rfl) rfl ?hw35 (fun w1 => ?hy35) ?hn35; (case hw35 => rfl); (case hy35 => (go_simp; (try with_reducible rfl))); (try simp only [Act.put, zF, zG, zH]))
        (refine TD.load (v := ?v36) (p := ?p36) (Mod.refl _ _) (by simp only [zA, zB, zC]; rfl) rfl ?hw36 rfl ?hx36 (fun wq hSq => ?hy36) ?hn36; (case hw36 => rfl); (case hx36 => (simp only [Act.eval, zD, zA, zB, zC, zE]; (try rfl))); (case hy36 => (have ksq := hSq.at ks (fun h => h); have kgq := hSq.at kg (fun h => h); have kp3q := hSq.at kp3 (fun h => h); have kuq := hSq.at ku (fun h => h); go_simp; (try with_reducible rfl))); (try simp only [Act.put, zF, zG, zH]))
        (refine TD.val0 (v := ?v37) (by simp only [zA, zB, zC]; rfl) rfl ?hw37 (fun w1 => ?hy37) ?hn37; (case hw37 => rfl); (case hy37 => (go_simp; (try with_reducible rfl))); (try simp only [Act.put, zF, zG, zH]))
        (refine TD.val0 (v := ?v38) (by simp only [zA, zB, zC]; rfl) rfl ?hw38 (fun w1 => ?hy38) ?hn38; (case hw38 => rfl); (case hy38 => (go_simp; (try with_reducible rfl))); (try simp only [Act.put, zF, zG, zH]))
        (refine TD.val0 (v := ?v39) (by simp only [zA, zB, zC]; rfl) rfl ?hw39 (fun w1 => ?hy39) ?hn39; (case hw39 => rfl); (case hy39 => (go_simp; (try with_reducible rfl))); (try simp only [Act.put, zF, zG, zH]))
        (refine TD.val0 (v := ?v40) (by simp only [zA, zB, zC]; rfl) rfl ?hw40 (fun w1 => ?hy40) ?hn40; (case hw40 => rfl); (case hy40 => (go_simp; (try with_reducible rfl))); (try simp only [Act.put, zF, zG, zH]))
        (refine TD.val0 (v := ?v41) (by simp only [zA, zB, zC]; rfl) rfl ?hw41 (fun w1 => ?hy41) ?hn41; (case hw41 => rfl); (case hy41 => (go_simp; (try with_reducible rfl))); (try simp only [Act.put, zF, zG, zH]))
        refine TD.eff (by simp only [zA, zB, zC]; rfl) rfl (fun wE hr => ?_)
        have ks := hr.mod.at0 ks
        have kg := hr.mod.at0 kg
        have kp3 := hr.mod.at0 kp3
        have ku := hr.mod.at0 ku
        have mE := hr.mod
        (refine eff_store (X := ?X42) (Y := ?Y42) (w' := ?w42) (by simp only [zA, zB, zC]; rfl) ?hw42 rfl ?hx42 ?hz42 ?hy42 ?hn42; (case hw42 => rfl); (case hx42 => (simp only [Act.eval, zD, zA, zB, zC, zE]; (try rfl))); (case hz42 => (simp only [Act.eval, zD, zA, zB, zC, zE]; (try rfl))); (case hy42 => (go_simp; (try with_reducible rfl))))
        (first | refine TE.nil_set ku (fun w4 ku mS => ?_) | refine TE.nil_setCell ku (fun w4 ku mS => ?_))
        have ks := mS.at_ne ks (by omega)
        have kg := mS.at_ne kg (by omega)
        have kp3 := mS.at_ne kp3 (by omega)
        have m4 : Mod (fun b => b = u) w3 w4 := (mE.mono (fun _ _ h => h.elim)).then mS (fun _ _ h => h)
        clear hr mE mS
        go_upto_region 13 with fail
        have Lks := lt_size ks
        have Lku := lt_size ku
        have Lkp3 := lt_size kp3
        have Lkg := lt_size kg
        refine wp_pass (C := fun _ _ _ => False) (κ := fun i => [0, 0, 0, 1, 0, 1, 0, 5].getD i 0) [0, 1, 2, 3, 4, 5, 6, 7] (by kernel_rfl) (by kernel_rfl) (fun _ _ d _ _ h => by cases d <;> first | exact h | exact absurd h (hP _ _ _)) ?_
        (refine TD.val0 (v := ?v43) (by simp only [zA, zB, zC]; rfl) rfl ?hw43 (fun w1 => ?hy43) ?hn43; (case hw43 => rfl); (case hy43 => (go_simp; (try with_reducible rfl))); (try simp only [Act.put, zF, zG, zH]))
        (refine TD.val0 (v := ?v44) (by simp only [zA, zB, zC]; rfl) rfl ?hw44 (fun w1 => ?hy44) ?hn44; (case hw44 => rfl); (case hy44 => (go_simp; (try with_reducible rfl))); (try simp only [Act.put, zF, zG, zH]))
        (refine TD.val0 (v := ?v45) (by simp only [zA, zB, zC]; rfl) rfl ?hw45 (fun w1 => ?hy45) ?hn45; (case hw45 => rfl); (case hy45 => (go_simp; (try with_reducible rfl))); (try simp only [Act.put, zF, zG, zH]))
        (refine TD.load (v := ?v46) (p := ?p46) (Mod.refl _ _) (by simp only [zA, zB, zC]; rfl) rfl ?hw46 rfl ?hx46 (fun wq hSq => ?hy46) ?hn46; (case hw46 => rfl); (case hx46 => (simp only [Act.eval, zD, zA, zB, zC, zE]; (try rfl))); (case hy46 => (have ksq := hSq.at ks (fun h => h); have kuq := hSq.at ku (fun h => h); have kp3q := hSq.at kp3 (fun h => h); have kgq := hSq.at kg (fun h => h); go_simp; (try with_reducible rfl))); (try simp only [Act.put, zF, zG, zH]))
        (refine TD.val0 (v := ?v47) (by simp only [zA, zB, zC]; rfl) rfl ?hw47 (fun w1 => ?hy47) ?hn47; (case hw47 => rfl); (case hy47 => (go_simp; (try with_reducible rfl))); (try simp only [Act.put, zF, zG, zH]))
        (refine TD.load (v := ?v48) (p := ?p48) (Mod.refl _ _) (by simp only [zA, zB, zC]; rfl) rfl ?hw48 rfl ?hx48 (fun wq hSq => ?hy48) ?hn48; (case hw48 => rfl); (case hx48 => (simp only [Act.eval, zD, zA, zB, zC, zE]; (try rfl))); (case hy48 => (have ksq := hSq.at ks (fun h => h); have kuq := hSq.at ku (fun h => h); have kp3q := hSq.at kp3 (fun h => h); have kgq := hSq.at kg (fun h => h); go_simp; (try with_reducible rfl))); (try simp only [Act.put, zF, zG, zH]))
        (refine TD.val0 (v := ?v49) (by simp only [zA, zB, zC]; rfl) rfl ?hw49 (fun w1 => ?hy49) ?hn49; (case hw49 => rfl); (case hy49 => (go_simp; (try with_reducible rfl))); (try simp only [Act.put, zF, zG, zH]))
        refine TD.eff (by simp only [zA, zB, zC]; rfl) rfl (fun wE hr => ?_)
        have ks := hr.mod.at0 ks
        have ku := hr.mod.at0 ku
        have kp3 := hr.mod.at0 kp3
        have kg := hr.mod.at0 kg
        have mE := hr.mod
        (refine eff_store (X := ?X50) (Y := ?Y50) (w' := ?w50) (by simp only [zA, zB, zC]; rfl) ?hw50 rfl ?hx50 ?hz50 ?hy50 ?hn50; (case hw50 => rfl); (case hx50 => (simp only [Act.eval, zD, zA, zB, zC, zE]; (try rfl))); (case hz50 => (simp only [Act.eval, zD, zA, zB, zC, zE]; (try rfl))); (case hy50 => (go_simp; (try with_reducible rfl))))
        (first | refine TE.nil_set kg (fun w5 kg mS => ?_) | refine TE.nil_setCell kg (fun w5 kg mS => ?_))
        (try simp only [Array.setIfInBounds, zF, zG, zH] at kg)
        have ks := mS.at_ne ks (by omega)
        have ku := mS.at_ne ku (by omega)
        have kp3 := mS.at_ne kp3 (by omega)
        have m5 : Mod (fun b => b = g ∨ b = u) w3 w5 := ((m4.then0 mE).mono (fun _ _ h => .inr h)).then mS (fun _ _ h => .inl h)
        clear hr mE mS
        go_upto_region 14 with fail
        have Lkg := lt_size kg
        have Lku := lt_size ku
        have Lks := lt_size ks
        refine wp_pass0 (C := fun _ _ _ => False) (κ := fun i => [0, 0, 0, 1, 0, 0, 0, 5].getD i 0) [0, 1, 2, 3, 4, 5, 6, 7] (by kernel_rfl) (by kernel_rfl) (fun _ _ d _ _ h => by cases d <;> first | exact h | exact absurd h (hP _ _ _)) ?_
        (refine TD.val0 (v := ?v51) (by simp only [zA, zB, zC]; rfl) rfl ?hw51 (fun w1 => ?hy51) ?hn51; (case hw51 => rfl); (case hy51 => (go_simp; (try with_reducible rfl))); (try simp only [Act.put, zF, zG, zH]))
        (refine TD.val0 (v := ?v52) (by simp only [zA, zB, zC]; rfl) rfl ?hw52 (fun w1 => ?hy52) ?hn52; (case hw52 => rfl); (case hy52 => (go_simp; (try with_reducible rfl))); (try simp only [Act.put, zF, zG, zH]))
        (refine TD.val0 (v := ?v53) (by simp only [zA, zB, zC]; rfl) rfl ?hw53 (fun w1 => ?hy53) ?hn53; (case hw53 => rfl); (case hy53 => (go_simp; (try with_reducible rfl))); (try simp only [Act.put, zF, zG, zH]))
        (refine TD.load (v := ?v54) (p := ?p54) (Mod.refl _ _) (by simp only [zA, zB, zC]; rfl) rfl ?hw54 rfl ?hx54 (fun wq hSq => ?hy54) ?hn54; (case hw54 => rfl); (case hx54 => (simp only [Act.eval, zD, zA, zB, zC, zE]; (try rfl))); (case hy54 => (have kgq := hSq.at kg (fun h => h); have kuq := hSq.at ku (fun h => h); have ksq := hSq.at ks (fun h => h); go_simp; (try with_reducible rfl))); (try simp only [Act.put, zF, zG, zH]))
        (refine TD.val0 (v := ?v55) (by simp only [zA, zB, zC]; rfl) rfl ?hw55 (fun w1 => ?hy55) ?hn55; (case hw55 => rfl); (case hy55 => (go_simp; (try with_reducible rfl))); (try simp only [Act.put, zF, zG, zH]))
        (refine TD.val0 (v := ?v56) (by simp only [zA, zB, zC]; rfl) rfl ?hw56 (fun w1 => ?hy56) ?hn56; (case hw56 => rfl); (case hy56 => (go_simp; (try with_reducible rfl))); (try simp only [Act.put, zF, zG, zH]))
        (refine TD.val0 (v := ?v57) (by simp only [zA, zB, zC]; rfl) rfl ?hw57 (fun w1 => ?hy57) ?hn57; (case hw57 => rfl); (case hy57 => (go_simp; (try with_reducible rfl))); (try simp only [Act.put, zF, zG, zH]))
        refine TD.eff (by simp only [zA, zB, zC]; rfl) rfl (fun wE hr => ?_)
        have kg := hr.mod.at0 kg
        have ku := hr.mod.at0 ku
        have ks := hr.mod.at0 ks
        have mE := hr.mod
        (refine eff_store (X := ?X58) (Y := ?Y58) (w' := ?w58) (by simp only [zA, zB, zC]; rfl) ?hw58 rfl ?hx58 ?hz58 ?hy58 ?hn58; (case hw58 => rfl); (case hx58 => (simp only [Act.eval, zD, zA, zB, zC, zE]; (try rfl))); (case hz58 => (simp only [Act.eval, zD, zA, zB, zC, zE]; (try rfl))); (case hy58 => (go_simp; (try with_reducible rfl))))
        (first | refine TE.nil_set ks (fun w6 ks mS => ?_) | refine TE.nil_setCell ks (fun w6 ks mS => ?_))
        (try simp only [Array.setIfInBounds, zF, zG, zH] at ks)
        have kg := mS.at_ne kg (by omega)
        have ku := mS.at_ne ku (by omega)
        have m6 : Mod (fun b => b = g ∨ b = u ∨ b = s) w3 w6 := ((m5.then0 mE).mono (fun i _ h => by rcases h with h | h <;> simp [h])).then mS (fun _ _ h => .inr (.inr h))
        clear hr mE mS
        have mF := (m2.mono (T := fun b => b = g ∨ b = u ∨ b = s) (fun _ _ h => h.elim)).trans m6
        go_wp2_with fail
        try rw [Exit.noGoto_ret]
        obtain ⟨H, hi0, ho0⟩ := HH.out
        obtain ⟨hmany, hrl, hul, hU, hulr⟩ := HE.out
        obtain ⟨hfree, hn, hn2, hn3, hmk, hdj⟩ := HN.out
        have hz : (itr y).size = 51 := itr_size y
        have hnl : n < R.length := by omega
        have hcnt := count_set hfree.1 (o' := some y)
        have hcnt2 : (R.set n (some y)).countP Option.isSome = many + 1 := by
          simp only [Option.isSome_some, if_true, Option.isSome_none, Bool.false_eq_true, if_false] at hcnt
          omega
        refine bodyPost_ret (results_tmp2 rfl _ _ _) rfl ⟨n, hfree, rfl, wr cur (n * 51) (itr y).toList, us.set j xn, ?_, mF⟩
        refine ⟨?_, ?_, H.rows.set hnl hz (fun y' e => by cases e; rfl), ?_, ?_, by rw [List.length_set]; exact H.len⟩
        · rw [List.length_set, List.length_set, hcnt2, hrl, hul]
          exact ks
        · rw [kg, ite_wr hz]
        · rw [ku, ← hU, words_set]
        · rw [← hdj]
          refine H.words.set hnl hn2 (fun k' hk' => ?_)
          rw [hn3 k' hk']
          by_cases hke : k' = n % 64
          · rw [if_pos hke, if_pos hke]
            rfl
          · rw [if_neg hke, if_neg hke, hdj]
            exact HX.out.2.2.1 k' hk'
    · exfalso
      obtain ⟨hmany, hrl, hul, hU, hulr⟩ := HE.out
      obtain ⟨H, hi0, ho0⟩ := HH.out
      rw [HO.out i0 (by omega)] at ho0
      cases ho0
end
end Go.Proofs.YtdeghpmlhcaedaaDoor
/- Slabs of items: Numbers. -/
namespace Go.Proofs.YtdeghpmlhcaedaaDoor
open Go.RowKit
open Go.ChangeMaps (setBlock)
set_option linter.unusedSimpArgs false
set_option linter.unusedVariables false
attribute [local go_sem ↓] wlItem ldItem stItem
attribute [local go_sem] cell_blk frozen_blk one_int one_bool one_ptr one_slice one_map Value.cells eqSl
def nums (R : List (Option ItR)) (n : Nat) : List Nat := (List.range n).filter (occ R)
theorem nums_succ (R : List (Option ItR)) (n : Nat) : nums R (n + 1) = nums R n ++ (if occ R n then [n] else []) := by
  unfold nums
  rw [List.range_succ, List.filter_append]
  congr 1
  cases h : occ R n <;> simp [h]
theorem nums_gap (R : List (Option ItR)) {a b : Nat} (hab : a ≤ b) (h : ∀ i, a ≤ i → i < b → occ R i = false) : nums R b = nums R a := by
  induction b with
  | zero =>
    obtain rfl : a = 0 := by omega
    rfl
  | succ b ih =>
    by_cases e : a = b + 1
    · rw [e]
    · rw [nums_succ, h b (by omega) (by omega), ih (by omega) (fun i h1 h2 => h i h1 (by omega))]
      simp
theorem nums_len (R : List (Option ItR)) (n : Nat) : (nums R n).length ≤ n := by
  have := List.length_filter_le (occ R) (List.range n)
  rw [List.length_range] at this
  exact this
theorem own_empty {w : World} {base q cap : Nat} {cur : Array Value} (hb : base ≤ q) (hg : w.heap[q]? = some (.cells cur 3 (0, 0))) (hs : cur.size = cap) (hm : cap ≤ maxLen) : SlOwn ic 1 3 w base (.slice (some ⟨q, 0, none⟩) 0 cap) [] :=
  ⟨rfl, .inr ⟨q, cap, cur, rfl, hb, hg, Nat.zero_le _, hm, by omega, by simp [cellsOf]⟩⟩
theorem bsI (x : Int) (w : World) : (Instr.buildSlice 51 1 #[(0, .int .i64 x)]).run Tryd.prog w = .ok (.slice (some ⟨w.heap.size, 0, none⟩) 1 1) (w.alloc (.cells #[.int .i64 x] 3)) := by
  go_simp
  try rfl
section
variable {w : World} {s g u : Nat} {R : List (Option ItR)} {cur : Array Value} {us : List Nat}
set_option maxRecDepth 20000 in
set_option maxHeartbeats 3200000 in
theorem numbers_c (H : Slb w s g u R cur us) (hw : TabW w) : Calls Tryd.prog 41 #[ptrV s] w fun e w' => ∃ v, e = .returned v ∧ SlOwn ic 1 3 w' w.heap.size v ((nums R R.length).map idn) ∧ Mod (fun _ => False) w w' := by
  have HH := Lib.hid H
  have ks := H.ks
  have ku := H.ku
  have hmp : R.countP Option.isSome ≤ 4096 := Nat.le_trans List.countP_le_length H.len.2
  have hrl4 := H.len.2
  have hulr := H.words.1
  generalize hmany : R.countP Option.isSome = many at *
  generalize hrl : R.length = rl at *
  generalize hul : us.length = ul at *
  generalize hU : (us.map wcell).toArray = U at *
  have hulB : ul ≤ 64 := by omega
  have HE := Lib.hid (And.intro hmany (And.intro hrl (And.intro hul (And.intro hU hulr))))
  have HW := Lib.hid hw
  have HW0 := Lib.hid hw
  clear H hmany hrl hul hU hulr hw
  obtain ⟨i0, z, hi, hz, hz1, hz2, hz3⟩ := intT.info
  have hmk : (Instr.makeSlice 51 (.int .i64 0) (.int .i64 (many : Int))).run Tryd.prog w = .ok (.slice (some ⟨w.heap.size, 0, none⟩) 0 many) (w.alloc (.cells (madeCells z.cells (many * i0.size)) 3)) := by
    have := run_make (P := Tryd.prog) w 51 3 i0 z Tryd.underlying51 hi hz .i64 .i64 (0 : Int) (many : Int) (by omega) (by omega) (by rw [hz2]; omega) (by omega)
    simpa using this
  have hcs : (madeCells z.cells (many * i0.size)).size = many := by rw [size_madeCells, hz1, Nat.mul_one]
  generalize madeCells z.cells (many * i0.size) = cur0 at *
  clear hi hz hz1 hz2 hz3
  go_enter Tryd.func41, Tryd.ntmps41
  go_upto_region 4 with fail
  have kq := heap_alloc_new w (.cells cur0 3)
  have m1 : Mod (fun _ => False) w (w.alloc (.cells cur0 3)) := (Mod.refl _ _).alloc _
  have HO0 : Hid (SlOwn ic 1 3 (w.alloc (.cells cur0 3)) w.heap.size (.slice (some ⟨w.heap.size, 0, none⟩) 0 many) ((nums R 0).map idn)) := Lib.hid (own_empty (Nat.le_refl _) kq hcs (by simp [maxLen]; omega))
  have ks1 := m1.at0 ks
  have ku1 := m1.at0 ku
  have HW1 := Lib.hid (HW.out.mod0 m1)
  generalize hw1 : w.alloc (.cells cur0 3) = w1 at *
  generalize hqe : w.heap.size = q at *
  have HQ := Lib.hid hqe
  clear hqe
  clear hmk hw1 kq ks ku HW hcs
  go_wp2_with fail
  go_loopw [18, 3, 4, 5] (fun s18 s3 s4 s5 ws => ∃ j : Nat, j ≤ ul ∧ s18 = .int .i64 (j : Int) ∧ Hid (SlOwn ic 1 3 ws q s3 ((nums R (64 * j)).map idn)) ∧ Mod (fun _ => False) w ws ∧ Hid (TabW ws) ∧ ws.heap[u]? = some (.cells U 30 (0, 0))) (fun s18 _ _ _ _ => ul - (intOf s18).toNat)
  case atStart => exact ⟨0, by omega, rfl, HO0, m1, HW1, ku1⟩
  case round =>
    obtain ⟨j, hj, rfl, HO, m2, HT, ku2⟩ := hrel
    by_cases hlt : j < ul
    · obtain ⟨hmany, hrl, hul, hU, hulr⟩ := HE.out
      have hx := List.getElem?_eq_getElem (l := us) (i := j) (by omega)
      generalize us[j] = x at hx
      obtain ⟨hx64, hbs⟩ := HH.out.words.2 j x hx
      have hc : U[j]? = some (.int .u64 (x : Int)) := by rw [← hU]; exact wcell_get hx
      have hc2 : ∀ h : j < U.size, U[j] = .int .u64 (x : Int) := fun h => at_get hc h
      have HX := Lib.hid (And.intro hx64 hbs)
      obtain ⟨wa, rfl⟩ : ∃ wa : World, wa = wr := ⟨_, rfl⟩
      clear hmany hrl hul hU hulr hx hx64 hbs
      go_wp2_with fail
      go_loopw [3, 5] (fun s3 s5 ws => ∃ x t : Nat, x < 18446744073709551616 ∧ t ≤ 64 ∧ s5 = .int .u64 (x : Int) ∧ Hid (∀ k, k < 64 → x.testBit k = (decide (t ≤ k) && occ R (64 * j + k))) ∧ Hid (SlOwn ic 1 3 ws q s3 ((nums R (64 * j + t)).map idn)) ∧ Mod (fun _ => False) w ws ∧ Hid (TabW ws) ∧ ws.heap[u]? = some (.cells U 30 (0, 0))) (fun _ s5 _ => (intOf s5).toNat)
      case atStart => exact ⟨x, 0, HX.out.1, by omega, rfl, Lib.hid (fun k hk => by rw [HX.out.2 k hk]; simp), HO, m2, HT, ku2⟩
      case round =>
        obtain ⟨y, t, hy, ht, rfl, HBt, HO2, m4, HT2, ku3⟩ := hrel
        rcases Nat.eq_zero_or_pos y with rfl | hz
        · have HO3 : Hid (SlOwn ic 1 3 wr q u3 ((nums R (64 * (j + 1))).map idn)) := Lib.hid (by
            rw [nums_gap R (a := 64 * j + t) (by omega) (fun i h1 h2 => ?_)]
            · exact HO2.out
            · have h3 := HBt.out (i - 64 * j) (by omega)
              rw [Nat.zero_testBit, decide_eq_true (by omega), Bool.true_and, show 64 * j + (i - 64 * j) = i by omega] at h3
              exact h3.symm)
          go_wp2_with fail
          go_roundw
          case rel => exact ⟨j + 1, by omega, by go_num, HO3, m4, HT2, ku3⟩
          case measure => simp [intOf]; omega
        · obtain ⟨k, h1, h0⟩ := least_bit hz
          have hk := bit_lt hy h1
          have hb := HBt.out k hk
          rw [h1] at hb
          have hb2 : t ≤ k ∧ occ R (64 * j + k) = true := by
            simpa using hb.symm
          obtain ⟨n, hn, hnI⟩ : ∃ n : Nat, n = 64 * j + k ∧ (j : Int) * 64 + (k : Int) = (n : Int) := ⟨64 * j + k, rfl, by omega⟩
          have hne : ((y : Int) != 0) = true := by rw [bne_iff_ne]; omega
          have hn4 : n ≤ 4096 := by omega
          have hnid : (idn n).toInt = (n : Int) := idn_toInt (by omega)
          have hmw : IntKind.i64.wrap ((j : Int) * 64) = (j : Int) * 64 := by rw [IntKind.wrap_i64]; omega
          have hnw : IntKind.i64.wrap (n : Int) = (n : Int) := by rw [IntKind.wrap_i64]; omega
          have hand : bits .and .u64 (y : Int) ((y : Int) - 1) = ((y &&& (y - 1) : Nat) : Int) := by
            rw [show (y : Int) - 1 = ((y - 1 : Nat) : Int) by omega]
            exact u64_and_nat y (y - 1) hy (by omega)
          have hlt3 : y &&& (y - 1) < y := Nat.lt_of_le_of_lt Nat.and_le_right (by omega)
          have hbit3 : ∀ k', k' < 64 → (y &&& (y - 1)).testBit k' = (decide (k + 1 ≤ k') && occ R (64 * j + k')) := fun k' hk' => by
            rw [drop_low h1 h0, HBt.out k' hk']
            by_cases h9 : k' < k
            · have h8 := HBt.out k' hk'
              rw [h0 k' h9] at h8
              rw [← h8]
              simp
              omega
            · by_cases he : k' = k
              · subst he
                rw [show decide (k' ≠ k') = false from decide_eq_false (fun h => h rfl), decide_eq_false (show ¬ k' + 1 ≤ k' by omega)]
                simp
              · rw [decide_eq_true (show t ≤ k' by omega), decide_eq_true he, decide_eq_true (show k + 1 ≤ k' by omega)]
                simp
          have hnums : nums R (64 * j + (k + 1)) = nums R (64 * j + t) ++ [n] := by
            rw [show 64 * j + (k + 1) = 64 * j + k + 1 by omega, nums_succ, hb2.2, if_pos rfl, nums_gap R (a := 64 * j + t) (by omega) (fun i h1' h2' => ?_), hn]
            have h3 := HBt.out (i - 64 * j) (by omega)
            rw [h0 _ (by omega), decide_eq_true (by omega), Bool.true_and, show 64 * j + (i - 64 * j) = i by omega] at h3
            exact h3.symm
          have hlen := nums_len R (64 * j + t)
          have HD := Lib.hid (And.intro h1 (And.intro h0 (And.intro hbit3 (And.intro hnums hlen))))
          have hbs := bsI (n : Int)
          obtain ⟨a3, c3, hv3, _⟩ := HO2.out.at intT
          generalize hll : ((nums R (64 * j + t)).map idn).length = ll at hv3
          have HLL := Lib.hid hll
          subst hv3
          generalize y &&& (y - 1) = y2 at *
          clear h1 h0 hbit3 hnums hlen hb hb2 hn hll
          go_upto_region 9 with fail
          have Lku3 := lt_size ku3
          refine wp_pass0 (C := fun _ _ v => v = .int .i64 (k : Int)) (κ := fun i => [0, 0, 0, 0, 2, 0, 3, 5, 0].getD i 0) [0, 1, 2, 3, 4, 5, 6, 7, 8] (by kernel_rfl) (by kernel_rfl) (fun _ _ d _ _ h => by cases d <;> first | exact h | exact absurd h (hP _ _ _)) ?_
          (refine TD.val0 (v := ?v1) (by simp only [zA, zB, zC]; rfl) rfl ?hw1 (fun w1 => ?hy1) ?hn1; (case hw1 => rfl); (case hy1 => (go_simp; (try with_reducible rfl))); (try simp only [Act.put, zF, zG, zH]))
          (refine TD.val0 (v := ?v2) (by simp only [zA, zB, zC]; rfl) rfl ?hw2 (fun w1 => ?hy2) ?hn2; (case hw2 => rfl); (case hy2 => (go_simp; (try with_reducible rfl))); (try simp only [Act.put, zF, zG, zH]))
          (refine TD.val0 (v := ?v3) (by simp only [zA, zB, zC]; rfl) rfl ?hw3 (fun w1 => ?hy3) ?hn3; (case hw3 => rfl); (case hy3 => (go_simp; (try with_reducible rfl))); (try simp only [Act.put, zF, zG, zH]))
          (refine TD.val0 (v := ?v4) (by simp only [zA, zB, zC]; rfl) rfl ?hw4 (fun w1 => ?hy4) ?hn4; (case hw4 => rfl); (case hy4 => (go_simp; (try with_reducible rfl))); (try simp only [Act.put, zF, zG, zH]))
          (refine TD.call (f := ?f5) (args := ?r5) (Mod.refl _ _) (by simp only [zA, zB, zC]; rfl) rfl ?hw5 (fun w1 => ?hy5) ?hsp5 ?hn5; (case hw5 => rfl); (case hy5 => (go_simp; (first | with_reducible rfl | (constructor <;> with_reducible rfl)))); (case hsp5 => (intro wq hSq; have ku3q := hSq.at ku3 (fun h => h); exact (tz_c hy HD.out.1 HD.out.2.1 (HT2.out.mod0 hSq)).mono (fun e w' h => ⟨_, h.1, rfl, by rw [h.2]; exact Mod.refl _ _⟩))); rintro _ rfl; (try simp only [Act.put, zF, zG, zH]))
          (refine TD.val0 (v := ?v6) (by simp only [zA, zB, zC]; rfl) rfl ?hw6 (fun w1 => ?hy6) ?hn6; (case hw6 => rfl); (case hy6 => (go_simp; (try with_reducible rfl))); (try simp only [Act.put, zF, zG, zH]))
          (refine TD.bslice (by simp only [zA, zB, zC]; rfl) rfl ?hw7 rfl rfl ?hx7 hbs (fun p35 hp35 => ?hn7); (case hw7 => rfl); (case hx7 => (simp only [List.map_toArray, List.map_cons, List.map_nil, Act.eval, zD, zA, zB, zC, zE]; (try rfl))); (try simp only [Act.put, zF, zG, zH]))
          refine TD.eff (by simp only [zA, zB, zC]; rfl) rfl (fun w5 hr => ?_)
          have ku3 := hr.mod.at ku3 (fun h => h)
          have kp35 := hr.box p35 _ (by first | exact Bx.set_same _ _ _ | (simp only [Bx.set_same]; rfl)); dsimp only [Value.cells] at kp35; obtain ⟨gp35, kp35⟩ := kp35
          have mm := m4.then0 hr.mod
          have hone : SlAt ic 1 w5 (some ⟨p35, 0, none⟩) [idn n] := SlAt.one kp35 (idn n) (by rw [ic, hnid]) rfl
          have hO5 := HO2.out.mod0 hr.mod
          have hlt2 := hO5.lt
          have HT5 := Lib.hid (HT2.out.mod0 hr.mod)
          obtain ⟨v3, w6, hap, hO6, m6, hn6⟩ := SlOwn.append intT (c := 1) hO5 hone (by rw [List.length_map]; simp; have := HD.out.2.2.2.2; omega) (by decide) (by have := HQ.out; have := mm.size; omega) 51
          have mF : Mod (fun _ => False) w w6 := mm.then m6 (fun i hi e => by have := (hlt2 i e).1; have := HQ.out; omega)
          have hsz5 := mm.size
          have hu5 : u < q := by have := HQ.out; have := lt_size HH.out.ku; omega
          have ku6 := m6.at ku3 (fun e => by have := (hlt2 u e).1; omega)
          have HT6 : Hid (TabW w6) := Lib.hid (by
            have h0 : (0 : Nat) < q := by
              obtain ⟨C, U', fr, h1, _⟩ := HW0.out
              have := lt_size h1
              have := HQ.out
              omega
            exact HT5.out.mod m6 (fun e => by have := (hlt2 0 e).1; omega))
          have HO6 : Hid (SlOwn ic 1 3 w6 q v3 ((nums R (64 * j + (k + 1))).map idn)) := Lib.hid (by
            rw [HD.out.2.2.2.1, List.map_append]
            exact hO6)
          clear hr hone hO5 hlt2 hO6 m6 hn6 mm hbs kp35 HT5
          (refine eff_append (by simp only [zA, zB, zC]; rfl) ?hw9 rfl ?hx9 ?hz9 hap ?hn9; (case hw9 => rfl); (case hx9 => (simp only [Act.eval, zD, zA, zB, zC, zE]; (try rfl))); (case hz9 => (simp only [Act.eval, zD, zA, zB, zC, zE]; (try rfl))); (try simp only [Act.put, zF, zG, zH]))
          (refine TE.val0 (v := ?v10) (by simp only [zA, zB, zC]; rfl) ?hw10 (fun w1 => ?hy10) ?hn10; (case hw10 => rfl); (case hy10 => (go_simp; (try with_reducible rfl))); (try simp only [Act.put, zF, zG, zH]))
          refine TE.nil ?_
          clear hap
          go_wp2_with fail
          go_roundw
          case rel => exact ⟨y2, k + 1, by omega, by omega, rfl, Lib.hid HD.out.2.2.1, HO6, mF, HT6, ku6⟩
          case measure => simp [intOf]; omega
    · have hje : j = ul := by omega
      go_wp2_with fail
      go_ret
      refine ⟨_, rfl, ?_, m2⟩
      obtain ⟨hmany, hrl, hul, hU, hulr⟩ := HE.out
      have h9 := HO.out
      rw [HQ.out]
      rw [hje, nums_gap R (a := rl) (by omega) (fun i h1 h2 => occ_out (by omega))] at h9
      exact h9
end
end Go.Proofs.YtdeghpmlhcaedaaDoor
/- A further step of the pass: make. -/
namespace Go.Proofs.YtdeghpmlhcaedaaDoor
set_option linter.unusedVariables false
section
variable {P : Program} {ops : Array Oper} {Q : Exit → Act → World → Prop} {S : World → Prop} {C : FuncId → Array Value → Value → Prop} {w0 : World} {κ : Nat → Nat}
theorem TD.mks {i : Nat} {r : List Nat} {a : Act} {B : Bx} {o : Oper} {d : Tmp} {T E : TypeId} {n m : Nat} {x y : Operand} {X Y : Value} {z : Array Value} (ho : ops[i]? = some o) (hk : κ i = 3)
    (hw : Region.wanted o (yielded ops a.tmps) = true) (hd : o.dst = some d) (hop : o.op = .makeSlice T x y) (hx : a.eval x = X) (hy : a.eval y = Y)
    (hr : ∀ w, (Instr.makeSlice T X Y).run P w = .ok (.slice (some ⟨w.heap.size, 0, none⟩) n m) (w.alloc (.cells z E)))
    (h : ∀ p, B p = none → TD P ops Q S C w0 κ r (a.put o.dst (.slice (some ⟨p, 0, none⟩) n m)) (B.set p ⟨z, E, d⟩)) : TD P ops Q S C w0 κ (i :: r) a B :=
  .alloc (fun p => .slice (some ⟨p, 0, none⟩) n m) ho hk hw hd (fun w => by subst hx; subst hy; simp [execOp, hop, hr w]) h
end
end Go.Proofs.YtdeghpmlhcaedaaDoor
/- Slabs of items: New. -/
namespace Go.Proofs.YtdeghpmlhcaedaaDoor
open Go.RowKit
open Go.ChangeMaps (setBlock)
set_option linter.unusedSimpArgs false
set_option linter.unusedVariables false
attribute [local go_sem ↓] wlItem ldItem stItem
attribute [local go_sem] cell_blk frozen_blk one_int one_bool one_ptr one_slice one_map Value.cells eqSl
theorem infoItem : ∃ i0, Tryd.prog.info? 55 = some i0 ∧ i0.zero = some (.agg zItem) ∧ i0.size = 51 ∧ i0.bytes ≤ 1000 := by
  obtain ⟨i0, hi, hz0, hz1, hz2⟩ := info_parts (show (Tryd.prog.info? 55).map (fun i => (i.zero, i.size, i.bytes)) = some (some (.agg zItem), 51, 248) by kernel_rfl)
  exact ⟨i0, hi, hz0, hz1, by omega⟩
theorem infoU64 : ∃ i0, Tryd.prog.info? 30 = some i0 ∧ i0.zero = some (.int .u64 0) ∧ i0.size = 1 ∧ i0.bytes = 8 := by
  obtain ⟨i0, hi, hz0, hz1, hz2⟩ := info_parts (show (Tryd.prog.info? 30).map (fun i => (i.zero, i.size, i.bytes)) = some (some (.int .u64 0), 1, 8) by kernel_rfl)
  exact ⟨i0, hi, hz0, hz1, hz2⟩
set_option maxRecDepth 20000 in
set_option maxHeartbeats 1600000 in
theorem newN_c (w : World) {n : Int} (hn : n < 1 ∨ 4096 < n) : Calls Tryd.prog 24 #[.int .i64 n] w fun e w' => e = .returned (.tuple #[.pointer none, .int .i64 1]) ∧ w' = w := by
  rcases hn with hn | hn
  · have hd := decide_eq_true hn
    clear hn
    go_enter Tryd.func24, Tryd.ntmps24
    go_wp2_with fail
    exact bodyPost_ret (results_tmp2 rfl _ _ _) rfl ⟨rfl, rfl⟩
  · have hd := decide_eq_true hn
    have hd0 : decide (n < 1) = false := decide_eq_false (by omega)
    clear hn
    go_enter Tryd.func24, Tryd.ntmps24
    go_wp2_with fail
    exact bodyPost_ret (results_tmp2 rfl _ _ _) rfl ⟨rfl, rfl⟩
theorem words_new (n : Nat) : WordsOf (List.replicate n none) (List.replicate ((n + 63) / 64) 0) := by
  refine ⟨by simp, fun j x hx => ?_⟩
  obtain ⟨_, hx⟩ := List.getElem?_eq_some_iff.1 hx
  rw [List.getElem_replicate] at hx
  subst hx
  refine ⟨by omega, fun k hk => ?_⟩
  rw [Nat.zero_testBit]
  symm
  unfold occ
  rw [List.getElem?_replicate]
  split <;> rfl
theorem bldSlab (a b : Addr) (n m : Nat) (w : World) : (Instr.build 107 #[(0, .slice (some a) n n), (1, .slice (some b) m m)]).run Tryd.prog w = .ok (.agg #[.slice (some a) n n, .slice (some b) m m, .int .i64 0]) w := by kernel_rfl
set_option maxRecDepth 20000 in
set_option maxHeartbeats 1600000 in
theorem newY_c (w : World) {n : Nat} (h1 : 1 ≤ n) (h2 : n ≤ 4096) : Calls Tryd.prog 24 #[.int .i64 (n : Int)] w fun e w' => ∃ s g u cur us, e = .returned (.tuple #[ptrV s, .int .i64 0]) ∧ Slb w' s g u (List.replicate n none) cur us ∧ w.heap.size ≤ s ∧ w.heap.size ≤ g ∧ w.heap.size ≤ u ∧ Mod (fun _ => False) w w' := by
  obtain ⟨i0, hi, hz, hz1, hz2⟩ := infoItem
  obtain ⟨i1, hi1, hzu, hzu1, hzu2⟩ := infoU64
  have hmk : ∀ w, (Instr.makeSlice 105 (.int .i64 (n : Int)) (.int .i64 (n : Int))).run Tryd.prog w = .ok (.slice (some ⟨w.heap.size, 0, none⟩) n n) (w.alloc (.cells (madeCells zItem (n * i0.size)) 55)) := fun w => by
    have hb : (i0.bytes : Int) * (n : Int) ≤ 281474976710656 := by
      have : i0.bytes * n ≤ 1000 * 4096 := Nat.mul_le_mul hz2 h2
      have h3 : (i0.bytes : Int) * (n : Int) = ((i0.bytes * n : Nat) : Int) := by simp
      omega
    have := run_make (P := Tryd.prog) w 105 55 i0 _ Tryd.underlying105 hi hz .i64 .i64 (n : Int) (n : Int) (by omega) (by omega) hb (by omega)
    simpa [Value.cells] using this
  have hmk3 : ∀ W : Nat, W ≤ 100 → ∀ w, (Instr.makeSlice 22 (.int .i64 (W : Int)) (.int .i64 (W : Int))).run Tryd.prog w = .ok (.slice (some ⟨w.heap.size, 0, none⟩) W W) (w.alloc (.cells (madeCells #[.int .u64 0] (W * i1.size)) 30)) := fun W hW w => by
    have := run_make (P := Tryd.prog) w 22 30 i1 _ Tryd.underlying22 hi1 hzu .i64 .i64 (W : Int) (W : Int) (by omega) (by omega) (by rw [hzu2]; omega) (by omega)
    simpa [Value.cells] using this
  have hmk2 := hmk3 ((n + 63) / 64) (by omega)
  clear hmk3
  rw [hzu1, Nat.mul_one] at hmk2
  rw [hz1] at hmk
  have hcs : (madeCells zItem (n * 51)).size = n * 51 := size_madeCells _ _
  have hus : madeCells #[.int .u64 0] ((n + 63) / 64) = ((List.replicate ((n + 63) / 64) 0).map wcell).toArray := by
    apply Array.toList_inj.1
    rw [toList_madeCells_one]
    simp [wcell]
  rw [hus] at hmk2
  have hd1 : decide ((n : Int) < 1) = false := decide_eq_false (by omega)
  have hd2 : decide ((4096 : Int) < (n : Int)) = false := decide_eq_false (by omega)
  have q1 : IntKind.i64.wrap ((n : Int) + 64) = (n : Int) + 64 := by rw [IntKind.wrap_i64]; omega
  have q2 : IntKind.i64.wrap ((n : Int) + 64 - 1) = ((n + 63 : Nat) : Int) := by rw [IntKind.wrap_i64]; omega
  have q3 : IntKind.i64.wrap (((n + 63 : Nat) : Int) / 64) = (((n + 63) / 64 : Nat) : Int) := by rw [IntKind.wrap_i64]; omega
  have hul : ((List.replicate ((n + 63) / 64) 0).map wcell).length = (n + 63) / 64 := by simp
  have hbl := bldSlab
  have HU := Lib.hid (And.intro hul (words_new n))
  generalize madeCells zItem (n * 51) = cur at *
  generalize hW : (n + 63) / 64 = W at *
  generalize hUU : ((List.replicate W 0).map wcell).toArray = U at *
  have HUU := Lib.hid hUU
  clear hUU
  generalize n + 63 = n63 at *
  have HC := Lib.hid (And.intro hcs (And.intro h1 h2))
  clear hi hz hz1 hz2 hi1 hzu hzu1 hzu2 hus hcs h1 h2 hul
  go_enter Tryd.func24, Tryd.ntmps24
  go_upto_region 3 with fail
  refine wp_pass (C := fun _ _ _ => False) (κ := fun i => [0, 3, 0, 0, 0, 0, 3, 0, 3, 0, 0].getD i 0) [0, 1, 2, 3, 4, 5, 6, 7, 8, 9, 10] (by kernel_rfl) (by kernel_rfl) (fun _ _ d _ _ h => by cases d <;> first | exact h | exact absurd h (hP _ _ _)) ?_
  (refine TD.val0 (v := ?v1) (by simp only [zA, zB, zC]; rfl) rfl ?hw1 (fun w1 => ?hy1) ?hn1; (case hw1 => rfl); (case hy1 => (go_simp; (try with_reducible rfl))); (try simp only [Act.put, zF, zG, zH]))
  (refine TD.mks (by simp only [zA, zB, zC]; rfl) rfl ?hw2 rfl rfl ?hx2 ?hz2 hmk (fun p11 hp11 => ?hn2); (case hw2 => rfl); (case hx2 => (simp only [Act.eval, zD, zA, zB, zC, zE]; (try rfl))); (case hz2 => (simp only [Act.eval, zD, zA, zB, zC, zE]; (try rfl))); (try simp only [Act.put, zF, zG, zH]))
  (refine TD.val0 (v := ?v3) (by simp only [zA, zB, zC]; rfl) rfl ?hw3 (fun w1 => ?hy3) ?hn3; (case hw3 => rfl); (case hy3 => (go_simp; (try with_reducible rfl))); (try simp only [Act.put, zF, zG, zH]))
  (refine TD.val0 (v := ?v4) (by simp only [zA, zB, zC]; rfl) rfl ?hw4 (fun w1 => ?hy4) ?hn4; (case hw4 => rfl); (case hy4 => (go_simp; (try with_reducible rfl))); (try simp only [Act.put, zF, zG, zH]))
  (refine TD.val0 (v := ?v5) (by simp only [zA, zB, zC]; rfl) rfl ?hw5 (fun w1 => ?hy5) ?hn5; (case hw5 => rfl); (case hy5 => (go_simp; (try with_reducible rfl))); (try simp only [Act.put, zF, zG, zH]))
  (refine TD.val0 (v := ?v6) (by simp only [zA, zB, zC]; rfl) rfl ?hw6 (fun w1 => ?hy6) ?hn6; (case hw6 => rfl); (case hy6 => (go_simp; (try with_reducible rfl))); (try simp only [Act.put, zF, zG, zH]))
  (refine TD.mks (by simp only [zA, zB, zC]; rfl) rfl ?hw7 rfl rfl ?hx7 ?hz7 hmk2 (fun p16 hp16 => ?hn7); (case hw7 => rfl); (case hx7 => (simp only [Act.eval, zD, zA, zB, zC, zE]; (try rfl))); (case hz7 => (simp only [Act.eval, zD, zA, zB, zC, zE]; (try rfl))); (try simp only [Act.put, zF, zG, zH]))
  obtain ⟨ne_p16_p11, hp16⟩ := Bx.set_none hp16
  (refine TD.build (v := ?v8) (ps := ?p8) (by simp only [zA, zB, zC]; rfl) rfl ?hw8 rfl ?hx8 (fun w1 => ?hy8) ?hn8; (case hw8 => rfl); (case hx8 => (simp only [List.map_toArray, List.map_cons, List.map_nil, Act.eval, zD, zA, zB, zC, zE]; (try rfl))); (case hy8 => (rw [hbl]; (try with_reducible rfl))); (try simp only [Act.put, zF, zG, zH]))
  (refine TD.box (v := ?v9) (by simp only [zA, zB, zC]; rfl) rfl ?hw9 rfl rfl ?hx9 (fun p18 hp18 => ?hn9); (case hw9 => rfl); (case hx9 => (simp only [Act.eval, zD, zA, zB, zC, zE]; (try rfl))); (try simp only [Act.put, zF, zG, zH]))
  obtain ⟨ne_p18_p16, hp18⟩ := Bx.set_none hp18
  obtain ⟨ne_p18_p11, hp18⟩ := Bx.set_none hp18
  (refine TD.val0 (v := ?v10) (by simp only [zA, zB, zC]; rfl) rfl ?hw10 (fun w1 => ?hy10) ?hn10; (case hw10 => rfl); (case hy10 => (go_simp; (try with_reducible rfl))); (try simp only [Act.put, zF, zG, zH]))
  (refine TD.val0 (v := ?v11) (by simp only [zA, zB, zC]; rfl) rfl ?hw11 (fun w1 => ?hy11) ?hn11; (case hw11 => rfl); (case hy11 => (go_simp; (try with_reducible rfl))); (try simp only [Act.put, zF, zG, zH]))
  refine TD.nil (fun w1 hr => ?_)
  have kp11 := hr.box p11 _ (by first | exact Bx.set_same _ _ _ | (simp only [Bx.set_ne _ (Ne.symm ne_p16_p11), Bx.set_ne _ (Ne.symm ne_p18_p11), Bx.set_ne _ (Ne.symm ne_p18_p16), Bx.set_ne _ ne_p16_p11, Bx.set_ne _ ne_p18_p11, Bx.set_ne _ ne_p18_p16, Bx.set_same]; rfl)); dsimp only [Value.cells] at kp11; obtain ⟨gp11, kp11⟩ := kp11
  have kp16 := hr.box p16 _ (by first | exact Bx.set_same _ _ _ | (simp only [Bx.set_ne _ (Ne.symm ne_p16_p11), Bx.set_ne _ (Ne.symm ne_p18_p11), Bx.set_ne _ (Ne.symm ne_p18_p16), Bx.set_ne _ ne_p16_p11, Bx.set_ne _ ne_p18_p11, Bx.set_ne _ ne_p18_p16, Bx.set_same]; rfl)); dsimp only [Value.cells] at kp16; obtain ⟨gp16, kp16⟩ := kp16
  have kp18 := hr.box p18 _ (by first | exact Bx.set_same _ _ _ | (simp only [Bx.set_ne _ (Ne.symm ne_p16_p11), Bx.set_ne _ (Ne.symm ne_p18_p11), Bx.set_ne _ (Ne.symm ne_p18_p16), Bx.set_ne _ ne_p16_p11, Bx.set_ne _ ne_p18_p11, Bx.set_ne _ ne_p18_p16, Bx.set_same]; rfl)); dsimp only [Value.cells] at kp18; obtain ⟨gp18, kp18⟩ := kp18
  have mm := hr.mod
  clear hr hmk hmk2 hbl
  go_wp2_with fail
  refine bodyPost_ret (results_tmp2 rfl _ _ _) rfl ⟨p18, p11, p16, cur, List.replicate W 0, rfl, ?_, by omega, by omega, by omega, mm⟩
  have hcnt : (List.replicate n (none : Option ItR)).countP Option.isSome = 0 := by rw [List.countP_eq_zero]; intro a ha; rw [(List.mem_replicate.1 ha).2]; simp
  refine ⟨?_, kp11, ⟨by rw [List.length_replicate]; exact HC.out.1, fun i y hy => ?_⟩, ?_, HU.out.2, by rw [List.length_replicate]; exact HC.out.2⟩
  · rw [List.length_replicate, List.length_replicate, hcnt]
    exact kp18
  · obtain ⟨_, e⟩ := List.getElem?_eq_some_iff.1 hy
    rw [List.getElem_replicate] at e
    cases e
  · rw [HUU.out]
    exact kp16
end Go.Proofs.YtdeghpmlhcaedaaDoor
