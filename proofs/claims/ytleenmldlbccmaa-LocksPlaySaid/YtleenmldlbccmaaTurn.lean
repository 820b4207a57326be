/- The walks of locks.way and (*locks.Table).turn. -/
import Derived.Test.YtleenmldlbccmaaLk
import Derived.WalkLawsBesides
import Derived.Deep.DeepCutAuto
import Derived.Lib.Hide
import Derived.Laws.BitsAllLaws
namespace Go.Proofs.Ytleenmldlbccmaa
open Go.RowKit
open Go.ChangeMaps (setBlock)
set_option linter.unusedSimpArgs false
set_option linter.unusedVariables false
attribute [local go_sem ↓] wlKey wlRole wlSpot wlCounts wlBits ldKey ldRole ldSpot ldCounts ldBits stKey stRole stSpot stCounts stBits eqCounts eqBits
attribute [local go_sem] cell_blk frozen_blk kc_ext rc_size rc_key rc_all rc_s rc_w rc_s' rc_w' rc_one sc_size sc_key sc_all sc_n sc_n' sc_one one_int one_bool one_ptr one_slice one_map zSpot_size kc_one kc_one0 Value.cells
def wayN (b : Bool) : Int := if b then 1 else 0
theorem way_f (k : Key) (s : Bool) (w : World) :
    Calls Try.prog 28 #[.agg (rc k s false)] w fun e w' => e = .returned (.int .i64 0) ∧ Mod (fun _ => False) w w' := by
  go_enter Try.func28, Try.ntmps28
  go_upto_region 0 with fail
  refine wp_pass0 (C := fun _ _ _ => False) (κ := fun i => [3, 0].getD i 0) [0, 1] (by kernel_rfl) (by kernel_rfl) (fun _ _ d _ _ h => by cases d <;> exact h) ?_
  (refine TD.box (v := ?v1) (by simp only [List.getElem?_toArray, List.getElem?_cons_succ, List.getElem?_cons_zero]; rfl) rfl ?hw1 rfl rfl ?hx1 (fun p1 hp1 => ?hn1); (case hw1 => rfl); (case hx1 => (simp only [Act.eval, Array.getD_eq_getD_getElem?, List.getElem?_toArray, List.getElem?_cons_succ, List.getElem?_cons_zero, Option.getD_some]; (try rfl))); (try simp only [Act.put, List.setIfInBounds_toArray, List.set_cons_zero, List.set_cons_succ]))
  (refine TD.val0 (v := ?v2) (by simp only [List.getElem?_toArray, List.getElem?_cons_succ, List.getElem?_cons_zero]; rfl) rfl ?hw2 (fun w1 => ?hy2) ?hn2; (case hw2 => rfl); (case hy2 => (go_simp; (try with_reducible rfl))); (try simp only [Act.put, List.setIfInBounds_toArray, List.set_cons_zero, List.set_cons_succ]))
  refine TD.nil (fun w2 hr => ?_)
  have kp1 := hr.box p1 _ (by first | exact Bx.set_same _ _ _ | (simp only [Bx.set_same]; rfl)); dsimp only [Value.cells] at kp1; obtain ⟨gp1, kp1⟩ := kp1
  have m2 := hr.mod
  go_upto_region 1 with fail
  have Lkp1 := lt_size kp1
  refine wp_pass0 (C := fun _ _ _ => False) (κ := fun i => [0, 1].getD i 0) [0, 1] (by kernel_rfl) (by kernel_rfl) (fun _ _ d _ _ h => by cases d <;> exact h) ?_
  (refine TD.val0 (v := ?v3) (by simp only [List.getElem?_toArray, List.getElem?_cons_succ, List.getElem?_cons_zero]; rfl) rfl ?hw3 (fun w1 => ?hy3) ?hn3; (case hw3 => rfl); (case hy3 => (go_simp; (try with_reducible rfl))); (try simp only [Act.put, List.setIfInBounds_toArray, List.set_cons_zero, List.set_cons_succ]))
  (refine TD.load (v := ?v4) (p := ?p4) (Mod.refl _ _) (by simp only [List.getElem?_toArray, List.getElem?_cons_succ, List.getElem?_cons_zero]; rfl) rfl ?hw4 rfl ?hx4 (fun wq hSq => ?hy4) ?hn4; (case hw4 => rfl); (case hx4 => (simp only [Act.eval, Array.getD_eq_getD_getElem?, List.getElem?_toArray, List.getElem?_cons_succ, List.getElem?_cons_zero, Option.getD_some]; (try rfl))); (case hy4 => (have kp1q := hSq.at kp1 (fun h => h); go_simp; (try with_reducible rfl))); (try simp only [Act.put, List.setIfInBounds_toArray, List.set_cons_zero, List.set_cons_succ]))
  refine TD.nil (fun w3 hr => ?_)
  have kp1 := hr.mod.at kp1 (fun h => h)
  have m3 := m2.then0 hr.mod
  go_wp2
  go_ret
  exact ⟨rfl, m3⟩
theorem way_t (k : Key) (s : Bool) (w : World) :
    Calls Try.prog 28 #[.agg (rc k s true)] w fun e w' => e = .returned (.int .i64 1) ∧ Mod (fun _ => False) w w' := by
  go_enter Try.func28, Try.ntmps28
  go_upto_region 0 with fail
  refine wp_pass0 (C := fun _ _ _ => False) (κ := fun i => [3, 0].getD i 0) [0, 1] (by kernel_rfl) (by kernel_rfl) (fun _ _ d _ _ h => by cases d <;> exact h) ?_
  (refine TD.box (v := ?v5) (by simp only [List.getElem?_toArray, List.getElem?_cons_succ, List.getElem?_cons_zero]; rfl) rfl ?hw5 rfl rfl ?hx5 (fun p1 hp1 => ?hn5); (case hw5 => rfl); (case hx5 => (simp only [Act.eval, Array.getD_eq_getD_getElem?, List.getElem?_toArray, List.getElem?_cons_succ, List.getElem?_cons_zero, Option.getD_some]; (try rfl))); (try simp only [Act.put, List.setIfInBounds_toArray, List.set_cons_zero, List.set_cons_succ]))
  (refine TD.val0 (v := ?v6) (by simp only [List.getElem?_toArray, List.getElem?_cons_succ, List.getElem?_cons_zero]; rfl) rfl ?hw6 (fun w1 => ?hy6) ?hn6; (case hw6 => rfl); (case hy6 => (go_simp; (try with_reducible rfl))); (try simp only [Act.put, List.setIfInBounds_toArray, List.set_cons_zero, List.set_cons_succ]))
  refine TD.nil (fun w2 hr => ?_)
  have kp1 := hr.box p1 _ (by first | exact Bx.set_same _ _ _ | (simp only [Bx.set_same]; rfl)); dsimp only [Value.cells] at kp1; obtain ⟨gp1, kp1⟩ := kp1
  have m2 := hr.mod
  go_upto_region 1 with fail
  have Lkp1 := lt_size kp1
  refine wp_pass0 (C := fun _ _ _ => False) (κ := fun i => [0, 1].getD i 0) [0, 1] (by kernel_rfl) (by kernel_rfl) (fun _ _ d _ _ h => by cases d <;> exact h) ?_
  (refine TD.val0 (v := ?v7) (by simp only [List.getElem?_toArray, List.getElem?_cons_succ, List.getElem?_cons_zero]; rfl) rfl ?hw7 (fun w1 => ?hy7) ?hn7; (case hw7 => rfl); (case hy7 => (go_simp; (try with_reducible rfl))); (try simp only [Act.put, List.setIfInBounds_toArray, List.set_cons_zero, List.set_cons_succ]))
  (refine TD.load (v := ?v8) (p := ?p8) (Mod.refl _ _) (by simp only [List.getElem?_toArray, List.getElem?_cons_succ, List.getElem?_cons_zero]; rfl) rfl ?hw8 rfl ?hx8 (fun wq hSq => ?hy8) ?hn8; (case hw8 => rfl); (case hx8 => (simp only [Act.eval, Array.getD_eq_getD_getElem?, List.getElem?_toArray, List.getElem?_cons_succ, List.getElem?_cons_zero, Option.getD_some]; (try rfl))); (case hy8 => (have kp1q := hSq.at kp1 (fun h => h); go_simp; (try with_reducible rfl))); (try simp only [Act.put, List.setIfInBounds_toArray, List.set_cons_zero, List.set_cons_succ]))
  refine TD.nil (fun w3 hr => ?_)
  have kp1 := hr.mod.at kp1 (fun h => h)
  have m3 := m2.then0 hr.mod
  go_wp2
  go_ret
  exact ⟨rfl, m3⟩
theorem way_c (k : Key) (s b : Bool) (w : World) :
    Calls Try.prog 28 #[.agg (rc k s b)] w fun e w' => e = .returned (.int .i64 (wayN b)) ∧ Mod (fun _ => False) w w' := by
  cases b
  · exact way_f k s w
  · exact way_t k s w

/-! ### Bits -/
def pw (i : Nat) : Nat := 2 ^ i
def cbit (b : Nat) (i : Fin 64) : Nat := (bits .andNot .u64 (b : Int) ((2 : Int) ^ i.val)).toNat
def sbit (b : Nat) (i : Fin 64) : Nat := (bits .or .u64 (b : Int) ((2 : Int) ^ i.val)).toNat
theorem u64_wrap_nonneg (x : Int) : 0 ≤ IntKind.u64.wrap x := by
  rw [IntKind.wrap_u64]
  omega
theorem pw_lt (i : Fin 64) : 2 ^ i.val < 18446744073709551616 := by
  have : 2 ^ i.val < 2 ^ 64 := Nat.pow_lt_pow_right (by omega) i.isLt
  simpa using this
theorem wrap_pw (i : Fin 64) : IntKind.u64.wrap ((2 : Int) ^ i.val) = (pw i.val : Int) := by
  have h := pw_lt i
  rw [IntKind.wrap_u64]
  have e : ((2 : Int) ^ i.val) = ((2 ^ i.val : Nat) : Int) := by simp
  rw [e]
  unfold pw
  generalize 2 ^ i.val = x at h ⊢
  omega
theorem pw_int (i : Fin 64) : (pw i.val : Int) = (2 : Int) ^ i.val := by simp [pw]
theorem cbit_eq (b : Nat) (i : Fin 64) : bits .andNot .u64 (b : Int) (pw i.val : Int) = (cbit b i : Int) := by
  unfold cbit
  rw [pw_int]
  exact (Int.toNat_of_nonneg (u64_wrap_nonneg _)).symm
theorem sbit_eq (b : Nat) (i : Fin 64) : bits .or .u64 (b : Int) (pw i.val : Int) = (sbit b i : Int) := by
  unfold sbit
  rw [pw_int]
  exact (Int.toNat_of_nonneg (u64_wrap_nonneg _)).symm

/-! ### What turn comes to -/
def stepC (c : Int × Int) (b : Bool) (d : Int) : Int × Int := if b then (c.1, c.2 + d) else (c.1 + d, c.2)
def wayC (c : Int × Int) (b : Bool) : Int := if b then c.2 else c.1
def onBit (x : Nat) (i : Fin 64) (on : Bool) : Nat := if on then sbit (cbit x i) i else cbit x i
def stepU (u : Nat × Nat) (b : Bool) (i : Fin 64) (on : Bool) : Nat × Nat := if b then (u.1, onBit u.2 i on) else (onBit u.1 i on, u.2)
def putz {κ α β : Type} [DecidableEq κ] (k : κ) (v : α × β) (z : Bool) (m : List (κ × (α × β))) : List (κ × (α × β)) := if z then del k (put k v m) else put k v m
def turnC (mh : List (Spot × (Int × Int))) (k : Key) (i : Fin 64) (b : Bool) (d : Int) : Int × Int := stepC ((lkp (k, i) mh).getD (0, 0)) b d
def turnU (mh : List (Spot × (Int × Int))) (mw : List (Key × (Nat × Nat))) (k : Key) (i : Fin 64) (b : Bool) (d : Int) : Nat × Nat :=
  stepU ((lkp k mw).getD (0, 0)) b i (decide (0 < wayC (turnC mh k i b d) b))
def turnH (mh : List (Spot × (Int × Int))) (k : Key) (i : Fin 64) (b : Bool) (d : Int) : List (Spot × (Int × Int)) :=
  putz (k, i) (turnC mh k i b d) (decide (turnC mh k i b d = (0, 0))) mh
def turnW (mh : List (Spot × (Int × Int))) (mw : List (Key × (Nat × Nat))) (k : Key) (i : Fin 64) (b : Bool) (d : Int) : List (Key × (Nat × Nat)) :=
  putz k (turnU mh mw k i b d) (decide (turnU mh mw k i b d = (0, 0))) mw
def TurnPost (w : World) (hb wb : Nat) (mh : List (Spot × (Int × Int))) (mw : List (Key × (Nat × Nat))) (w' : World) : Prop :=
  ∃ eh ch ew cw, w'.heap[hb]? = some (.map eh ch) ∧ MapIs pv cv eh ch mh ∧ w'.heap[wb]? = some (.map ew cw) ∧ MapIs kv uv ew cw mw ∧ Mod (fun i => i = hb ∨ i = wb) w w'

theorem beq_pair_i (a b : Int) : (a == 0 && b == 0) = decide ((a, b) = ((0, 0) : Int × Int)) := by
  rw [Bool.eq_iff_iff]; simp
theorem beq_pair_n (a b : Nat) : (((a : Int) == 0) && ((b : Int) == 0)) = decide ((a, b) = ((0, 0) : Nat × Nat)) := by
  rw [Bool.eq_iff_iff]; simp

set_option maxHeartbeats 1600000 in
theorem turn_f (t hb wb : Nat) (n : Int) (k : Key) (s : Bool) (wk : Fin 64) (by_ : Int) (w : World) (eh ew : Array MapEntry) (ch cw : Nat) (mh : List (Spot × (Int × Int))) (mw : List (Key × (Nat × Nat)))
    (kt : w.heap[t]? = some (.cells #[.int .i64 n, .map (some hb), .map (some wb)] 49 (0, 0)))
    (kh : w.heap[hb]? = some (.map eh ch)) (Mh : MapIs pv cv eh ch mh) (kw : w.heap[wb]? = some (.map ew cw)) (Mw : MapIs kv uv ew cw mw) (hne : hb ≠ wb)
    (hlo : ∀ s c, lkp s mh = some c → 0 ≤ c.1 ∧ c.1 ≤ 1000000 ∧ 0 ≤ c.2 ∧ c.2 ≤ 1000000) (hby1 : -1 ≤ by_) (hby2 : by_ ≤ 1) :
    Calls Try.prog 29 #[.pointer (some ⟨t, 0, none⟩), .agg (rc k s false), .int .i64 (wk.val : Int), .int .i64 by_] w fun e w' => e = .returned (.tuple #[]) ∧ TurnPost w hb wb (turnH mh k wk false by_) (turnW mh mw k wk false by_) w' := by
  have hth := ne_of_obj kt kh (by simp)
  have htw := ne_of_obj kt kw (by simp)
  obtain ⟨c0, c1, hc⟩ : ∃ c0 c1, (lkp (k, wk) mh).getD (0, 0) = (c0, c1) := ⟨_, _, rfl⟩
  obtain ⟨b0, b1, hbt⟩ : ∃ b0 b1, (lkp k mw).getD (0, 0) = (b0, b1) := ⟨_, _, rfl⟩
  have hcb : 0 ≤ c0 ∧ c0 ≤ 1000000 ∧ 0 ≤ c1 ∧ c1 ≤ 1000000 := by
    cases hl : lkp (k, wk) mh with
    | none => rw [hl] at hc; cases hc; omega
    | some c =>
      rw [hl] at hc
      have := hlo _ _ hl
      cases hc
      exact this
  have hC : turnC mh k wk false by_ = (c0+by_,c1) := by unfold turnC; rw [hc]; rfl
  have hU : turnU mh mw k wk false by_ = (if 0 < c0 + by_ then (sbit (cbit b0 wk) wk,b1) else (cbit b0 wk,b1)) := by
    unfold turnU
    rw [hbt, hC]
    by_cases h : 0 < c0 + by_ <;> simp [stepU, wayC, onBit, h]
  obtain ⟨hc0, hc0', hc1, hc1'⟩ := hcb
  have mm : Mod (fun i => i = hb ∨ i = wb) w w := Mod.refl _ _
  have hwr : IntKind.i64.wrap (c0 + by_) = c0 + by_ := IntWalk.i64_in _ (by omega)
  have hsl := wrap_pw wk
  have hcl := cbit_eq b0 wk
  have hsb := sbit_eq (cbit b0 wk) wk
  have HC := Lib.hid hC
  have HU := Lib.hid hU
  have HL := Lib.hid hlo
  clear hC hU hlo
  go_enter Try.func29, Try.ntmps29
  go_upto_region 0 with fail
  have Lkt := lt_size kt
  have Lkh := lt_size kh
  have Lkw := lt_size kw
  refine wp_pass0 (C := fun _ _ _ => False) (κ := fun i => [3].getD i 0) [0] (by kernel_rfl) (by kernel_rfl) (fun _ _ d _ _ h => by cases d <;> exact h) ?_
  (refine TD.box (v := ?v9) (by simp only [List.getElem?_toArray, List.getElem?_cons_succ, List.getElem?_cons_zero]; rfl) rfl ?hw9 rfl rfl ?hx9 (fun R hR => ?hn9); (case hw9 => rfl); (case hx9 => (simp only [Act.eval, Array.getD_eq_getD_getElem?, List.getElem?_toArray, List.getElem?_cons_succ, List.getElem?_cons_zero, Option.getD_some]; (try rfl))); (try simp only [Act.put, List.setIfInBounds_toArray, List.set_cons_zero, List.set_cons_succ]))
  refine TD.nil (fun w1 hr => ?_)
  have kt := hr.mod.at kt (fun h => h)
  have kh := hr.mod.at kh (fun h => h)
  have kw := hr.mod.at kw (fun h => h)
  have kR := hr.box R _ (by first | exact Bx.set_same _ _ _ | (simp only [Bx.set_same]; rfl)); dsimp only [Value.cells] at kR; obtain ⟨gR, kR⟩ := kR
  have mm := mm.then0 hr.mod
  go_upto_region 1 with fail
  have LkR := lt_size kR
  have Lkt := lt_size kt
  have Lkh := lt_size kh
  have Lkw := lt_size kw
  refine wp_pass (C := fun _ _ v => v = .int .i64 (wayN false)) (κ := fun i => [0, 1, 0, 0, 1, 2, 3, 4, 0].getD i 0) [0, 1, 2, 3, 4, 5, 6, 7, 8] (by kernel_rfl) (by kernel_rfl) (fun _ _ d _ _ h => by cases d <;> exact h) ?_
  (refine TD.val0 (v := ?v10) (by simp only [List.getElem?_toArray, List.getElem?_cons_succ, List.getElem?_cons_zero]; rfl) rfl ?hw10 (fun w1 => ?hy10) ?hn10; (case hw10 => rfl); (case hy10 => (go_simp; (try with_reducible rfl))); (try simp only [Act.put, List.setIfInBounds_toArray, List.set_cons_zero, List.set_cons_succ]))
  (refine TD.load (v := ?v11) (p := ?p11) (Mod.refl _ _) (by simp only [List.getElem?_toArray, List.getElem?_cons_succ, List.getElem?_cons_zero]; rfl) rfl ?hw11 rfl ?hx11 (fun wq hSq => ?hy11) ?hn11; (case hw11 => rfl); (case hx11 => (simp only [Act.eval, Array.getD_eq_getD_getElem?, List.getElem?_toArray, List.getElem?_cons_succ, List.getElem?_cons_zero, Option.getD_some]; (try rfl))); (case hy11 => (have kRq := hSq.at kR (fun h => h); have ktq := hSq.at kt (fun h => h); have khq := hSq.at kh (fun h => h); have kwq := hSq.at kw (fun h => h); go_simp; (try with_reducible rfl))); (try simp only [Act.put, List.setIfInBounds_toArray, List.set_cons_zero, List.set_cons_succ]))
  (refine TD.val0 (v := ?v12) (by simp only [List.getElem?_toArray, List.getElem?_cons_succ, List.getElem?_cons_zero]; rfl) rfl ?hw12 (fun w1 => ?hy12) ?hn12; (case hw12 => rfl); (case hy12 => (go_simp; (try with_reducible rfl))); (try simp only [Act.put, List.setIfInBounds_toArray, List.set_cons_zero, List.set_cons_succ]))
  (refine TD.build (v := ?v13) (ps := ?p13) (by simp only [List.getElem?_toArray, List.getElem?_cons_succ, List.getElem?_cons_zero]; rfl) rfl ?hw13 rfl ?hx13 (fun w1 => ?hy13) ?hn13; (case hw13 => rfl); (case hx13 => (simp only [List.map_toArray, List.map_cons, List.map_nil, Act.eval, Array.getD_eq_getD_getElem?, List.getElem?_toArray, List.getElem?_cons_succ, List.getElem?_cons_zero, Option.getD_some]; (try rfl))); (case hy13 => (rw [buildSpot]; (try with_reducible rfl))); (try simp only [Act.put, List.setIfInBounds_toArray, List.set_cons_zero, List.set_cons_succ]))
  (refine TD.load (v := ?v14) (p := ?p14) (Mod.refl _ _) (by simp only [List.getElem?_toArray, List.getElem?_cons_succ, List.getElem?_cons_zero]; rfl) rfl ?hw14 rfl ?hx14 (fun wq hSq => ?hy14) ?hn14; (case hw14 => rfl); (case hx14 => (simp only [Act.eval, Array.getD_eq_getD_getElem?, List.getElem?_toArray, List.getElem?_cons_succ, List.getElem?_cons_zero, Option.getD_some]; (try rfl))); (case hy14 => (have kRq := hSq.at kR (fun h => h); have ktq := hSq.at kt (fun h => h); have khq := hSq.at kh (fun h => h); have kwq := hSq.at kw (fun h => h); go_simp; (try with_reducible rfl))); (try simp only [Act.put, List.setIfInBounds_toArray, List.set_cons_zero, List.set_cons_succ]))
  (refine TD.call (f := ?f15) (args := ?r15) (Mod.refl _ _) (by simp only [List.getElem?_toArray, List.getElem?_cons_succ, List.getElem?_cons_zero]; rfl) rfl ?hw15 (fun w1 => ?hy15) ?hsp15 ?hn15; (case hw15 => rfl); (case hy15 => (go_simp; (first | with_reducible rfl | (constructor <;> with_reducible rfl)))); (case hsp15 => (intro wq hSq; have kRq := hSq.at kR (fun h => h); have ktq := hSq.at kt (fun h => h); have khq := hSq.at kh (fun h => h); have kwq := hSq.at kw (fun h => h); exact (way_c k s false wq).mono (fun e w' h => ⟨_, h.1, rfl, h.2⟩))); rintro _ rfl; (try simp only [Act.put, List.setIfInBounds_toArray, List.set_cons_zero, List.set_cons_succ]))
  (refine TD.allocB (by simp only [List.getElem?_toArray, List.getElem?_cons_succ, List.getElem?_cons_zero]; rfl) rfl ?hw16 rfl rfl alSpot (fun p8 hp8 => ?hn16); (case hw16 => rfl); (try simp only [Act.put, List.setIfInBounds_toArray, List.set_cons_zero, List.set_cons_succ]))
  (refine TD.storeB (d := ?d17) (T := ?T17) (y := ?y17) (p := ?p17) (b := ?b17) (v := ?v17) (by simp only [List.getElem?_toArray, List.getElem?_cons_succ, List.getElem?_cons_zero]; rfl) rfl ?hw17 ?hd17 ?hop17 ?hev17 ?hx17 ?hb17 ?htag17 (fun w1 hb1 => ?hy17) ?hn17; (case hw17 => rfl); (case hd17 => rfl); (case hop17 => rfl); (case hev17 => (simp only [Act.eval, Array.getD_eq_getD_getElem?, List.getElem?_toArray, List.getElem?_cons_succ, List.getElem?_cons_zero, Option.getD_some]; (try rfl))); (case hx17 => (simp only [Act.eval, Array.getD_eq_getD_getElem?, List.getElem?_toArray, List.getElem?_cons_succ, List.getElem?_cons_zero, Option.getD_some]; (try rfl))); (case hb17 => first | exact Bx.set_same _ _ _ | (simp only [Bx.set_same]; rfl)); (case hy17 => (go_simp; (try with_reducible rfl))); (try simp only [Act.put, List.setIfInBounds_toArray, List.set_cons_zero, List.set_cons_succ]))
  (refine TD.val0 (v := ?v18) (by simp only [List.getElem?_toArray, List.getElem?_cons_succ, List.getElem?_cons_zero]; rfl) rfl ?hw18 (fun w1 => ?hy18) ?hn18; (case hw18 => rfl); (case hy18 => (go_simp; (try with_reducible rfl))); (try simp only [Act.put, List.setIfInBounds_toArray, List.set_cons_zero, List.set_cons_succ]))
  refine TD.nil (fun w2 hr => ?_)
  have kR := hr.mod.at kR (fun h => h)
  have kt := hr.mod.at kt (fun h => h)
  have kh := hr.mod.at kh (fun h => h)
  have kw := hr.mod.at kw (fun h => h)
  have kp8 := hr.box p8 _ (by first | exact Bx.set_same _ _ _ | (simp only [Bx.set_same]; rfl)); dsimp only [Value.cells] at kp8; obtain ⟨gp8, kp8⟩ := kp8
  have mm := mm.then0 hr.mod
  go_upto_region 2 with fail
  have l1 : ∀ wq, Mod (fun _ => False) w2 wq → (Instr.lookup 46 (.map (some hb)) (.agg (sc k (wk.val : Int))) false).run Try.prog wq = .ok (.agg #[.int .i64 c0, .int .i64 c1]) wq := fun wq hm => by
    have := Mh.lookupD spotT Try.underlying46 zero_c wq (hm.at kh (fun h => h)) (k, wk)
    rw [hc] at this
    exact this
  have l2 : ∀ wq, Mod (fun _ => False) w2 wq → (Instr.lookup 47 (.map (some wb)) (.agg (kc k)) false).run Try.prog wq = .ok (.agg #[.int .u64 (b0 : Int), .int .u64 (b1 : Int)]) wq := fun wq hm => by
    have := Mw.lookupD keyT Try.underlying47 zero_u wq (hm.at kw (fun h => h)) k
    rw [hbt] at this
    exact this
  have H1 := Lib.hid hc
  have H2 := Lib.hid hbt
  clear hc hbt
  have LkR := lt_size kR
  have Lkt := lt_size kt
  have Lkh := lt_size kh
  have Lkw := lt_size kw
  have Lkp8 := lt_size kp8
  refine wp_pass (C := fun _ _ _ => False) (κ := fun i => [0, 0, 0, 1, 1, 1, 0, 0, 0, 1, 0, 1, 1, 3, 3, 4, 4].getD i 0) [0, 1, 2, 3, 4, 5, 6, 7, 8, 9, 10, 11, 12, 13, 14, 15, 16] (by kernel_rfl) (by kernel_rfl) (fun _ _ d _ _ h => by cases d <;> exact h) ?_
  (refine TD.val0 (v := ?v19) (by simp only [List.getElem?_toArray, List.getElem?_cons_succ, List.getElem?_cons_zero]; rfl) rfl ?hw19 (fun w1 => ?hy19) ?hn19; (case hw19 => rfl); (case hy19 => (go_simp; (try with_reducible rfl))); (try simp only [Act.put, List.setIfInBounds_toArray, List.set_cons_zero, List.set_cons_succ]))
  (refine TD.val0 (v := ?v20) (by simp only [List.getElem?_toArray, List.getElem?_cons_succ, List.getElem?_cons_zero]; rfl) rfl ?hw20 (fun w1 => ?hy20) ?hn20; (case hw20 => rfl); (case hy20 => (go_simp; (try with_reducible rfl))); (try simp only [Act.put, List.setIfInBounds_toArray, List.set_cons_zero, List.set_cons_succ]))
  (refine TD.val0 (v := ?v21) (by simp only [List.getElem?_toArray, List.getElem?_cons_succ, List.getElem?_cons_zero]; rfl) rfl ?hw21 (fun w1 => ?hy21) ?hn21; (case hw21 => rfl); (case hy21 => (go_simp; (try with_reducible rfl))); (try simp only [Act.put, List.setIfInBounds_toArray, List.set_cons_zero, List.set_cons_succ]))
  (refine TD.load (v := ?v22) (p := ?p22) (Mod.refl _ _) (by simp only [List.getElem?_toArray, List.getElem?_cons_succ, List.getElem?_cons_zero]; rfl) rfl ?hw22 rfl ?hx22 (fun wq hSq => ?hy22) ?hn22; (case hw22 => rfl); (case hx22 => (simp only [Act.eval, Array.getD_eq_getD_getElem?, List.getElem?_toArray, List.getElem?_cons_succ, List.getElem?_cons_zero, Option.getD_some]; (try rfl))); (case hy22 => (have kRq := hSq.at kR (fun h => h); have ktq := hSq.at kt (fun h => h); have khq := hSq.at kh (fun h => h); have kwq := hSq.at kw (fun h => h); have kp8q := hSq.at kp8 (fun h => h); go_simp; (try with_reducible rfl))); (try simp only [Act.put, List.setIfInBounds_toArray, List.set_cons_zero, List.set_cons_succ]))
  (refine TD.load (v := ?v23) (p := ?p23) (Mod.refl _ _) (by simp only [List.getElem?_toArray, List.getElem?_cons_succ, List.getElem?_cons_zero]; rfl) rfl ?hw23 rfl ?hx23 (fun wq hSq => ?hy23) ?hn23; (case hw23 => rfl); (case hx23 => (simp only [Act.eval, Array.getD_eq_getD_getElem?, List.getElem?_toArray, List.getElem?_cons_succ, List.getElem?_cons_zero, Option.getD_some]; (try rfl))); (case hy23 => (have kRq := hSq.at kR (fun h => h); have ktq := hSq.at kt (fun h => h); have khq := hSq.at kh (fun h => h); have kwq := hSq.at kw (fun h => h); have kp8q := hSq.at kp8 (fun h => h); go_simp; (try with_reducible rfl))); (try simp only [Act.put, List.setIfInBounds_toArray, List.set_cons_zero, List.set_cons_succ]))
  (refine TD.lookup (v := ?v24) (p := ?p24) (q := ?q24) (Mod.refl _ _) (by simp only [List.getElem?_toArray, List.getElem?_cons_succ, List.getElem?_cons_zero]; rfl) rfl ?hw24 rfl ?hx24 ?hz24 (fun wq hSq => ?hy24) ?hn24; (case hw24 => rfl); (case hx24 => (simp only [Act.eval, Array.getD_eq_getD_getElem?, List.getElem?_toArray, List.getElem?_cons_succ, List.getElem?_cons_zero, Option.getD_some]; (try rfl))); (case hz24 => (simp only [Act.eval, Array.getD_eq_getD_getElem?, List.getElem?_toArray, List.getElem?_cons_succ, List.getElem?_cons_zero, Option.getD_some]; (try rfl))); (case hy24 => (rw [l1 wq hSq]; (try with_reducible rfl))); (try simp only [Act.put, List.setIfInBounds_toArray, List.set_cons_zero, List.set_cons_succ]))
  (refine TD.val0 (v := ?v25) (by simp only [List.getElem?_toArray, List.getElem?_cons_succ, List.getElem?_cons_zero]; rfl) rfl ?hw25 (fun w1 => ?hy25) ?hn25; (case hw25 => rfl); (case hy25 => (go_simp; (try with_reducible rfl))); (try simp only [Act.put, List.setIfInBounds_toArray, List.set_cons_zero, List.set_cons_succ]))
  (refine TD.val0 (v := ?v26) (by simp only [List.getElem?_toArray, List.getElem?_cons_succ, List.getElem?_cons_zero]; rfl) rfl ?hw26 (fun w1 => ?hy26) ?hn26; (case hw26 => rfl); (case hy26 => (go_simp; (try with_reducible rfl))); (try simp only [Act.put, List.setIfInBounds_toArray, List.set_cons_zero, List.set_cons_succ]))
  (refine TD.val0 (v := ?v27) (by simp only [List.getElem?_toArray, List.getElem?_cons_succ, List.getElem?_cons_zero]; rfl) rfl ?hw27 (fun w1 => ?hy27) ?hn27; (case hw27 => rfl); (case hy27 => (go_simp; (try with_reducible rfl))); (try simp only [Act.put, List.setIfInBounds_toArray, List.set_cons_zero, List.set_cons_succ]))
  (refine TD.load (v := ?v28) (p := ?p28) (Mod.refl _ _) (by simp only [List.getElem?_toArray, List.getElem?_cons_succ, List.getElem?_cons_zero]; rfl) rfl ?hw28 rfl ?hx28 (fun wq hSq => ?hy28) ?hn28; (case hw28 => rfl); (case hx28 => (simp only [Act.eval, Array.getD_eq_getD_getElem?, List.getElem?_toArray, List.getElem?_cons_succ, List.getElem?_cons_zero, Option.getD_some]; (try rfl))); (case hy28 => (have kRq := hSq.at kR (fun h => h); have ktq := hSq.at kt (fun h => h); have khq := hSq.at kh (fun h => h); have kwq := hSq.at kw (fun h => h); have kp8q := hSq.at kp8 (fun h => h); go_simp; (try with_reducible rfl))); (try simp only [Act.put, List.setIfInBounds_toArray, List.set_cons_zero, List.set_cons_succ]))
  (refine TD.val0 (v := ?v29) (by simp only [List.getElem?_toArray, List.getElem?_cons_succ, List.getElem?_cons_zero]; rfl) rfl ?hw29 (fun w1 => ?hy29) ?hn29; (case hw29 => rfl); (case hy29 => (go_simp; (try with_reducible rfl))); (try simp only [Act.put, List.setIfInBounds_toArray, List.set_cons_zero, List.set_cons_succ]))
  (refine TD.load (v := ?v30) (p := ?p30) (Mod.refl _ _) (by simp only [List.getElem?_toArray, List.getElem?_cons_succ, List.getElem?_cons_zero]; rfl) rfl ?hw30 rfl ?hx30 (fun wq hSq => ?hy30) ?hn30; (case hw30 => rfl); (case hx30 => (simp only [Act.eval, Array.getD_eq_getD_getElem?, List.getElem?_toArray, List.getElem?_cons_succ, List.getElem?_cons_zero, Option.getD_some]; (try rfl))); (case hy30 => (have kRq := hSq.at kR (fun h => h); have ktq := hSq.at kt (fun h => h); have khq := hSq.at kh (fun h => h); have kwq := hSq.at kw (fun h => h); have kp8q := hSq.at kp8 (fun h => h); go_simp; (try with_reducible rfl))); (try simp only [Act.put, List.setIfInBounds_toArray, List.set_cons_zero, List.set_cons_succ]))
  (refine TD.lookup (v := ?v31) (p := ?p31) (q := ?q31) (Mod.refl _ _) (by simp only [List.getElem?_toArray, List.getElem?_cons_succ, List.getElem?_cons_zero]; rfl) rfl ?hw31 rfl ?hx31 ?hz31 (fun wq hSq => ?hy31) ?hn31; (case hw31 => rfl); (case hx31 => (simp only [Act.eval, Array.getD_eq_getD_getElem?, List.getElem?_toArray, List.getElem?_cons_succ, List.getElem?_cons_zero, Option.getD_some]; (try rfl))); (case hz31 => (simp only [Act.eval, Array.getD_eq_getD_getElem?, List.getElem?_toArray, List.getElem?_cons_succ, List.getElem?_cons_zero, Option.getD_some]; (try rfl))); (case hy31 => (rw [l2 wq hSq]; (try with_reducible rfl))); (try simp only [Act.put, List.setIfInBounds_toArray, List.set_cons_zero, List.set_cons_succ]))
  (refine TD.allocB (by simp only [List.getElem?_toArray, List.getElem?_cons_succ, List.getElem?_cons_zero]; rfl) rfl ?hw32 rfl rfl alCounts (fun p10 hp10 => ?hn32); (case hw32 => rfl); (try simp only [Act.put, List.setIfInBounds_toArray, List.set_cons_zero, List.set_cons_succ]))
  (refine TD.allocB (by simp only [List.getElem?_toArray, List.getElem?_cons_succ, List.getElem?_cons_zero]; rfl) rfl ?hw33 rfl rfl alBits (fun p11 hp11 => ?hn33); (case hw33 => rfl); (try simp only [Act.put, List.setIfInBounds_toArray, List.set_cons_zero, List.set_cons_succ]))
  obtain ⟨ne_p11_p10, hp11⟩ := Bx.set_none hp11
  (refine TD.storeB (d := ?d34) (T := ?T34) (y := ?y34) (p := ?p34) (b := ?b34) (v := ?v34) (by simp only [List.getElem?_toArray, List.getElem?_cons_succ, List.getElem?_cons_zero]; rfl) rfl ?hw34 ?hd34 ?hop34 ?hev34 ?hx34 ?hb34 ?htag34 (fun w1 hb1 => ?hy34) ?hn34; (case hw34 => rfl); (case hd34 => rfl); (case hop34 => rfl); (case hev34 => (simp only [Act.eval, Array.getD_eq_getD_getElem?, List.getElem?_toArray, List.getElem?_cons_succ, List.getElem?_cons_zero, Option.getD_some]; (try rfl))); (case hx34 => (simp only [Act.eval, Array.getD_eq_getD_getElem?, List.getElem?_toArray, List.getElem?_cons_succ, List.getElem?_cons_zero, Option.getD_some]; (try rfl))); (case hb34 => first | exact Bx.set_same _ _ _ | (simp only [Bx.set_ne _ (Ne.symm ne_p11_p10), Bx.set_ne _ ne_p11_p10, Bx.set_same]; rfl)); (case hy34 => (go_simp; (try with_reducible rfl))); (try simp only [Act.put, List.setIfInBounds_toArray, List.set_cons_zero, List.set_cons_succ]))
  (refine TD.storeB (d := ?d35) (T := ?T35) (y := ?y35) (p := ?p35) (b := ?b35) (v := ?v35) (by simp only [List.getElem?_toArray, List.getElem?_cons_succ, List.getElem?_cons_zero]; rfl) rfl ?hw35 ?hd35 ?hop35 ?hev35 ?hx35 ?hb35 ?htag35 (fun w1 hb1 => ?hy35) ?hn35; (case hw35 => rfl); (case hd35 => rfl); (case hop35 => rfl); (case hev35 => (simp only [Act.eval, Array.getD_eq_getD_getElem?, List.getElem?_toArray, List.getElem?_cons_succ, List.getElem?_cons_zero, Option.getD_some]; (try rfl))); (case hx35 => (simp only [Act.eval, Array.getD_eq_getD_getElem?, List.getElem?_toArray, List.getElem?_cons_succ, List.getElem?_cons_zero, Option.getD_some]; (try rfl))); (case hb35 => first | exact Bx.set_same _ _ _ | (simp only [Bx.set_ne _ (Ne.symm ne_p11_p10), Bx.set_ne _ ne_p11_p10, Bx.set_same]; rfl)); (case hy35 => (go_simp; (try with_reducible rfl))); (try simp only [Act.put, List.setIfInBounds_toArray, List.set_cons_zero, List.set_cons_succ]))
  refine TD.nil (fun w3 hr => ?_)
  have kR := hr.mod.at kR (fun h => h)
  have kt := hr.mod.at kt (fun h => h)
  have kh := hr.mod.at kh (fun h => h)
  have kw := hr.mod.at kw (fun h => h)
  have kp8 := hr.mod.at kp8 (fun h => h)
  have kp10 := hr.box p10 _ (by first | exact Bx.set_same _ _ _ | (simp only [Bx.set_ne _ (Ne.symm ne_p11_p10), Bx.set_ne _ ne_p11_p10, Bx.set_same]; rfl)); dsimp only [Value.cells] at kp10; obtain ⟨gp10, kp10⟩ := kp10
  have kp11 := hr.box p11 _ (by first | exact Bx.set_same _ _ _ | (simp only [Bx.set_ne _ (Ne.symm ne_p11_p10), Bx.set_ne _ ne_p11_p10, Bx.set_same]; rfl)); dsimp only [Value.cells] at kp11; obtain ⟨gp11, kp11⟩ := kp11
  have mm := mm.then0 hr.mod
  clear l1 l2
  rw [show wayN false = 0 from rfl]
  go_upto_region 3 with fail
  have LkR := lt_size kR
  have Lkt := lt_size kt
  have Lkh := lt_size kh
  have Lkw := lt_size kw
  have Lkp8 := lt_size kp8
  have Lkp11 := lt_size kp11
  have Lkp10 := lt_size kp10
  refine wp_pass0 (C := fun _ _ _ => False) (κ := fun i => [0, 0, 1, 0, 0, 0, 5].getD i 0) [0, 1, 2, 3, 4, 5, 6] (by kernel_rfl) (by kernel_rfl) (fun _ _ d _ _ h => by cases d <;> exact h) ?_
  (refine TD.val0 (v := ?v36) (by simp only [List.getElem?_toArray, List.getElem?_cons_succ, List.getElem?_cons_zero]; rfl) rfl ?hw36 (fun w1 => ?hy36) ?hn36; (case hw36 => rfl); (case hy36 => (go_simp; (try with_reducible rfl))); (try simp only [Act.put, List.setIfInBounds_toArray, List.set_cons_zero, List.set_cons_succ]))
  (refine TD.val0 (v := ?v37) (by simp only [List.getElem?_toArray, List.getElem?_cons_succ, List.getElem?_cons_zero]; rfl) rfl ?hw37 (fun w1 => ?hy37) ?hn37; (case hw37 => rfl); (case hy37 => (go_simp; (try with_reducible rfl))); (try simp only [Act.put, List.setIfInBounds_toArray, List.set_cons_zero, List.set_cons_succ]))
  (refine TD.load (v := ?v38) (p := ?p38) (Mod.refl _ _) (by simp only [List.getElem?_toArray, List.getElem?_cons_succ, List.getElem?_cons_zero]; rfl) rfl ?hw38 rfl ?hx38 (fun wq hSq => ?hy38) ?hn38; (case hw38 => rfl); (case hx38 => (simp only [Act.eval, Array.getD_eq_getD_getElem?, List.getElem?_toArray, List.getElem?_cons_succ, List.getElem?_cons_zero, Option.getD_some]; (try rfl))); (case hy38 => (have kRq := hSq.at kR (fun h => h); have ktq := hSq.at kt (fun h => h); have khq := hSq.at kh (fun h => h); have kwq := hSq.at kw (fun h => h); have kp8q := hSq.at kp8 (fun h => h); have kp11q := hSq.at kp11 (fun h => h); have kp10q := hSq.at kp10 (fun h => h); go_simp; (try with_reducible rfl))); (try simp only [Act.put, List.setIfInBounds_toArray, List.set_cons_zero, List.set_cons_succ]))
  (refine TD.val0 (v := ?v39) (by simp only [List.getElem?_toArray, List.getElem?_cons_succ, List.getElem?_cons_zero]; rfl) rfl ?hw39 (fun w1 => ?hy39) ?hn39; (case hw39 => rfl); (case hy39 => (go_simp; (try with_reducible rfl))); (try simp only [Act.put, List.setIfInBounds_toArray, List.set_cons_zero, List.set_cons_succ]))
  (refine TD.val0 (v := ?v40) (by simp only [List.getElem?_toArray, List.getElem?_cons_succ, List.getElem?_cons_zero]; rfl) rfl ?hw40 (fun w1 => ?hy40) ?hn40; (case hw40 => rfl); (case hy40 => (go_simp; (try with_reducible rfl))); (try simp only [Act.put, List.setIfInBounds_toArray, List.set_cons_zero, List.set_cons_succ]))
  (refine TD.val0 (v := ?v41) (by simp only [List.getElem?_toArray, List.getElem?_cons_succ, List.getElem?_cons_zero]; rfl) rfl ?hw41 (fun w1 => ?hy41) ?hn41; (case hw41 => rfl); (case hy41 => (go_simp; (try with_reducible rfl))); (try simp only [Act.put, List.setIfInBounds_toArray, List.set_cons_zero, List.set_cons_succ]))
  refine TD.eff (by simp only [List.getElem?_toArray, List.getElem?_cons_succ, List.getElem?_cons_zero]; rfl) rfl (fun wE hr => ?_)
  have kR := hr.mod.at0 kR
  have kt := hr.mod.at0 kt
  have kh := hr.mod.at0 kh
  have kw := hr.mod.at0 kw
  have kp8 := hr.mod.at0 kp8
  have kp11 := hr.mod.at0 kp11
  have kp10 := hr.mod.at0 kp10
  have mE := hr.mod
  (refine eff_store (X := ?X42) (Y := ?Y42) (w' := ?w42) (by simp only [List.getElem?_toArray, List.getElem?_cons_succ, List.getElem?_cons_zero]; rfl) ?hw42 rfl ?hx42 ?hz42 ?hy42 ?hn42; (case hw42 => rfl); (case hx42 => (simp only [Act.eval, Array.getD_eq_getD_getElem?, List.getElem?_toArray, List.getElem?_cons_succ, List.getElem?_cons_zero, Option.getD_some]; (try rfl))); (case hz42 => (simp only [Act.eval, Array.getD_eq_getD_getElem?, List.getElem?_toArray, List.getElem?_cons_succ, List.getElem?_cons_zero, Option.getD_some]; (try rfl))); (case hy42 => (go_simp; (try with_reducible rfl))))
  (first | refine TE.nil_set kp10 (fun w4 kp10 mS => ?_) | refine TE.nil_setCell kp10 (fun w4 kp10 mS => ?_))
  (try simp only [Array.setIfInBounds, List.setIfInBounds_toArray, List.set_cons_zero, List.set_cons_succ] at kp10)
  have kR := mS.at_ne kR (by omega)
  have kt := mS.at_ne kt (by omega)
  have kh := mS.at_ne kh (by omega)
  have kw := mS.at_ne kw (by omega)
  have kp8 := mS.at_ne kp8 (by omega)
  have kp11 := mS.at_ne kp11 (by omega)
  have mm := (mm.then0 mE).thenB mS (.inl (by omega))
  go_upto_region 4 with fail
  have LkR := lt_size kR
  have Lkt := lt_size kt
  have Lkh := lt_size kh
  have Lkw := lt_size kw
  have Lkp8 := lt_size kp8
  have Lkp11 := lt_size kp11
  have Lkp10 := lt_size kp10
  refine wp_pass (C := fun _ _ _ => False) (κ := fun i => [0, 0, 1, 0, 0, 0, 0, 5].getD i 0) [0, 1, 2, 3, 4, 5, 6, 7] (by kernel_rfl) (by kernel_rfl) (fun _ _ d _ _ h => by cases d <;> exact h) ?_
  (refine TD.val0 (v := ?v43) (by simp only [List.getElem?_toArray, List.getElem?_cons_succ, List.getElem?_cons_zero]; rfl) rfl ?hw43 (fun w1 => ?hy43) ?hn43; (case hw43 => rfl); (case hy43 => (go_simp; (try with_reducible rfl))); (try simp only [Act.put, List.setIfInBounds_toArray, List.set_cons_zero, List.set_cons_succ]))
  (refine TD.val0 (v := ?v44) (by simp only [List.getElem?_toArray, List.getElem?_cons_succ, List.getElem?_cons_zero]; rfl) rfl ?hw44 (fun w1 => ?hy44) ?hn44; (case hw44 => rfl); (case hy44 => (go_simp; (try with_reducible rfl))); (try simp only [Act.put, List.setIfInBounds_toArray, List.set_cons_zero, List.set_cons_succ]))
  (refine TD.load (v := ?v45) (p := ?p45) (Mod.refl _ _) (by simp only [List.getElem?_toArray, List.getElem?_cons_succ, List.getElem?_cons_zero]; rfl) rfl ?hw45 rfl ?hx45 (fun wq hSq => ?hy45) ?hn45; (case hw45 => rfl); (case hx45 => (simp only [Act.eval, Array.getD_eq_getD_getElem?, List.getElem?_toArray, List.getElem?_cons_succ, List.getElem?_cons_zero, Option.getD_some]; (try rfl))); (case hy45 => (have kRq := hSq.at kR (fun h => h); have ktq := hSq.at kt (fun h => h); have khq := hSq.at kh (fun h => h); have kwq := hSq.at kw (fun h => h); have kp8q := hSq.at kp8 (fun h => h); have kp11q := hSq.at kp11 (fun h => h); have kp10q := hSq.at kp10 (fun h => h); go_simp; (try with_reducible rfl))); (try simp only [Act.put, List.setIfInBounds_toArray, List.set_cons_zero, List.set_cons_succ]))
  (refine TD.val0 (v := ?v46) (by simp only [List.getElem?_toArray, List.getElem?_cons_succ, List.getElem?_cons_zero]; rfl) rfl ?hw46 (fun w1 => ?hy46) ?hn46; (case hw46 => rfl); (case hy46 => (go_simp; (try with_reducible rfl))); (try simp only [Act.put, List.setIfInBounds_toArray, List.set_cons_zero, List.set_cons_succ]))
  (refine TD.val0 (v := ?v47) (by simp only [List.getElem?_toArray, List.getElem?_cons_succ, List.getElem?_cons_zero]; rfl) rfl ?hw47 (fun w1 => ?hy47) ?hn47; (case hw47 => rfl); (case hy47 => (go_simp; (try with_reducible rfl))); (try simp only [Act.put, List.setIfInBounds_toArray, List.set_cons_zero, List.set_cons_succ]))
  (refine TD.val0 (v := ?v48) (by simp only [List.getElem?_toArray, List.getElem?_cons_succ, List.getElem?_cons_zero]; rfl) rfl ?hw48 (fun w1 => ?hy48) ?hn48; (case hw48 => rfl); (case hy48 => (go_simp; (try with_reducible rfl))); (try simp only [Act.put, List.setIfInBounds_toArray, List.set_cons_zero, List.set_cons_succ]))
  (refine TD.val0 (v := ?v49) (by simp only [List.getElem?_toArray, List.getElem?_cons_succ, List.getElem?_cons_zero]; rfl) rfl ?hw49 (fun w1 => ?hy49) ?hn49; (case hw49 => rfl); (case hy49 => (go_simp; (try with_reducible rfl))); (try simp only [Act.put, List.setIfInBounds_toArray, List.set_cons_zero, List.set_cons_succ]))
  refine TD.eff (by simp only [List.getElem?_toArray, List.getElem?_cons_succ, List.getElem?_cons_zero]; rfl) rfl (fun wE hr => ?_)
  have kR := hr.mod.at0 kR
  have kt := hr.mod.at0 kt
  have kh := hr.mod.at0 kh
  have kw := hr.mod.at0 kw
  have kp8 := hr.mod.at0 kp8
  have kp11 := hr.mod.at0 kp11
  have kp10 := hr.mod.at0 kp10
  have mE := hr.mod
  (refine eff_store (X := ?X50) (Y := ?Y50) (w' := ?w50) (by simp only [List.getElem?_toArray, List.getElem?_cons_succ, List.getElem?_cons_zero]; rfl) ?hw50 rfl ?hx50 ?hz50 ?hy50 ?hn50; (case hw50 => rfl); (case hx50 => (simp only [Act.eval, Array.getD_eq_getD_getElem?, List.getElem?_toArray, List.getElem?_cons_succ, List.getElem?_cons_zero, Option.getD_some]; (try rfl))); (case hz50 => (simp only [Act.eval, Array.getD_eq_getD_getElem?, List.getElem?_toArray, List.getElem?_cons_succ, List.getElem?_cons_zero, Option.getD_some]; (try rfl))); (case hy50 => (go_simp; (try with_reducible rfl))))
  (first | refine TE.nil_set kp11 (fun w5 kp11 mS => ?_) | refine TE.nil_setCell kp11 (fun w5 kp11 mS => ?_))
  (try simp only [Array.setIfInBounds, List.setIfInBounds_toArray, List.set_cons_zero, List.set_cons_succ] at kp11)
  have kR := mS.at_ne kR (by omega)
  have kt := mS.at_ne kt (by omega)
  have kh := mS.at_ne kh (by omega)
  have kw := mS.at_ne kw (by omega)
  have kp8 := mS.at_ne kp8 (by omega)
  have kp10 := mS.at_ne kp10 (by omega)
  have mm := (mm.then0 mE).thenB mS (.inl (by omega))
  go_upto_region 5 with fail
  have LkR := lt_size kR
  have Lkt := lt_size kt
  have Lkh := lt_size kh
  have Lkw := lt_size kw
  have Lkp8 := lt_size kp8
  have Lkp11 := lt_size kp11
  have Lkp10 := lt_size kp10
  refine wp_pass0 (C := fun _ _ _ => False) (κ := fun i => [0, 0, 1, 0].getD i 0) [0, 1, 2, 3] (by kernel_rfl) (by kernel_rfl) (fun _ _ d _ _ h => by cases d <;> exact h) ?_
  (refine TD.val0 (v := ?v51) (by simp only [List.getElem?_toArray, List.getElem?_cons_succ, List.getElem?_cons_zero]; rfl) rfl ?hw51 (fun w1 => ?hy51) ?hn51; (case hw51 => rfl); (case hy51 => (go_simp; (try with_reducible rfl))); (try simp only [Act.put, List.setIfInBounds_toArray, List.set_cons_zero, List.set_cons_succ]))
  (refine TD.val0 (v := ?v52) (by simp only [List.getElem?_toArray, List.getElem?_cons_succ, List.getElem?_cons_zero]; rfl) rfl ?hw52 (fun w1 => ?hy52) ?hn52; (case hw52 => rfl); (case hy52 => (go_simp; (try with_reducible rfl))); (try simp only [Act.put, List.setIfInBounds_toArray, List.set_cons_zero, List.set_cons_succ]))
  (refine TD.load (v := ?v53) (p := ?p53) (Mod.refl _ _) (by simp only [List.getElem?_toArray, List.getElem?_cons_succ, List.getElem?_cons_zero]; rfl) rfl ?hw53 rfl ?hx53 (fun wq hSq => ?hy53) ?hn53; (case hw53 => rfl); (case hx53 => (simp only [Act.eval, Array.getD_eq_getD_getElem?, List.getElem?_toArray, List.getElem?_cons_succ, List.getElem?_cons_zero, Option.getD_some]; (try rfl))); (case hy53 => (have kRq := hSq.at kR (fun h => h); have ktq := hSq.at kt (fun h => h); have khq := hSq.at kh (fun h => h); have kwq := hSq.at kw (fun h => h); have kp8q := hSq.at kp8 (fun h => h); have kp11q := hSq.at kp11 (fun h => h); have kp10q := hSq.at kp10 (fun h => h); go_simp; (try with_reducible rfl))); (try simp only [Act.put, List.setIfInBounds_toArray, List.set_cons_zero, List.set_cons_succ]))
  (refine TD.val0 (v := ?v54) (by simp only [List.getElem?_toArray, List.getElem?_cons_succ, List.getElem?_cons_zero]; rfl) rfl ?hw54 (fun w1 => ?hy54) ?hn54; (case hw54 => rfl); (case hy54 => (go_simp; (try with_reducible rfl))); (try simp only [Act.put, List.setIfInBounds_toArray, List.set_cons_zero, List.set_cons_succ]))
  refine TD.nil (fun w6 hr => ?_)
  have kR := hr.mod.at kR (fun h => h)
  have kt := hr.mod.at kt (fun h => h)
  have kh := hr.mod.at kh (fun h => h)
  have kw := hr.mod.at kw (fun h => h)
  have kp8 := hr.mod.at kp8 (fun h => h)
  have kp11 := hr.mod.at kp11 (fun h => h)
  have kp10 := hr.mod.at kp10 (fun h => h)
  have mm := mm.then0 hr.mod
  go_upto_if 47 with fail
  go_cut [11] (fun s11 wx => s11 = .pointer (some ⟨p11, 0, none⟩) ∧ ∃ u : Nat, u = (if 0 < c0 + by_ then sbit (cbit b0 wk) wk else cbit b0 wk) ∧ wx.heap[t]? = some (.cells #[.int .i64 n, .map (some hb), .map (some wb)] 49 (0, 0)) ∧ wx.heap[hb]? = some (.map eh ch) ∧ wx.heap[wb]? = some (.map ew cw) ∧ wx.heap[R]? = some (.cells (rc k s false) 44) ∧ wx.heap[p8]? = some (.cells (sc k (wk.val : Int)) 75) ∧
    wx.heap[p10]? = some (.cells #[.int .i64 (c0+by_),.int .i64 c1] 72) ∧ wx.heap[p11]? = some (.cells #[.int .u64 (u:Int),.int .u64 (b1:Int)] 66) ∧ w.heap.size ≤ wx.heap.size ∧ Mod (fun i => i = hb ∨ i = wb) w wx)
  case first =>
    refine wp_cond_split rfl (fun h => ?_) (fun h => ?_)
    · go_upto_region 6 with fail
      have LkR := lt_size kR
      have Lkt := lt_size kt
      have Lkh := lt_size kh
      have Lkw := lt_size kw
      have Lkp8 := lt_size kp8
      have Lkp11 := lt_size kp11
      have Lkp10 := lt_size kp10
      refine wp_pass (C := fun _ _ _ => False) (κ := fun i => [0, 0, 1, 0, 0, 0, 0, 5].getD i 0) [0, 1, 2, 3, 4, 5, 6, 7] (by kernel_rfl) (by kernel_rfl) (fun _ _ d _ _ h => by cases d <;> exact h) ?_
      (refine TD.val0 (v := ?v55) (by simp only [List.getElem?_toArray, List.getElem?_cons_succ, List.getElem?_cons_zero]; rfl) rfl ?hw55 (fun w1 => ?hy55) ?hn55; (case hw55 => rfl); (case hy55 => (go_simp; (try with_reducible rfl))); (try simp only [Act.put, List.setIfInBounds_toArray, List.set_cons_zero, List.set_cons_succ]))
      (refine TD.val0 (v := ?v56) (by simp only [List.getElem?_toArray, List.getElem?_cons_succ, List.getElem?_cons_zero]; rfl) rfl ?hw56 (fun w1 => ?hy56) ?hn56; (case hw56 => rfl); (case hy56 => (go_simp; (try with_reducible rfl))); (try simp only [Act.put, List.setIfInBounds_toArray, List.set_cons_zero, List.set_cons_succ]))
      (refine TD.load (v := ?v57) (p := ?p57) (Mod.refl _ _) (by simp only [List.getElem?_toArray, List.getElem?_cons_succ, List.getElem?_cons_zero]; rfl) rfl ?hw57 rfl ?hx57 (fun wq hSq => ?hy57) ?hn57; (case hw57 => rfl); (case hx57 => (simp only [Act.eval, Array.getD_eq_getD_getElem?, List.getElem?_toArray, List.getElem?_cons_succ, List.getElem?_cons_zero, Option.getD_some]; (try rfl))); (case hy57 => (have kRq := hSq.at kR (fun h => h); have ktq := hSq.at kt (fun h => h); have khq := hSq.at kh (fun h => h); have kwq := hSq.at kw (fun h => h); have kp8q := hSq.at kp8 (fun h => h); have kp11q := hSq.at kp11 (fun h => h); have kp10q := hSq.at kp10 (fun h => h); go_simp; (try with_reducible rfl))); (try simp only [Act.put, List.setIfInBounds_toArray, List.set_cons_zero, List.set_cons_succ]))
      (refine TD.val0 (v := ?v58) (by simp only [List.getElem?_toArray, List.getElem?_cons_succ, List.getElem?_cons_zero]; rfl) rfl ?hw58 (fun w1 => ?hy58) ?hn58; (case hw58 => rfl); (case hy58 => (go_simp; (try with_reducible rfl))); (try simp only [Act.put, List.setIfInBounds_toArray, List.set_cons_zero, List.set_cons_succ]))
      (refine TD.val0 (v := ?v59) (by simp only [List.getElem?_toArray, List.getElem?_cons_succ, List.getElem?_cons_zero]; rfl) rfl ?hw59 (fun w1 => ?hy59) ?hn59; (case hw59 => rfl); (case hy59 => (go_simp; (try with_reducible rfl))); (try simp only [Act.put, List.setIfInBounds_toArray, List.set_cons_zero, List.set_cons_succ]))
      (refine TD.val0 (v := ?v60) (by simp only [List.getElem?_toArray, List.getElem?_cons_succ, List.getElem?_cons_zero]; rfl) rfl ?hw60 (fun w1 => ?hy60) ?hn60; (case hw60 => rfl); (case hy60 => (go_simp; (try with_reducible rfl))); (try simp only [Act.put, List.setIfInBounds_toArray, List.set_cons_zero, List.set_cons_succ]))
      (refine TD.val0 (v := ?v61) (by simp only [List.getElem?_toArray, List.getElem?_cons_succ, List.getElem?_cons_zero]; rfl) rfl ?hw61 (fun w1 => ?hy61) ?hn61; (case hw61 => rfl); (case hy61 => (go_simp; (try with_reducible rfl))); (try simp only [Act.put, List.setIfInBounds_toArray, List.set_cons_zero, List.set_cons_succ]))
      refine TD.eff (by simp only [List.getElem?_toArray, List.getElem?_cons_succ, List.getElem?_cons_zero]; rfl) rfl (fun wE hr => ?_)
      have kR := hr.mod.at0 kR
      have kt := hr.mod.at0 kt
      have kh := hr.mod.at0 kh
      have kw := hr.mod.at0 kw
      have kp8 := hr.mod.at0 kp8
      have kp11 := hr.mod.at0 kp11
      have kp10 := hr.mod.at0 kp10
      have mE := hr.mod
      (refine eff_store (X := ?X62) (Y := ?Y62) (w' := ?w62) (by simp only [List.getElem?_toArray, List.getElem?_cons_succ, List.getElem?_cons_zero]; rfl) ?hw62 rfl ?hx62 ?hz62 ?hy62 ?hn62; (case hw62 => rfl); (case hx62 => (simp only [Act.eval, Array.getD_eq_getD_getElem?, List.getElem?_toArray, List.getElem?_cons_succ, List.getElem?_cons_zero, Option.getD_some]; (try rfl))); (case hz62 => (simp only [Act.eval, Array.getD_eq_getD_getElem?, List.getElem?_toArray, List.getElem?_cons_succ, List.getElem?_cons_zero, Option.getD_some]; (try rfl))); (case hy62 => (go_simp; (try with_reducible rfl))))
      (first | refine TE.nil_set kp11 (fun w7 kp11 mS => ?_) | refine TE.nil_setCell kp11 (fun w7 kp11 mS => ?_))
      (try simp only [Array.setIfInBounds, List.setIfInBounds_toArray, List.set_cons_zero, List.set_cons_succ] at kp11)
      have kR := mS.at_ne kR (by omega)
      have kt := mS.at_ne kt (by omega)
      have kh := mS.at_ne kh (by omega)
      have kw := mS.at_ne kw (by omega)
      have kp8 := mS.at_ne kp8 (by omega)
      have kp10 := mS.at_ne kp10 (by omega)
      have mm := (mm.then0 mE).thenB mS (.inl (by omega))
      go_wp2_with fail
      go_meet
      exact ⟨rfl, _, by rw [if_pos (by simpa using h)], kt, kh, kw, kR, kp8, kp10, kp11, mm.size, mm⟩
    · go_wp2_with fail
      go_meet
      exact ⟨rfl, _, by rw [if_neg (by simpa using h)], kt, kh, kw, kR, kp8, kp10, kp11, mm.size, mm⟩
  case rest =>
  clear kt kh kw kR kp8 kp10 kp11 mm hsl hcl hsb hwr
  obtain ⟨rfl, u, hu, kt, kh, kw, kR, kp8, kp10, kp11, hsz, mm⟩ := hcut
  have HU := HU.out
  have hup : turnU mh mw k wk false by_ = (u,b1) := by
    rw [HU, hu]
    by_cases h : 0 < c0 + by_ <;> simp [h]
  clear HU hu
  have HU := Lib.hid hup
  clear hup
  go_upto_region 7 with fail
  have LkR := lt_size kR
  have Lkt := lt_size kt
  have Lkh := lt_size kh
  have Lkw := lt_size kw
  have Lkp8 := lt_size kp8
  have Lkp11 := lt_size kp11
  have Lkp10 := lt_size kp10
  refine wp_pass (C := fun _ _ _ => False) (κ := fun i => [0, 0, 0, 1, 1, 1, 5].getD i 0) [0, 1, 2, 3, 4, 5, 6] (by kernel_rfl) (by kernel_rfl) (fun _ _ d _ _ h => by cases d <;> exact h) ?_
  (refine TD.val0 (v := ?v63) (by simp only [List.getElem?_toArray, List.getElem?_cons_succ, List.getElem?_cons_zero]; rfl) rfl ?hw63 (fun w1 => ?hy63) ?hn63; (case hw63 => rfl); (case hy63 => (go_simp; (try with_reducible rfl))); (try simp only [Act.put, List.setIfInBounds_toArray, List.set_cons_zero, List.set_cons_succ]))
  (refine TD.val0 (v := ?v64) (by simp only [List.getElem?_toArray, List.getElem?_cons_succ, List.getElem?_cons_zero]; rfl) rfl ?hw64 (fun w1 => ?hy64) ?hn64; (case hw64 => rfl); (case hy64 => (go_simp; (try with_reducible rfl))); (try simp only [Act.put, List.setIfInBounds_toArray, List.set_cons_zero, List.set_cons_succ]))
  (refine TD.val0 (v := ?v65) (by simp only [List.getElem?_toArray, List.getElem?_cons_succ, List.getElem?_cons_zero]; rfl) rfl ?hw65 (fun w1 => ?hy65) ?hn65; (case hw65 => rfl); (case hy65 => (go_simp; (try with_reducible rfl))); (try simp only [Act.put, List.setIfInBounds_toArray, List.set_cons_zero, List.set_cons_succ]))
  (refine TD.load (v := ?v66) (p := ?p66) (Mod.refl _ _) (by simp only [List.getElem?_toArray, List.getElem?_cons_succ, List.getElem?_cons_zero]; rfl) rfl ?hw66 rfl ?hx66 (fun wq hSq => ?hy66) ?hn66; (case hw66 => rfl); (case hx66 => (simp only [Act.eval, Array.getD_eq_getD_getElem?, List.getElem?_toArray, List.getElem?_cons_succ, List.getElem?_cons_zero, Option.getD_some]; (try rfl))); (case hy66 => (have kRq := hSq.at kR (fun h => h); have ktq := hSq.at kt (fun h => h); have khq := hSq.at kh (fun h => h); have kwq := hSq.at kw (fun h => h); have kp8q := hSq.at kp8 (fun h => h); have kp11q := hSq.at kp11 (fun h => h); have kp10q := hSq.at kp10 (fun h => h); go_simp; (try with_reducible rfl))); (try simp only [Act.put, List.setIfInBounds_toArray, List.set_cons_zero, List.set_cons_succ]))
  (refine TD.load (v := ?v67) (p := ?p67) (Mod.refl _ _) (by simp only [List.getElem?_toArray, List.getElem?_cons_succ, List.getElem?_cons_zero]; rfl) rfl ?hw67 rfl ?hx67 (fun wq hSq => ?hy67) ?hn67; (case hw67 => rfl); (case hx67 => (simp only [Act.eval, Array.getD_eq_getD_getElem?, List.getElem?_toArray, List.getElem?_cons_succ, List.getElem?_cons_zero, Option.getD_some]; (try rfl))); (case hy67 => (have kRq := hSq.at kR (fun h => h); have ktq := hSq.at kt (fun h => h); have khq := hSq.at kh (fun h => h); have kwq := hSq.at kw (fun h => h); have kp8q := hSq.at kp8 (fun h => h); have kp11q := hSq.at kp11 (fun h => h); have kp10q := hSq.at kp10 (fun h => h); go_simp; (try with_reducible rfl))); (try simp only [Act.put, List.setIfInBounds_toArray, List.set_cons_zero, List.set_cons_succ]))
  (refine TD.load (v := ?v68) (p := ?p68) (Mod.refl _ _) (by simp only [List.getElem?_toArray, List.getElem?_cons_succ, List.getElem?_cons_zero]; rfl) rfl ?hw68 rfl ?hx68 (fun wq hSq => ?hy68) ?hn68; (case hw68 => rfl); (case hx68 => (simp only [Act.eval, Array.getD_eq_getD_getElem?, List.getElem?_toArray, List.getElem?_cons_succ, List.getElem?_cons_zero, Option.getD_some]; (try rfl))); (case hy68 => (have kRq := hSq.at kR (fun h => h); have ktq := hSq.at kt (fun h => h); have khq := hSq.at kh (fun h => h); have kwq := hSq.at kw (fun h => h); have kp8q := hSq.at kp8 (fun h => h); have kp11q := hSq.at kp11 (fun h => h); have kp10q := hSq.at kp10 (fun h => h); go_simp; (try with_reducible rfl))); (try simp only [Act.put, List.setIfInBounds_toArray, List.set_cons_zero, List.set_cons_succ]))
  refine TD.eff (by simp only [List.getElem?_toArray, List.getElem?_cons_succ, List.getElem?_cons_zero]; rfl) rfl (fun wE hr => ?_)
  have kR := hr.mod.at0 kR
  have kt := hr.mod.at0 kt
  have kh := hr.mod.at0 kh
  have kw := hr.mod.at0 kw
  have kp8 := hr.mod.at0 kp8
  have kp11 := hr.mod.at0 kp11
  have kp10 := hr.mod.at0 kp10
  have mE := hr.mod
  obtain ⟨es69, cl69, hrun69, Mkh⟩ := Mh.update spotT Try.underlying46 wE kh (k, wk) (c0+by_,c1)
  (refine eff_update (X := ?X69) (Y := ?Y69) (Z := ?Z69) (w' := ?w69) (by simp only [List.getElem?_toArray, List.getElem?_cons_succ, List.getElem?_cons_zero]; rfl) ?hw69 rfl ?hx69 ?hz69 ?hv69 ?hy69 ?hn69; (case hw69 => rfl); (case hx69 => (simp only [Act.eval, Array.getD_eq_getD_getElem?, List.getElem?_toArray, List.getElem?_cons_succ, List.getElem?_cons_zero, Option.getD_some]; (try rfl))); (case hz69 => (simp only [Act.eval, Array.getD_eq_getD_getElem?, List.getElem?_toArray, List.getElem?_cons_succ, List.getElem?_cons_zero, Option.getD_some]; (try rfl))); (case hv69 => (simp only [Act.eval, Array.getD_eq_getD_getElem?, List.getElem?_toArray, List.getElem?_cons_succ, List.getElem?_cons_zero, Option.getD_some]; (try rfl))); (case hy69 => exact hrun69))
  (first | refine TE.nil_set kh (fun w8 kh mS => ?_) | refine TE.nil_setCell kh (fun w8 kh mS => ?_))
  (try simp only [Array.setIfInBounds, List.setIfInBounds_toArray, List.set_cons_zero, List.set_cons_succ] at kh)
  have kR := mS.at_ne kR (by omega)
  have kt := mS.at_ne kt (by omega)
  have kw := mS.at_ne kw (by omega)
  have kp8 := mS.at_ne kp8 (by omega)
  have kp11 := mS.at_ne kp11 (by omega)
  have kp10 := mS.at_ne kp10 (by omega)
  have mm := (mm.then0 mE).thenB mS (.inr (.inl rfl))
  go_upto_region 8 with fail
  have LkR := lt_size kR
  have Lkt := lt_size kt
  have Lkh := lt_size kh
  have Lkw := lt_size kw
  have Lkp8 := lt_size kp8
  have Lkp11 := lt_size kp11
  have Lkp10 := lt_size kp10
  refine wp_pass0 (C := fun _ _ _ => False) (κ := fun i => [1, 0, 0].getD i 0) [0, 1, 2] (by kernel_rfl) (by kernel_rfl) (fun _ _ d _ _ h => by cases d <;> exact h) ?_
  (refine TD.load (v := ?v70) (p := ?p70) (Mod.refl _ _) (by simp only [List.getElem?_toArray, List.getElem?_cons_succ, List.getElem?_cons_zero]; rfl) rfl ?hw70 rfl ?hx70 (fun wq hSq => ?hy70) ?hn70; (case hw70 => rfl); (case hx70 => (simp only [Act.eval, Array.getD_eq_getD_getElem?, List.getElem?_toArray, List.getElem?_cons_succ, List.getElem?_cons_zero, Option.getD_some]; (try rfl))); (case hy70 => (have kRq := hSq.at kR (fun h => h); have ktq := hSq.at kt (fun h => h); have khq := hSq.at kh (fun h => h); have kwq := hSq.at kw (fun h => h); have kp8q := hSq.at kp8 (fun h => h); have kp11q := hSq.at kp11 (fun h => h); have kp10q := hSq.at kp10 (fun h => h); go_simp; (try with_reducible rfl))); (try simp only [Act.put, List.setIfInBounds_toArray, List.set_cons_zero, List.set_cons_succ]))
  (refine TD.val0 (v := ?v71) (by simp only [List.getElem?_toArray, List.getElem?_cons_succ, List.getElem?_cons_zero]; rfl) rfl ?hw71 (fun w1 => ?hy71) ?hn71; (case hw71 => rfl); (case hy71 => (go_simp; (try with_reducible rfl))); (try simp only [Act.put, List.setIfInBounds_toArray, List.set_cons_zero, List.set_cons_succ]))
  (refine TD.val0 (v := ?v72) (by simp only [List.getElem?_toArray, List.getElem?_cons_succ, List.getElem?_cons_zero]; rfl) rfl ?hw72 (fun w1 => ?hy72) ?hn72; (case hw72 => rfl); (case hy72 => (go_simp; (try with_reducible rfl))); (try simp only [Act.put, List.setIfInBounds_toArray, List.set_cons_zero, List.set_cons_succ]))
  refine TD.nil (fun w9 hr => ?_)
  have kR := hr.mod.at kR (fun h => h)
  have kt := hr.mod.at kt (fun h => h)
  have kh := hr.mod.at kh (fun h => h)
  have kw := hr.mod.at kw (fun h => h)
  have kp8 := hr.mod.at kp8 (fun h => h)
  have kp11 := hr.mod.at kp11 (fun h => h)
  have kp10 := hr.mod.at kp10 (fun h => h)
  have mm := mm.then0 hr.mod
  go_upto_if 63 with fail
  go_cut [11] (fun s11 wx => s11 = .pointer (some ⟨p11, 0, none⟩) ∧ ∃ eh ch, MapIs pv cv eh ch (turnH mh k wk false by_) ∧ wx.heap[t]? = some (.cells #[.int .i64 n, .map (some hb), .map (some wb)] 49 (0, 0)) ∧ wx.heap[hb]? = some (.map eh ch) ∧ wx.heap[wb]? = some (.map ew cw) ∧ wx.heap[R]? = some (.cells (rc k s false) 44) ∧
    wx.heap[p11]? = some (.cells #[.int .u64 (u:Int),.int .u64 (b1:Int)] 66) ∧ Mod (fun i => i = hb ∨ i = wb) w wx)
  case first =>
    refine wp_cond_split rfl (fun h => ?_) (fun h => ?_)
    · go_upto_region 9 with fail
      have LkR := lt_size kR
      have Lkt := lt_size kt
      have Lkw := lt_size kw
      have Lkp8 := lt_size kp8
      have Lkp11 := lt_size kp11
      have Lkp10 := lt_size kp10
      have Lkh := lt_size kh
      refine wp_pass (C := fun _ _ _ => False) (κ := fun i => [0, 0, 0, 1, 1, 5].getD i 0) [0, 1, 2, 3, 4, 5] (by kernel_rfl) (by kernel_rfl) (fun _ _ d _ _ h => by cases d <;> exact h) ?_
      (refine TD.val0 (v := ?v73) (by simp only [List.getElem?_toArray, List.getElem?_cons_succ, List.getElem?_cons_zero]; rfl) rfl ?hw73 (fun w1 => ?hy73) ?hn73; (case hw73 => rfl); (case hy73 => (go_simp; (try with_reducible rfl))); (try simp only [Act.put, List.setIfInBounds_toArray, List.set_cons_zero, List.set_cons_succ]))
      (refine TD.val0 (v := ?v74) (by simp only [List.getElem?_toArray, List.getElem?_cons_succ, List.getElem?_cons_zero]; rfl) rfl ?hw74 (fun w1 => ?hy74) ?hn74; (case hw74 => rfl); (case hy74 => (go_simp; (try with_reducible rfl))); (try simp only [Act.put, List.setIfInBounds_toArray, List.set_cons_zero, List.set_cons_succ]))
      (refine TD.val0 (v := ?v75) (by simp only [List.getElem?_toArray, List.getElem?_cons_succ, List.getElem?_cons_zero]; rfl) rfl ?hw75 (fun w1 => ?hy75) ?hn75; (case hw75 => rfl); (case hy75 => (go_simp; (try with_reducible rfl))); (try simp only [Act.put, List.setIfInBounds_toArray, List.set_cons_zero, List.set_cons_succ]))
      (refine TD.load (v := ?v76) (p := ?p76) (Mod.refl _ _) (by simp only [List.getElem?_toArray, List.getElem?_cons_succ, List.getElem?_cons_zero]; rfl) rfl ?hw76 rfl ?hx76 (fun wq hSq => ?hy76) ?hn76; (case hw76 => rfl); (case hx76 => (simp only [Act.eval, Array.getD_eq_getD_getElem?, List.getElem?_toArray, List.getElem?_cons_succ, List.getElem?_cons_zero, Option.getD_some]; (try rfl))); (case hy76 => (have kRq := hSq.at kR (fun h => h); have ktq := hSq.at kt (fun h => h); have kwq := hSq.at kw (fun h => h); have kp8q := hSq.at kp8 (fun h => h); have kp11q := hSq.at kp11 (fun h => h); have kp10q := hSq.at kp10 (fun h => h); have khq := hSq.at kh (fun h => h); go_simp; (try with_reducible rfl))); (try simp only [Act.put, List.setIfInBounds_toArray, List.set_cons_zero, List.set_cons_succ]))
      (refine TD.load (v := ?v77) (p := ?p77) (Mod.refl _ _) (by simp only [List.getElem?_toArray, List.getElem?_cons_succ, List.getElem?_cons_zero]; rfl) rfl ?hw77 rfl ?hx77 (fun wq hSq => ?hy77) ?hn77; (case hw77 => rfl); (case hx77 => (simp only [Act.eval, Array.getD_eq_getD_getElem?, List.getElem?_toArray, List.getElem?_cons_succ, List.getElem?_cons_zero, Option.getD_some]; (try rfl))); (case hy77 => (have kRq := hSq.at kR (fun h => h); have ktq := hSq.at kt (fun h => h); have kwq := hSq.at kw (fun h => h); have kp8q := hSq.at kp8 (fun h => h); have kp11q := hSq.at kp11 (fun h => h); have kp10q := hSq.at kp10 (fun h => h); have khq := hSq.at kh (fun h => h); go_simp; (try with_reducible rfl))); (try simp only [Act.put, List.setIfInBounds_toArray, List.set_cons_zero, List.set_cons_succ]))
      refine TD.eff (by simp only [List.getElem?_toArray, List.getElem?_cons_succ, List.getElem?_cons_zero]; rfl) rfl (fun wE hr => ?_)
      have kR := hr.mod.at0 kR
      have kt := hr.mod.at0 kt
      have kw := hr.mod.at0 kw
      have kp8 := hr.mod.at0 kp8
      have kp11 := hr.mod.at0 kp11
      have kp10 := hr.mod.at0 kp10
      have kh := hr.mod.at0 kh
      have mE := hr.mod
      obtain ⟨es78, hrun78, Mkh⟩ := Mkh.delete (ty := _) spotT Try.underlying46 wE kh (k, wk)
      (refine eff_delete (X := ?X78) (Y := ?Y78) (v := ?v78) (w' := ?w78) (by simp only [List.getElem?_toArray, List.getElem?_cons_succ, List.getElem?_cons_zero]; rfl) ?hw78 rfl ?hx78 ?hz78 ?hy78 ?hn78; (case hw78 => rfl); (case hx78 => (simp only [Act.eval, Array.getD_eq_getD_getElem?, List.getElem?_toArray, List.getElem?_cons_succ, List.getElem?_cons_zero, Option.getD_some]; (try rfl))); (case hz78 => (simp only [Act.eval, Array.getD_eq_getD_getElem?, List.getElem?_toArray, List.getElem?_cons_succ, List.getElem?_cons_zero, Option.getD_some]; (try rfl))); (case hy78 => exact hrun78))
      (first | refine TE.nil_set kh (fun w10 kh mS => ?_) | refine TE.nil_setCell kh (fun w10 kh mS => ?_))
      (try simp only [Array.setIfInBounds, List.setIfInBounds_toArray, List.set_cons_zero, List.set_cons_succ] at kh)
      have kR := mS.at_ne kR (by omega)
      have kt := mS.at_ne kt (by omega)
      have kw := mS.at_ne kw (by omega)
      have kp8 := mS.at_ne kp8 (by omega)
      have kp11 := mS.at_ne kp11 (by omega)
      have kp10 := mS.at_ne kp10 (by omega)
      have mm := (mm.then0 mE).thenB mS (.inr (.inl rfl))
      go_wp2_with fail
      go_meet
      refine ⟨rfl, _, _, ?_, kt, kh, kw, kR, kp11, mm⟩
      rw [beq_pair_i] at h
      unfold turnH putz
      rw [HC.out, h]
      exact Mkh
    · go_wp2_with fail
      go_meet
      refine ⟨rfl, _, _, ?_, kt, kh, kw, kR, kp11, mm⟩
      rw [beq_pair_i] at h
      unfold turnH putz
      rw [HC.out, h]
      exact Mkh
  case rest =>
  clear kt kh kw kR kp8 kp10 kp11 mm Mkh
  obtain ⟨rfl, eh2, ch2, Mkh, kt, kh, kw, kR, kp11, mm⟩ := hcut
  go_upto_region 10 with fail
  have LkR := lt_size kR
  have Lkt := lt_size kt
  have Lkh := lt_size kh
  have Lkw := lt_size kw
  have Lkp11 := lt_size kp11
  refine wp_pass (C := fun _ _ _ => False) (κ := fun i => [0, 0, 0, 1, 0, 1, 1, 5].getD i 0) [0, 1, 2, 3, 4, 5, 6, 7] (by kernel_rfl) (by kernel_rfl) (fun _ _ d _ _ h => by cases d <;> exact h) ?_
  (refine TD.val0 (v := ?v79) (by simp only [List.getElem?_toArray, List.getElem?_cons_succ, List.getElem?_cons_zero]; rfl) rfl ?hw79 (fun w1 => ?hy79) ?hn79; (case hw79 => rfl); (case hy79 => (go_simp; (try with_reducible rfl))); (try simp only [Act.put, List.setIfInBounds_toArray, List.set_cons_zero, List.set_cons_succ]))
  (refine TD.val0 (v := ?v80) (by simp only [List.getElem?_toArray, List.getElem?_cons_succ, List.getElem?_cons_zero]; rfl) rfl ?hw80 (fun w1 => ?hy80) ?hn80; (case hw80 => rfl); (case hy80 => (go_simp; (try with_reducible rfl))); (try simp only [Act.put, List.setIfInBounds_toArray, List.set_cons_zero, List.set_cons_succ]))
  (refine TD.val0 (v := ?v81) (by simp only [List.getElem?_toArray, List.getElem?_cons_succ, List.getElem?_cons_zero]; rfl) rfl ?hw81 (fun w1 => ?hy81) ?hn81; (case hw81 => rfl); (case hy81 => (go_simp; (try with_reducible rfl))); (try simp only [Act.put, List.setIfInBounds_toArray, List.set_cons_zero, List.set_cons_succ]))
  (refine TD.load (v := ?v82) (p := ?p82) (Mod.refl _ _) (by simp only [List.getElem?_toArray, List.getElem?_cons_succ, List.getElem?_cons_zero]; rfl) rfl ?hw82 rfl ?hx82 (fun wq hSq => ?hy82) ?hn82; (case hw82 => rfl); (case hx82 => (simp only [Act.eval, Array.getD_eq_getD_getElem?, List.getElem?_toArray, List.getElem?_cons_succ, List.getElem?_cons_zero, Option.getD_some]; (try rfl))); (case hy82 => (have kRq := hSq.at kR (fun h => h); have ktq := hSq.at kt (fun h => h); have khq := hSq.at kh (fun h => h); have kwq := hSq.at kw (fun h => h); have kp11q := hSq.at kp11 (fun h => h); go_simp; (try with_reducible rfl))); (try simp only [Act.put, List.setIfInBounds_toArray, List.set_cons_zero, List.set_cons_succ]))
  (refine TD.val0 (v := ?v83) (by simp only [List.getElem?_toArray, List.getElem?_cons_succ, List.getElem?_cons_zero]; rfl) rfl ?hw83 (fun w1 => ?hy83) ?hn83; (case hw83 => rfl); (case hy83 => (go_simp; (try with_reducible rfl))); (try simp only [Act.put, List.setIfInBounds_toArray, List.set_cons_zero, List.set_cons_succ]))
  (refine TD.load (v := ?v84) (p := ?p84) (Mod.refl _ _) (by simp only [List.getElem?_toArray, List.getElem?_cons_succ, List.getElem?_cons_zero]; rfl) rfl ?hw84 rfl ?hx84 (fun wq hSq => ?hy84) ?hn84; (case hw84 => rfl); (case hx84 => (simp only [Act.eval, Array.getD_eq_getD_getElem?, List.getElem?_toArray, List.getElem?_cons_succ, List.getElem?_cons_zero, Option.getD_some]; (try rfl))); (case hy84 => (have kRq := hSq.at kR (fun h => h); have ktq := hSq.at kt (fun h => h); have khq := hSq.at kh (fun h => h); have kwq := hSq.at kw (fun h => h); have kp11q := hSq.at kp11 (fun h => h); go_simp; (try with_reducible rfl))); (try simp only [Act.put, List.setIfInBounds_toArray, List.set_cons_zero, List.set_cons_succ]))
  (refine TD.load (v := ?v85) (p := ?p85) (Mod.refl _ _) (by simp only [List.getElem?_toArray, List.getElem?_cons_succ, List.getElem?_cons_zero]; rfl) rfl ?hw85 rfl ?hx85 (fun wq hSq => ?hy85) ?hn85; (case hw85 => rfl); (case hx85 => (simp only [Act.eval, Array.getD_eq_getD_getElem?, List.getElem?_toArray, List.getElem?_cons_succ, List.getElem?_cons_zero, Option.getD_some]; (try rfl))); (case hy85 => (have kRq := hSq.at kR (fun h => h); have ktq := hSq.at kt (fun h => h); have khq := hSq.at kh (fun h => h); have kwq := hSq.at kw (fun h => h); have kp11q := hSq.at kp11 (fun h => h); go_simp; (try with_reducible rfl))); (try simp only [Act.put, List.setIfInBounds_toArray, List.set_cons_zero, List.set_cons_succ]))
  refine TD.eff (by simp only [List.getElem?_toArray, List.getElem?_cons_succ, List.getElem?_cons_zero]; rfl) rfl (fun wE hr => ?_)
  have kR := hr.mod.at0 kR
  have kt := hr.mod.at0 kt
  have kh := hr.mod.at0 kh
  have kw := hr.mod.at0 kw
  have kp11 := hr.mod.at0 kp11
  have mE := hr.mod
  obtain ⟨es86, cl86, hrun86, Mkw⟩ := Mw.update keyT Try.underlying47 wE kw k (u,b1)
  (refine eff_update (X := ?X86) (Y := ?Y86) (Z := ?Z86) (w' := ?w86) (by simp only [List.getElem?_toArray, List.getElem?_cons_succ, List.getElem?_cons_zero]; rfl) ?hw86 rfl ?hx86 ?hz86 ?hv86 ?hy86 ?hn86; (case hw86 => rfl); (case hx86 => (simp only [Act.eval, Array.getD_eq_getD_getElem?, List.getElem?_toArray, List.getElem?_cons_succ, List.getElem?_cons_zero, Option.getD_some]; (try rfl))); (case hz86 => (simp only [Act.eval, Array.getD_eq_getD_getElem?, List.getElem?_toArray, List.getElem?_cons_succ, List.getElem?_cons_zero, Option.getD_some]; (try rfl))); (case hv86 => (simp only [Act.eval, Array.getD_eq_getD_getElem?, List.getElem?_toArray, List.getElem?_cons_succ, List.getElem?_cons_zero, Option.getD_some]; (try rfl))); (case hy86 => exact hrun86))
  (first | refine TE.nil_set kw (fun w11 kw mS => ?_) | refine TE.nil_setCell kw (fun w11 kw mS => ?_))
  (try simp only [Array.setIfInBounds, List.setIfInBounds_toArray, List.set_cons_zero, List.set_cons_succ] at kw)
  have kR := mS.at_ne kR (by omega)
  have kt := mS.at_ne kt (by omega)
  have kh := mS.at_ne kh (by omega)
  have kp11 := mS.at_ne kp11 (by omega)
  have mm := (mm.then0 mE).thenB mS (.inr (.inr rfl))
  go_upto_region 11 with fail
  have LkR := lt_size kR
  have Lkt := lt_size kt
  have Lkh := lt_size kh
  have Lkw := lt_size kw
  have Lkp11 := lt_size kp11
  refine wp_pass0 (C := fun _ _ _ => False) (κ := fun i => [1, 0, 0].getD i 0) [0, 1, 2] (by kernel_rfl) (by kernel_rfl) (fun _ _ d _ _ h => by cases d <;> exact h) ?_
  (refine TD.load (v := ?v87) (p := ?p87) (Mod.refl _ _) (by simp only [List.getElem?_toArray, List.getElem?_cons_succ, List.getElem?_cons_zero]; rfl) rfl ?hw87 rfl ?hx87 (fun wq hSq => ?hy87) ?hn87; (case hw87 => rfl); (case hx87 => (simp only [Act.eval, Array.getD_eq_getD_getElem?, List.getElem?_toArray, List.getElem?_cons_succ, List.getElem?_cons_zero, Option.getD_some]; (try rfl))); (case hy87 => (have kRq := hSq.at kR (fun h => h); have ktq := hSq.at kt (fun h => h); have khq := hSq.at kh (fun h => h); have kwq := hSq.at kw (fun h => h); have kp11q := hSq.at kp11 (fun h => h); go_simp; (try with_reducible rfl))); (try simp only [Act.put, List.setIfInBounds_toArray, List.set_cons_zero, List.set_cons_succ]))
  (refine TD.val0 (v := ?v88) (by simp only [List.getElem?_toArray, List.getElem?_cons_succ, List.getElem?_cons_zero]; rfl) rfl ?hw88 (fun w1 => ?hy88) ?hn88; (case hw88 => rfl); (case hy88 => (go_simp; (try with_reducible rfl))); (try simp only [Act.put, List.setIfInBounds_toArray, List.set_cons_zero, List.set_cons_succ]))
  (refine TD.val0 (v := ?v89) (by simp only [List.getElem?_toArray, List.getElem?_cons_succ, List.getElem?_cons_zero]; rfl) rfl ?hw89 (fun w1 => ?hy89) ?hn89; (case hw89 => rfl); (case hy89 => (go_simp; (try with_reducible rfl))); (try simp only [Act.put, List.setIfInBounds_toArray, List.set_cons_zero, List.set_cons_succ]))
  refine TD.nil (fun w12 hr => ?_)
  have kR := hr.mod.at kR (fun h => h)
  have kt := hr.mod.at kt (fun h => h)
  have kh := hr.mod.at kh (fun h => h)
  have kw := hr.mod.at kw (fun h => h)
  have kp11 := hr.mod.at kp11 (fun h => h)
  have mm := mm.then0 hr.mod
  go_upto_if 78 with fail
  refine wp_cond_split rfl (fun h => ?_) (fun h => ?_)
  · go_upto_region 12 with fail
    have LkR := lt_size kR
    have Lkt := lt_size kt
    have Lkh := lt_size kh
    have Lkp11 := lt_size kp11
    have Lkw := lt_size kw
    refine wp_pass (C := fun _ _ _ => False) (κ := fun i => [0, 0, 0, 1, 0, 1, 5].getD i 0) [0, 1, 2, 3, 4, 5, 6] (by kernel_rfl) (by kernel_rfl) (fun _ _ d _ _ h => by cases d <;> exact h) ?_
    (refine TD.val0 (v := ?v90) (by simp only [List.getElem?_toArray, List.getElem?_cons_succ, List.getElem?_cons_zero]; rfl) rfl ?hw90 (fun w1 => ?hy90) ?hn90; (case hw90 => rfl); (case hy90 => (go_simp; (try with_reducible rfl))); (try simp only [Act.put, List.setIfInBounds_toArray, List.set_cons_zero, List.set_cons_succ]))
    (refine TD.val0 (v := ?v91) (by simp only [List.getElem?_toArray, List.getElem?_cons_succ, List.getElem?_cons_zero]; rfl) rfl ?hw91 (fun w1 => ?hy91) ?hn91; (case hw91 => rfl); (case hy91 => (go_simp; (try with_reducible rfl))); (try simp only [Act.put, List.setIfInBounds_toArray, List.set_cons_zero, List.set_cons_succ]))
    (refine TD.val0 (v := ?v92) (by simp only [List.getElem?_toArray, List.getElem?_cons_succ, List.getElem?_cons_zero]; rfl) rfl ?hw92 (fun w1 => ?hy92) ?hn92; (case hw92 => rfl); (case hy92 => (go_simp; (try with_reducible rfl))); (try simp only [Act.put, List.setIfInBounds_toArray, List.set_cons_zero, List.set_cons_succ]))
    (refine TD.load (v := ?v93) (p := ?p93) (Mod.refl _ _) (by simp only [List.getElem?_toArray, List.getElem?_cons_succ, List.getElem?_cons_zero]; rfl) rfl ?hw93 rfl ?hx93 (fun wq hSq => ?hy93) ?hn93; (case hw93 => rfl); (case hx93 => (simp only [Act.eval, Array.getD_eq_getD_getElem?, List.getElem?_toArray, List.getElem?_cons_succ, List.getElem?_cons_zero, Option.getD_some]; (try rfl))); (case hy93 => (have kRq := hSq.at kR (fun h => h); have ktq := hSq.at kt (fun h => h); have khq := hSq.at kh (fun h => h); have kp11q := hSq.at kp11 (fun h => h); have kwq := hSq.at kw (fun h => h); go_simp; (try with_reducible rfl))); (try simp only [Act.put, List.setIfInBounds_toArray, List.set_cons_zero, List.set_cons_succ]))
    (refine TD.val0 (v := ?v94) (by simp only [List.getElem?_toArray, List.getElem?_cons_succ, List.getElem?_cons_zero]; rfl) rfl ?hw94 (fun w1 => ?hy94) ?hn94; (case hw94 => rfl); (case hy94 => (go_simp; (try with_reducible rfl))); (try simp only [Act.put, List.setIfInBounds_toArray, List.set_cons_zero, List.set_cons_succ]))
    (refine TD.load (v := ?v95) (p := ?p95) (Mod.refl _ _) (by simp only [List.getElem?_toArray, List.getElem?_cons_succ, List.getElem?_cons_zero]; rfl) rfl ?hw95 rfl ?hx95 (fun wq hSq => ?hy95) ?hn95; (case hw95 => rfl); (case hx95 => (simp only [Act.eval, Array.getD_eq_getD_getElem?, List.getElem?_toArray, List.getElem?_cons_succ, List.getElem?_cons_zero, Option.getD_some]; (try rfl))); (case hy95 => (have kRq := hSq.at kR (fun h => h); have ktq := hSq.at kt (fun h => h); have khq := hSq.at kh (fun h => h); have kp11q := hSq.at kp11 (fun h => h); have kwq := hSq.at kw (fun h => h); go_simp; (try with_reducible rfl))); (try simp only [Act.put, List.setIfInBounds_toArray, List.set_cons_zero, List.set_cons_succ]))
    refine TD.eff (by simp only [List.getElem?_toArray, List.getElem?_cons_succ, List.getElem?_cons_zero]; rfl) rfl (fun wE hr => ?_)
    have kR := hr.mod.at0 kR
    have kt := hr.mod.at0 kt
    have kh := hr.mod.at0 kh
    have kp11 := hr.mod.at0 kp11
    have kw := hr.mod.at0 kw
    have mE := hr.mod
    obtain ⟨es96, hrun96, Mkw⟩ := Mkw.delete (ty := _) keyT Try.underlying47 wE kw k
    (refine eff_delete (X := ?X96) (Y := ?Y96) (v := ?v96) (w' := ?w96) (by simp only [List.getElem?_toArray, List.getElem?_cons_succ, List.getElem?_cons_zero]; rfl) ?hw96 rfl ?hx96 ?hz96 ?hy96 ?hn96; (case hw96 => rfl); (case hx96 => (simp only [Act.eval, Array.getD_eq_getD_getElem?, List.getElem?_toArray, List.getElem?_cons_succ, List.getElem?_cons_zero, Option.getD_some]; (try rfl))); (case hz96 => (simp only [Act.eval, Array.getD_eq_getD_getElem?, List.getElem?_toArray, List.getElem?_cons_succ, List.getElem?_cons_zero, Option.getD_some]; (try rfl))); (case hy96 => exact hrun96))
    (first | refine TE.nil_set kw (fun w13 kw mS => ?_) | refine TE.nil_setCell kw (fun w13 kw mS => ?_))
    (try simp only [Array.setIfInBounds, List.setIfInBounds_toArray, List.set_cons_zero, List.set_cons_succ] at kw)
    have kR := mS.at_ne kR (by omega)
    have kt := mS.at_ne kt (by omega)
    have kh := mS.at_ne kh (by omega)
    have kp11 := mS.at_ne kp11 (by omega)
    have mm := (mm.then0 mE).thenB mS (.inr (.inr rfl))
    go_wp2_with fail
    go_end0
    refine ⟨rfl, _, _, _, _, kh, Mkh, kw, ?_, mm⟩
    rw [beq_pair_n] at h
    unfold turnW putz
    rw [HU.out, h]
    exact Mkw
  · go_wp2_with fail
    go_end0
    refine ⟨rfl, _, _, _, _, kh, Mkh, kw, ?_, mm⟩
    rw [beq_pair_n] at h
    unfold turnW putz
    rw [HU.out, h]
    exact Mkw
set_option maxHeartbeats 1600000 in
theorem turn_t (t hb wb : Nat) (n : Int) (k : Key) (s : Bool) (wk : Fin 64) (by_ : Int) (w : World) (eh ew : Array MapEntry) (ch cw : Nat) (mh : List (Spot × (Int × Int))) (mw : List (Key × (Nat × Nat)))
    (kt : w.heap[t]? = some (.cells #[.int .i64 n, .map (some hb), .map (some wb)] 49 (0, 0)))
    (kh : w.heap[hb]? = some (.map eh ch)) (Mh : MapIs pv cv eh ch mh) (kw : w.heap[wb]? = some (.map ew cw)) (Mw : MapIs kv uv ew cw mw) (hne : hb ≠ wb)
    (hlo : ∀ s c, lkp s mh = some c → 0 ≤ c.1 ∧ c.1 ≤ 1000000 ∧ 0 ≤ c.2 ∧ c.2 ≤ 1000000) (hby1 : -1 ≤ by_) (hby2 : by_ ≤ 1) :
    Calls Try.prog 29 #[.pointer (some ⟨t, 0, none⟩), .agg (rc k s true), .int .i64 (wk.val : Int), .int .i64 by_] w fun e w' => e = .returned (.tuple #[]) ∧ TurnPost w hb wb (turnH mh k wk true by_) (turnW mh mw k wk true by_) w' := by
  have hth := ne_of_obj kt kh (by simp)
  have htw := ne_of_obj kt kw (by simp)
  obtain ⟨c0, c1, hc⟩ : ∃ c0 c1, (lkp (k, wk) mh).getD (0, 0) = (c0, c1) := ⟨_, _, rfl⟩
  obtain ⟨b0, b1, hbt⟩ : ∃ b0 b1, (lkp k mw).getD (0, 0) = (b0, b1) := ⟨_, _, rfl⟩
  have hcb : 0 ≤ c0 ∧ c0 ≤ 1000000 ∧ 0 ≤ c1 ∧ c1 ≤ 1000000 := by
    cases hl : lkp (k, wk) mh with
    | none => rw [hl] at hc; cases hc; omega
    | some c =>
      rw [hl] at hc
      have := hlo _ _ hl
      cases hc
      exact this
  have hC : turnC mh k wk true by_ = (c0,c1+by_) := by unfold turnC; rw [hc]; rfl
  have hU : turnU mh mw k wk true by_ = (if 0 < c1 + by_ then (b0,sbit (cbit b1 wk) wk) else (b0,cbit b1 wk)) := by
    unfold turnU
    rw [hbt, hC]
    by_cases h : 0 < c1 + by_ <;> simp [stepU, wayC, onBit, h]
  obtain ⟨hc0, hc0', hc1, hc1'⟩ := hcb
  have mm : Mod (fun i => i = hb ∨ i = wb) w w := Mod.refl _ _
  have hwr : IntKind.i64.wrap (c1 + by_) = c1 + by_ := IntWalk.i64_in _ (by omega)
  have hsl := wrap_pw wk
  have hcl := cbit_eq b1 wk
  have hsb := sbit_eq (cbit b1 wk) wk
  have HC := Lib.hid hC
  have HU := Lib.hid hU
  have HL := Lib.hid hlo
  clear hC hU hlo
  go_enter Try.func29, Try.ntmps29
  go_upto_region 0 with fail
  have Lkt := lt_size kt
  have Lkh := lt_size kh
  have Lkw := lt_size kw
  refine wp_pass0 (C := fun _ _ _ => False) (κ := fun i => [3].getD i 0) [0] (by kernel_rfl) (by kernel_rfl) (fun _ _ d _ _ h => by cases d <;> exact h) ?_
  (refine TD.box (v := ?v97) (by simp only [List.getElem?_toArray, List.getElem?_cons_succ, List.getElem?_cons_zero]; rfl) rfl ?hw97 rfl rfl ?hx97 (fun R hR => ?hn97); (case hw97 => rfl); (case hx97 => (simp only [Act.eval, Array.getD_eq_getD_getElem?, List.getElem?_toArray, List.getElem?_cons_succ, List.getElem?_cons_zero, Option.getD_some]; (try rfl))); (try simp only [Act.put, List.setIfInBounds_toArray, List.set_cons_zero, List.set_cons_succ]))
  refine TD.nil (fun w1 hr => ?_)
  have kt := hr.mod.at kt (fun h => h)
  have kh := hr.mod.at kh (fun h => h)
  have kw := hr.mod.at kw (fun h => h)
  have kR := hr.box R _ (by first | exact Bx.set_same _ _ _ | (simp only [Bx.set_same]; rfl)); dsimp only [Value.cells] at kR; obtain ⟨gR, kR⟩ := kR
  have mm := mm.then0 hr.mod
  go_upto_region 1 with fail
  have LkR := lt_size kR
  have Lkt := lt_size kt
  have Lkh := lt_size kh
  have Lkw := lt_size kw
  refine wp_pass (C := fun _ _ v => v = .int .i64 (wayN true)) (κ := fun i => [0, 1, 0, 0, 1, 2, 3, 4, 0].getD i 0) [0, 1, 2, 3, 4, 5, 6, 7, 8] (by kernel_rfl) (by kernel_rfl) (fun _ _ d _ _ h => by cases d <;> exact h) ?_
  (refine TD.val0 (v := ?v98) (by simp only [List.getElem?_toArray, List.getElem?_cons_succ, List.getElem?_cons_zero]; rfl) rfl ?hw98 (fun w1 => ?hy98) ?hn98; (case hw98 => rfl); (case hy98 => (go_simp; (try with_reducible rfl))); (try simp only [Act.put, List.setIfInBounds_toArray, List.set_cons_zero, List.set_cons_succ]))
  (refine TD.load (v := ?v99) (p := ?p99) (Mod.refl _ _) (by simp only [List.getElem?_toArray, List.getElem?_cons_succ, List.getElem?_cons_zero]; rfl) rfl ?hw99 rfl ?hx99 (fun wq hSq => ?hy99) ?hn99; (case hw99 => rfl); (case hx99 => (simp only [Act.eval, Array.getD_eq_getD_getElem?, List.getElem?_toArray, List.getElem?_cons_succ, List.getElem?_cons_zero, Option.getD_some]; (try rfl))); (case hy99 => (have kRq := hSq.at kR (fun h => h); have ktq := hSq.at kt (fun h => h); have khq := hSq.at kh (fun h => h); have kwq := hSq.at kw (fun h => h); go_simp; (try with_reducible rfl))); (try simp only [Act.put, List.setIfInBounds_toArray, List.set_cons_zero, List.set_cons_succ]))
  (refine TD.val0 (v := ?v100) (by simp only [List.getElem?_toArray, List.getElem?_cons_succ, List.getElem?_cons_zero]; rfl) rfl ?hw100 (fun w1 => ?hy100) ?hn100; (case hw100 => rfl); (case hy100 => (go_simp; (try with_reducible rfl))); (try simp only [Act.put, List.setIfInBounds_toArray, List.set_cons_zero, List.set_cons_succ]))
  (refine TD.build (v := ?v101) (ps := ?p101) (by simp only [List.getElem?_toArray, List.getElem?_cons_succ, List.getElem?_cons_zero]; rfl) rfl ?hw101 rfl ?hx101 (fun w1 => ?hy101) ?hn101; (case hw101 => rfl); (case hx101 => (simp only [List.map_toArray, List.map_cons, List.map_nil, Act.eval, Array.getD_eq_getD_getElem?, List.getElem?_toArray, List.getElem?_cons_succ, List.getElem?_cons_zero, Option.getD_some]; (try rfl))); (case hy101 => (rw [buildSpot]; (try with_reducible rfl))); (try simp only [Act.put, List.setIfInBounds_toArray, List.set_cons_zero, List.set_cons_succ]))
  (refine TD.load (v := ?v102) (p := ?p102) (Mod.refl _ _) (by simp only [List.getElem?_toArray, List.getElem?_cons_succ, List.getElem?_cons_zero]; rfl) rfl ?hw102 rfl ?hx102 (fun wq hSq => ?hy102) ?hn102; (case hw102 => rfl); (case hx102 => (simp only [Act.eval, Array.getD_eq_getD_getElem?, List.getElem?_toArray, List.getElem?_cons_succ, List.getElem?_cons_zero, Option.getD_some]; (try rfl))); (case hy102 => (have kRq := hSq.at kR (fun h => h); have ktq := hSq.at kt (fun h => h); have khq := hSq.at kh (fun h => h); have kwq := hSq.at kw (fun h => h); go_simp; (try with_reducible rfl))); (try simp only [Act.put, List.setIfInBounds_toArray, List.set_cons_zero, List.set_cons_succ]))
  (refine TD.call (f := ?f103) (args := ?r103) (Mod.refl _ _) (by simp only [List.getElem?_toArray, List.getElem?_cons_succ, List.getElem?_cons_zero]; rfl) rfl ?hw103 (fun w1 => ?hy103) ?hsp103 ?hn103; (case hw103 => rfl); (case hy103 => (go_simp; (first | with_reducible rfl | (constructor <;> with_reducible rfl)))); (case hsp103 => (intro wq hSq; have kRq := hSq.at kR (fun h => h); have ktq := hSq.at kt (fun h => h); have khq := hSq.at kh (fun h => h); have kwq := hSq.at kw (fun h => h); exact (way_c k s true wq).mono (fun e w' h => ⟨_, h.1, rfl, h.2⟩))); rintro _ rfl; (try simp only [Act.put, List.setIfInBounds_toArray, List.set_cons_zero, List.set_cons_succ]))
  (refine TD.allocB (by simp only [List.getElem?_toArray, List.getElem?_cons_succ, List.getElem?_cons_zero]; rfl) rfl ?hw104 rfl rfl alSpot (fun p8 hp8 => ?hn104); (case hw104 => rfl); (try simp only [Act.put, List.setIfInBounds_toArray, List.set_cons_zero, List.set_cons_succ]))
  (refine TD.storeB (d := ?d105) (T := ?T105) (y := ?y105) (p := ?p105) (b := ?b105) (v := ?v105) (by simp only [List.getElem?_toArray, List.getElem?_cons_succ, List.getElem?_cons_zero]; rfl) rfl ?hw105 ?hd105 ?hop105 ?hev105 ?hx105 ?hb105 ?htag105 (fun w1 hb1 => ?hy105) ?hn105; (case hw105 => rfl); (case hd105 => rfl); (case hop105 => rfl); (case hev105 => (simp only [Act.eval, Array.getD_eq_getD_getElem?, List.getElem?_toArray, List.getElem?_cons_succ, List.getElem?_cons_zero, Option.getD_some]; (try rfl))); (case hx105 => (simp only [Act.eval, Array.getD_eq_getD_getElem?, List.getElem?_toArray, List.getElem?_cons_succ, List.getElem?_cons_zero, Option.getD_some]; (try rfl))); (case hb105 => first | exact Bx.set_same _ _ _ | (simp only [Bx.set_same]; rfl)); (case hy105 => (go_simp; (try with_reducible rfl))); (try simp only [Act.put, List.setIfInBounds_toArray, List.set_cons_zero, List.set_cons_succ]))
  (refine TD.val0 (v := ?v106) (by simp only [List.getElem?_toArray, List.getElem?_cons_succ, List.getElem?_cons_zero]; rfl) rfl ?hw106 (fun w1 => ?hy106) ?hn106; (case hw106 => rfl); (case hy106 => (go_simp; (try with_reducible rfl))); (try simp only [Act.put, List.setIfInBounds_toArray, List.set_cons_zero, List.set_cons_succ]))
  refine TD.nil (fun w2 hr => ?_)
  have kR := hr.mod.at kR (fun h => h)
  have kt := hr.mod.at kt (fun h => h)
  have kh := hr.mod.at kh (fun h => h)
  have kw := hr.mod.at kw (fun h => h)
  have kp8 := hr.box p8 _ (by first | exact Bx.set_same _ _ _ | (simp only [Bx.set_same]; rfl)); dsimp only [Value.cells] at kp8; obtain ⟨gp8, kp8⟩ := kp8
  have mm := mm.then0 hr.mod
  go_upto_region 2 with fail
  have l1 : ∀ wq, Mod (fun _ => False) w2 wq → (Instr.lookup 46 (.map (some hb)) (.agg (sc k (wk.val : Int))) false).run Try.prog wq = .ok (.agg #[.int .i64 c0, .int .i64 c1]) wq := fun wq hm => by
    have := Mh.lookupD spotT Try.underlying46 zero_c wq (hm.at kh (fun h => h)) (k, wk)
    rw [hc] at this
    exact this
  have l2 : ∀ wq, Mod (fun _ => False) w2 wq → (Instr.lookup 47 (.map (some wb)) (.agg (kc k)) false).run Try.prog wq = .ok (.agg #[.int .u64 (b0 : Int), .int .u64 (b1 : Int)]) wq := fun wq hm => by
    have := Mw.lookupD keyT Try.underlying47 zero_u wq (hm.at kw (fun h => h)) k
    rw [hbt] at this
    exact this
  have H1 := Lib.hid hc
  have H2 := Lib.hid hbt
  clear hc hbt
  have LkR := lt_size kR
  have Lkt := lt_size kt
  have Lkh := lt_size kh
  have Lkw := lt_size kw
  have Lkp8 := lt_size kp8
  refine wp_pass (C := fun _ _ _ => False) (κ := fun i => [0, 0, 0, 1, 1, 1, 0, 0, 0, 1, 0, 1, 1, 3, 3, 4, 4].getD i 0) [0, 1, 2, 3, 4, 5, 6, 7, 8, 9, 10, 11, 12, 13, 14, 15, 16] (by kernel_rfl) (by kernel_rfl) (fun _ _ d _ _ h => by cases d <;> exact h) ?_
  (refine TD.val0 (v := ?v107) (by simp only [List.getElem?_toArray, List.getElem?_cons_succ, List.getElem?_cons_zero]; rfl) rfl ?hw107 (fun w1 => ?hy107) ?hn107; (case hw107 => rfl); (case hy107 => (go_simp; (try with_reducible rfl))); (try simp only [Act.put, List.setIfInBounds_toArray, List.set_cons_zero, List.set_cons_succ]))
  (refine TD.val0 (v := ?v108) (by simp only [List.getElem?_toArray, List.getElem?_cons_succ, List.getElem?_cons_zero]; rfl) rfl ?hw108 (fun w1 => ?hy108) ?hn108; (case hw108 => rfl); (case hy108 => (go_simp; (try with_reducible rfl))); (try simp only [Act.put, List.setIfInBounds_toArray, List.set_cons_zero, List.set_cons_succ]))
  (refine TD.val0 (v := ?v109) (by simp only [List.getElem?_toArray, List.getElem?_cons_succ, List.getElem?_cons_zero]; rfl) rfl ?hw109 (fun w1 => ?hy109) ?hn109; (case hw109 => rfl); (case hy109 => (go_simp; (try with_reducible rfl))); (try simp only [Act.put, List.setIfInBounds_toArray, List.set_cons_zero, List.set_cons_succ]))
  (refine TD.load (v := ?v110) (p := ?p110) (Mod.refl _ _) (by simp only [List.getElem?_toArray, List.getElem?_cons_succ, List.getElem?_cons_zero]; rfl) rfl ?hw110 rfl ?hx110 (fun wq hSq => ?hy110) ?hn110; (case hw110 => rfl); (case hx110 => (simp only [Act.eval, Array.getD_eq_getD_getElem?, List.getElem?_toArray, List.getElem?_cons_succ, List.getElem?_cons_zero, Option.getD_some]; (try rfl))); (case hy110 => (have kRq := hSq.at kR (fun h => h); have ktq := hSq.at kt (fun h => h); have khq := hSq.at kh (fun h => h); have kwq := hSq.at kw (fun h => h); have kp8q := hSq.at kp8 (fun h => h); go_simp; (try with_reducible rfl))); (try simp only [Act.put, List.setIfInBounds_toArray, List.set_cons_zero, List.set_cons_succ]))
  (refine TD.load (v := ?v111) (p := ?p111) (Mod.refl _ _) (by simp only [List.getElem?_toArray, List.getElem?_cons_succ, List.getElem?_cons_zero]; rfl) rfl ?hw111 rfl ?hx111 (fun wq hSq => ?hy111) ?hn111; (case hw111 => rfl); (case hx111 => (simp only [Act.eval, Array.getD_eq_getD_getElem?, List.getElem?_toArray, List.getElem?_cons_succ, List.getElem?_cons_zero, Option.getD_some]; (try rfl))); (case hy111 => (have kRq := hSq.at kR (fun h => h); have ktq := hSq.at kt (fun h => h); have khq := hSq.at kh (fun h => h); have kwq := hSq.at kw (fun h => h); have kp8q := hSq.at kp8 (fun h => h); go_simp; (try with_reducible rfl))); (try simp only [Act.put, List.setIfInBounds_toArray, List.set_cons_zero, List.set_cons_succ]))
  (refine TD.lookup (v := ?v112) (p := ?p112) (q := ?q112) (Mod.refl _ _) (by simp only [List.getElem?_toArray, List.getElem?_cons_succ, List.getElem?_cons_zero]; rfl) rfl ?hw112 rfl ?hx112 ?hz112 (fun wq hSq => ?hy112) ?hn112; (case hw112 => rfl); (case hx112 => (simp only [Act.eval, Array.getD_eq_getD_getElem?, List.getElem?_toArray, List.getElem?_cons_succ, List.getElem?_cons_zero, Option.getD_some]; (try rfl))); (case hz112 => (simp only [Act.eval, Array.getD_eq_getD_getElem?, List.getElem?_toArray, List.getElem?_cons_succ, List.getElem?_cons_zero, Option.getD_some]; (try rfl))); (case hy112 => (rw [l1 wq hSq]; (try with_reducible rfl))); (try simp only [Act.put, List.setIfInBounds_toArray, List.set_cons_zero, List.set_cons_succ]))
  (refine TD.val0 (v := ?v113) (by simp only [List.getElem?_toArray, List.getElem?_cons_succ, List.getElem?_cons_zero]; rfl) rfl ?hw113 (fun w1 => ?hy113) ?hn113; (case hw113 => rfl); (case hy113 => (go_simp; (try with_reducible rfl))); (try simp only [Act.put, List.setIfInBounds_toArray, List.set_cons_zero, List.set_cons_succ]))
  (refine TD.val0 (v := ?v114) (by simp only [List.getElem?_toArray, List.getElem?_cons_succ, List.getElem?_cons_zero]; rfl) rfl ?hw114 (fun w1 => ?hy114) ?hn114; (case hw114 => rfl); (case hy114 => (go_simp; (try with_reducible rfl))); (try simp only [Act.put, List.setIfInBounds_toArray, List.set_cons_zero, List.set_cons_succ]))
  (refine TD.val0 (v := ?v115) (by simp only [List.getElem?_toArray, List.getElem?_cons_succ, List.getElem?_cons_zero]; rfl) rfl ?hw115 (fun w1 => ?hy115) ?hn115; (case hw115 => rfl); (case hy115 => (go_simp; (try with_reducible rfl))); (try simp only [Act.put, List.setIfInBounds_toArray, List.set_cons_zero, List.set_cons_succ]))
  (refine TD.load (v := ?v116) (p := ?p116) (Mod.refl _ _) (by simp only [List.getElem?_toArray, List.getElem?_cons_succ, List.getElem?_cons_zero]; rfl) rfl ?hw116 rfl ?hx116 (fun wq hSq => ?hy116) ?hn116; (case hw116 => rfl); (case hx116 => (simp only [Act.eval, Array.getD_eq_getD_getElem?, List.getElem?_toArray, List.getElem?_cons_succ, List.getElem?_cons_zero, Option.getD_some]; (try rfl))); (case hy116 => (have kRq := hSq.at kR (fun h => h); have ktq := hSq.at kt (fun h => h); have khq := hSq.at kh (fun h => h); have kwq := hSq.at kw (fun h => h); have kp8q := hSq.at kp8 (fun h => h); go_simp; (try with_reducible rfl))); (try simp only [Act.put, List.setIfInBounds_toArray, List.set_cons_zero, List.set_cons_succ]))
  (refine TD.val0 (v := ?v117) (by simp only [List.getElem?_toArray, List.getElem?_cons_succ, List.getElem?_cons_zero]; rfl) rfl ?hw117 (fun w1 => ?hy117) ?hn117; (case hw117 => rfl); (case hy117 => (go_simp; (try with_reducible rfl))); (try simp only [Act.put, List.setIfInBounds_toArray, List.set_cons_zero, List.set_cons_succ]))
  (refine TD.load (v := ?v118) (p := ?p118) (Mod.refl _ _) (by simp only [List.getElem?_toArray, List.getElem?_cons_succ, List.getElem?_cons_zero]; rfl) rfl ?hw118 rfl ?hx118 (fun wq hSq => ?hy118) ?hn118; (case hw118 => rfl); (case hx118 => (simp only [Act.eval, Array.getD_eq_getD_getElem?, List.getElem?_toArray, List.getElem?_cons_succ, List.getElem?_cons_zero, Option.getD_some]; (try rfl))); (case hy118 => (have kRq := hSq.at kR (fun h => h); have ktq := hSq.at kt (fun h => h); have khq := hSq.at kh (fun h => h); have kwq := hSq.at kw (fun h => h); have kp8q := hSq.at kp8 (fun h => h); go_simp; (try with_reducible rfl))); (try simp only [Act.put, List.setIfInBounds_toArray, List.set_cons_zero, List.set_cons_succ]))
  (refine TD.lookup (v := ?v119) (p := ?p119) (q := ?q119) (Mod.refl _ _) (by simp only [List.getElem?_toArray, List.getElem?_cons_succ, List.getElem?_cons_zero]; rfl) rfl ?hw119 rfl ?hx119 ?hz119 (fun wq hSq => ?hy119) ?hn119; (case hw119 => rfl); (case hx119 => (simp only [Act.eval, Array.getD_eq_getD_getElem?, List.getElem?_toArray, List.getElem?_cons_succ, List.getElem?_cons_zero, Option.getD_some]; (try rfl))); (case hz119 => (simp only [Act.eval, Array.getD_eq_getD_getElem?, List.getElem?_toArray, List.getElem?_cons_succ, List.getElem?_cons_zero, Option.getD_some]; (try rfl))); (case hy119 => (rw [l2 wq hSq]; (try with_reducible rfl))); (try simp only [Act.put, List.setIfInBounds_toArray, List.set_cons_zero, List.set_cons_succ]))
  (refine TD.allocB (by simp only [List.getElem?_toArray, List.getElem?_cons_succ, List.getElem?_cons_zero]; rfl) rfl ?hw120 rfl rfl alCounts (fun p10 hp10 => ?hn120); (case hw120 => rfl); (try simp only [Act.put, List.setIfInBounds_toArray, List.set_cons_zero, List.set_cons_succ]))
  (refine TD.allocB (by simp only [List.getElem?_toArray, List.getElem?_cons_succ, List.getElem?_cons_zero]; rfl) rfl ?hw121 rfl rfl alBits (fun p11 hp11 => ?hn121); (case hw121 => rfl); (try simp only [Act.put, List.setIfInBounds_toArray, List.set_cons_zero, List.set_cons_succ]))
  obtain ⟨ne_p11_p10, hp11⟩ := Bx.set_none hp11
  (refine TD.storeB (d := ?d122) (T := ?T122) (y := ?y122) (p := ?p122) (b := ?b122) (v := ?v122) (by simp only [List.getElem?_toArray, List.getElem?_cons_succ, List.getElem?_cons_zero]; rfl) rfl ?hw122 ?hd122 ?hop122 ?hev122 ?hx122 ?hb122 ?htag122 (fun w1 hb1 => ?hy122) ?hn122; (case hw122 => rfl); (case hd122 => rfl); (case hop122 => rfl); (case hev122 => (simp only [Act.eval, Array.getD_eq_getD_getElem?, List.getElem?_toArray, List.getElem?_cons_succ, List.getElem?_cons_zero, Option.getD_some]; (try rfl))); (case hx122 => (simp only [Act.eval, Array.getD_eq_getD_getElem?, List.getElem?_toArray, List.getElem?_cons_succ, List.getElem?_cons_zero, Option.getD_some]; (try rfl))); (case hb122 => first | exact Bx.set_same _ _ _ | (simp only [Bx.set_ne _ (Ne.symm ne_p11_p10), Bx.set_ne _ ne_p11_p10, Bx.set_same]; rfl)); (case hy122 => (go_simp; (try with_reducible rfl))); (try simp only [Act.put, List.setIfInBounds_toArray, List.set_cons_zero, List.set_cons_succ]))
  (refine TD.storeB (d := ?d123) (T := ?T123) (y := ?y123) (p := ?p123) (b := ?b123) (v := ?v123) (by simp only [List.getElem?_toArray, List.getElem?_cons_succ, List.getElem?_cons_zero]; rfl) rfl ?hw123 ?hd123 ?hop123 ?hev123 ?hx123 ?hb123 ?htag123 (fun w1 hb1 => ?hy123) ?hn123; (case hw123 => rfl); (case hd123 => rfl); (case hop123 => rfl); (case hev123 => (simp only [Act.eval, Array.getD_eq_getD_getElem?, List.getElem?_toArray, List.getElem?_cons_succ, List.getElem?_cons_zero, Option.getD_some]; (try rfl))); (case hx123 => (simp only [Act.eval, Array.getD_eq_getD_getElem?, List.getElem?_toArray, List.getElem?_cons_succ, List.getElem?_cons_zero, Option.getD_some]; (try rfl))); (case hb123 => first | exact Bx.set_same _ _ _ | (simp only [Bx.set_ne _ (Ne.symm ne_p11_p10), Bx.set_ne _ ne_p11_p10, Bx.set_same]; rfl)); (case hy123 => (go_simp; (try with_reducible rfl))); (try simp only [Act.put, List.setIfInBounds_toArray, List.set_cons_zero, List.set_cons_succ]))
  refine TD.nil (fun w3 hr => ?_)
  have kR := hr.mod.at kR (fun h => h)
  have kt := hr.mod.at kt (fun h => h)
  have kh := hr.mod.at kh (fun h => h)
  have kw := hr.mod.at kw (fun h => h)
  have kp8 := hr.mod.at kp8 (fun h => h)
  have kp10 := hr.box p10 _ (by first | exact Bx.set_same _ _ _ | (simp only [Bx.set_ne _ (Ne.symm ne_p11_p10), Bx.set_ne _ ne_p11_p10, Bx.set_same]; rfl)); dsimp only [Value.cells] at kp10; obtain ⟨gp10, kp10⟩ := kp10
  have kp11 := hr.box p11 _ (by first | exact Bx.set_same _ _ _ | (simp only [Bx.set_ne _ (Ne.symm ne_p11_p10), Bx.set_ne _ ne_p11_p10, Bx.set_same]; rfl)); dsimp only [Value.cells] at kp11; obtain ⟨gp11, kp11⟩ := kp11
  have mm := mm.then0 hr.mod
  clear l1 l2
  rw [show wayN true = 1 from rfl]
  go_upto_region 3 with fail
  have LkR := lt_size kR
  have Lkt := lt_size kt
  have Lkh := lt_size kh
  have Lkw := lt_size kw
  have Lkp8 := lt_size kp8
  have Lkp11 := lt_size kp11
  have Lkp10 := lt_size kp10
  refine wp_pass0 (C := fun _ _ _ => False) (κ := fun i => [0, 0, 1, 0, 0, 0, 5].getD i 0) [0, 1, 2, 3, 4, 5, 6] (by kernel_rfl) (by kernel_rfl) (fun _ _ d _ _ h => by cases d <;> exact h) ?_
  (refine TD.val0 (v := ?v124) (by simp only [List.getElem?_toArray, List.getElem?_cons_succ, List.getElem?_cons_zero]; rfl) rfl ?hw124 (fun w1 => ?hy124) ?hn124; (case hw124 => rfl); (case hy124 => (go_simp; (try with_reducible rfl))); (try simp only [Act.put, List.setIfInBounds_toArray, List.set_cons_zero, List.set_cons_succ]))
  (refine TD.val0 (v := ?v125) (by simp only [List.getElem?_toArray, List.getElem?_cons_succ, List.getElem?_cons_zero]; rfl) rfl ?hw125 (fun w1 => ?hy125) ?hn125; (case hw125 => rfl); (case hy125 => (go_simp; (try with_reducible rfl))); (try simp only [Act.put, List.setIfInBounds_toArray, List.set_cons_zero, List.set_cons_succ]))
  (refine TD.load (v := ?v126) (p := ?p126) (Mod.refl _ _) (by simp only [List.getElem?_toArray, List.getElem?_cons_succ, List.getElem?_cons_zero]; rfl) rfl ?hw126 rfl ?hx126 (fun wq hSq => ?hy126) ?hn126; (case hw126 => rfl); (case hx126 => (simp only [Act.eval, Array.getD_eq_getD_getElem?, List.getElem?_toArray, List.getElem?_cons_succ, List.getElem?_cons_zero, Option.getD_some]; (try rfl))); (case hy126 => (have kRq := hSq.at kR (fun h => h); have ktq := hSq.at kt (fun h => h); have khq := hSq.at kh (fun h => h); have kwq := hSq.at kw (fun h => h); have kp8q := hSq.at kp8 (fun h => h); have kp11q := hSq.at kp11 (fun h => h); have kp10q := hSq.at kp10 (fun h => h); go_simp; (try with_reducible rfl))); (try simp only [Act.put, List.setIfInBounds_toArray, List.set_cons_zero, List.set_cons_succ]))
  (refine TD.val0 (v := ?v127) (by simp only [List.getElem?_toArray, List.getElem?_cons_succ, List.getElem?_cons_zero]; rfl) rfl ?hw127 (fun w1 => ?hy127) ?hn127; (case hw127 => rfl); (case hy127 => (go_simp; (try with_reducible rfl))); (try simp only [Act.put, List.setIfInBounds_toArray, List.set_cons_zero, List.set_cons_succ]))
  (refine TD.val0 (v := ?v128) (by simp only [List.getElem?_toArray, List.getElem?_cons_succ, List.getElem?_cons_zero]; rfl) rfl ?hw128 (fun w1 => ?hy128) ?hn128; (case hw128 => rfl); (case hy128 => (go_simp; (try with_reducible rfl))); (try simp only [Act.put, List.setIfInBounds_toArray, List.set_cons_zero, List.set_cons_succ]))
  (refine TD.val0 (v := ?v129) (by simp only [List.getElem?_toArray, List.getElem?_cons_succ, List.getElem?_cons_zero]; rfl) rfl ?hw129 (fun w1 => ?hy129) ?hn129; (case hw129 => rfl); (case hy129 => (go_simp; (try with_reducible rfl))); (try simp only [Act.put, List.setIfInBounds_toArray, List.set_cons_zero, List.set_cons_succ]))
  refine TD.eff (by simp only [List.getElem?_toArray, List.getElem?_cons_succ, List.getElem?_cons_zero]; rfl) rfl (fun wE hr => ?_)
  have kR := hr.mod.at0 kR
  have kt := hr.mod.at0 kt
  have kh := hr.mod.at0 kh
  have kw := hr.mod.at0 kw
  have kp8 := hr.mod.at0 kp8
  have kp11 := hr.mod.at0 kp11
  have kp10 := hr.mod.at0 kp10
  have mE := hr.mod
  (refine eff_store (X := ?X130) (Y := ?Y130) (w' := ?w130) (by simp only [List.getElem?_toArray, List.getElem?_cons_succ, List.getElem?_cons_zero]; rfl) ?hw130 rfl ?hx130 ?hz130 ?hy130 ?hn130; (case hw130 => rfl); (case hx130 => (simp only [Act.eval, Array.getD_eq_getD_getElem?, List.getElem?_toArray, List.getElem?_cons_succ, List.getElem?_cons_zero, Option.getD_some]; (try rfl))); (case hz130 => (simp only [Act.eval, Array.getD_eq_getD_getElem?, List.getElem?_toArray, List.getElem?_cons_succ, List.getElem?_cons_zero, Option.getD_some]; (try rfl))); (case hy130 => (go_simp; (try with_reducible rfl))))
  (first | refine TE.nil_set kp10 (fun w4 kp10 mS => ?_) | refine TE.nil_setCell kp10 (fun w4 kp10 mS => ?_))
  (try simp only [Array.setIfInBounds, List.setIfInBounds_toArray, List.set_cons_zero, List.set_cons_succ] at kp10)
  have kR := mS.at_ne kR (by omega)
  have kt := mS.at_ne kt (by omega)
  have kh := mS.at_ne kh (by omega)
  have kw := mS.at_ne kw (by omega)
  have kp8 := mS.at_ne kp8 (by omega)
  have kp11 := mS.at_ne kp11 (by omega)
  have mm := (mm.then0 mE).thenB mS (.inl (by omega))
  go_upto_region 4 with fail
  have LkR := lt_size kR
  have Lkt := lt_size kt
  have Lkh := lt_size kh
  have Lkw := lt_size kw
  have Lkp8 := lt_size kp8
  have Lkp11 := lt_size kp11
  have Lkp10 := lt_size kp10
  refine wp_pass (C := fun _ _ _ => False) (κ := fun i => [0, 0, 1, 0, 0, 0, 0, 5].getD i 0) [0, 1, 2, 3, 4, 5, 6, 7] (by kernel_rfl) (by kernel_rfl) (fun _ _ d _ _ h => by cases d <;> exact h) ?_
  (refine TD.val0 (v := ?v131) (by simp only [List.getElem?_toArray, List.getElem?_cons_succ, List.getElem?_cons_zero]; rfl) rfl ?hw131 (fun w1 => ?hy131) ?hn131; (case hw131 => rfl); (case hy131 => (go_simp; (try with_reducible rfl))); (try simp only [Act.put, List.setIfInBounds_toArray, List.set_cons_zero, List.set_cons_succ]))
  (refine TD.val0 (v := ?v132) (by simp only [List.getElem?_toArray, List.getElem?_cons_succ, List.getElem?_cons_zero]; rfl) rfl ?hw132 (fun w1 => ?hy132) ?hn132; (case hw132 => rfl); (case hy132 => (go_simp; (try with_reducible rfl))); (try simp only [Act.put, List.setIfInBounds_toArray, List.set_cons_zero, List.set_cons_succ]))
  (refine TD.load (v := ?v133) (p := ?p133) (Mod.refl _ _) (by simp only [List.getElem?_toArray, List.getElem?_cons_succ, List.getElem?_cons_zero]; rfl) rfl ?hw133 rfl ?hx133 (fun wq hSq => ?hy133) ?hn133; (case hw133 => rfl); (case hx133 => (simp only [Act.eval, Array.getD_eq_getD_getElem?, List.getElem?_toArray, List.getElem?_cons_succ, List.getElem?_cons_zero, Option.getD_some]; (try rfl))); (case hy133 => (have kRq := hSq.at kR (fun h => h); have ktq := hSq.at kt (fun h => h); have khq := hSq.at kh (fun h => h); have kwq := hSq.at kw (fun h => h); have kp8q := hSq.at kp8 (fun h => h); have kp11q := hSq.at kp11 (fun h => h); have kp10q := hSq.at kp10 (fun h => h); go_simp; (try with_reducible rfl))); (try simp only [Act.put, List.setIfInBounds_toArray, List.set_cons_zero, List.set_cons_succ]))
  (refine TD.val0 (v := ?v134) (by simp only [List.getElem?_toArray, List.getElem?_cons_succ, List.getElem?_cons_zero]; rfl) rfl ?hw134 (fun w1 => ?hy134) ?hn134; (case hw134 => rfl); (case hy134 => (go_simp; (try with_reducible rfl))); (try simp only [Act.put, List.setIfInBounds_toArray, List.set_cons_zero, List.set_cons_succ]))
  (refine TD.val0 (v := ?v135) (by simp only [List.getElem?_toArray, List.getElem?_cons_succ, List.getElem?_cons_zero]; rfl) rfl ?hw135 (fun w1 => ?hy135) ?hn135; (case hw135 => rfl); (case hy135 => (go_simp; (try with_reducible rfl))); (try simp only [Act.put, List.setIfInBounds_toArray, List.set_cons_zero, List.set_cons_succ]))
  (refine TD.val0 (v := ?v136) (by simp only [List.getElem?_toArray, List.getElem?_cons_succ, List.getElem?_cons_zero]; rfl) rfl ?hw136 (fun w1 => ?hy136) ?hn136; (case hw136 => rfl); (case hy136 => (go_simp; (try with_reducible rfl))); (try simp only [Act.put, List.setIfInBounds_toArray, List.set_cons_zero, List.set_cons_succ]))
  (refine TD.val0 (v := ?v137) (by simp only [List.getElem?_toArray, List.getElem?_cons_succ, List.getElem?_cons_zero]; rfl) rfl ?hw137 (fun w1 => ?hy137) ?hn137; (case hw137 => rfl); (case hy137 => (go_simp; (try with_reducible rfl))); (try simp only [Act.put, List.setIfInBounds_toArray, List.set_cons_zero, List.set_cons_succ]))
  refine TD.eff (by simp only [List.getElem?_toArray, List.getElem?_cons_succ, List.getElem?_cons_zero]; rfl) rfl (fun wE hr => ?_)
  have kR := hr.mod.at0 kR
  have kt := hr.mod.at0 kt
  have kh := hr.mod.at0 kh
  have kw := hr.mod.at0 kw
  have kp8 := hr.mod.at0 kp8
  have kp11 := hr.mod.at0 kp11
  have kp10 := hr.mod.at0 kp10
  have mE := hr.mod
  (refine eff_store (X := ?X138) (Y := ?Y138) (w' := ?w138) (by simp only [List.getElem?_toArray, List.getElem?_cons_succ, List.getElem?_cons_zero]; rfl) ?hw138 rfl ?hx138 ?hz138 ?hy138 ?hn138; (case hw138 => rfl); (case hx138 => (simp only [Act.eval, Array.getD_eq_getD_getElem?, List.getElem?_toArray, List.getElem?_cons_succ, List.getElem?_cons_zero, Option.getD_some]; (try rfl))); (case hz138 => (simp only [Act.eval, Array.getD_eq_getD_getElem?, List.getElem?_toArray, List.getElem?_cons_succ, List.getElem?_cons_zero, Option.getD_some]; (try rfl))); (case hy138 => (go_simp; (try with_reducible rfl))))
  (first | refine TE.nil_set kp11 (fun w5 kp11 mS => ?_) | refine TE.nil_setCell kp11 (fun w5 kp11 mS => ?_))
  (try simp only [Array.setIfInBounds, List.setIfInBounds_toArray, List.set_cons_zero, List.set_cons_succ] at kp11)
  have kR := mS.at_ne kR (by omega)
  have kt := mS.at_ne kt (by omega)
  have kh := mS.at_ne kh (by omega)
  have kw := mS.at_ne kw (by omega)
  have kp8 := mS.at_ne kp8 (by omega)
  have kp10 := mS.at_ne kp10 (by omega)
  have mm := (mm.then0 mE).thenB mS (.inl (by omega))
  go_upto_region 5 with fail
  have LkR := lt_size kR
  have Lkt := lt_size kt
  have Lkh := lt_size kh
  have Lkw := lt_size kw
  have Lkp8 := lt_size kp8
  have Lkp11 := lt_size kp11
  have Lkp10 := lt_size kp10
  refine wp_pass0 (C := fun _ _ _ => False) (κ := fun i => [0, 0, 1, 0].getD i 0) [0, 1, 2, 3] (by kernel_rfl) (by kernel_rfl) (fun _ _ d _ _ h => by cases d <;> exact h) ?_
  (refine TD.val0 (v := ?v139) (by simp only [List.getElem?_toArray, List.getElem?_cons_succ, List.getElem?_cons_zero]; rfl) rfl ?hw139 (fun w1 => ?hy139) ?hn139; (case hw139 => rfl); (case hy139 => (go_simp; (try with_reducible rfl))); (try simp only [Act.put, List.setIfInBounds_toArray, List.set_cons_zero, List.set_cons_succ]))
  (refine TD.val0 (v := ?v140) (by simp only [List.getElem?_toArray, List.getElem?_cons_succ, List.getElem?_cons_zero]; rfl) rfl ?hw140 (fun w1 => ?hy140) ?hn140; (case hw140 => rfl); (case hy140 => (go_simp; (try with_reducible rfl))); (try simp only [Act.put, List.setIfInBounds_toArray, List.set_cons_zero, List.set_cons_succ]))
  (refine TD.load (v := ?v141) (p := ?p141) (Mod.refl _ _) (by simp only [List.getElem?_toArray, List.getElem?_cons_succ, List.getElem?_cons_zero]; rfl) rfl ?hw141 rfl ?hx141 (fun wq hSq => ?hy141) ?hn141; (case hw141 => rfl); (case hx141 => (simp only [Act.eval, Array.getD_eq_getD_getElem?, List.getElem?_toArray, List.getElem?_cons_succ, List.getElem?_cons_zero, Option.getD_some]; (try rfl))); (case hy141 => (have kRq := hSq.at kR (fun h => h); have ktq := hSq.at kt (fun h => h); have khq := hSq.at kh (fun h => h); have kwq := hSq.at kw (fun h => h); have kp8q := hSq.at kp8 (fun h => h); have kp11q := hSq.at kp11 (fun h => h); have kp10q := hSq.at kp10 (fun h => h); go_simp; (try with_reducible rfl))); (try simp only [Act.put, List.setIfInBounds_toArray, List.set_cons_zero, List.set_cons_succ]))
  (refine TD.val0 (v := ?v142) (by simp only [List.getElem?_toArray, List.getElem?_cons_succ, List.getElem?_cons_zero]; rfl) rfl ?hw142 (fun w1 => ?hy142) ?hn142; (case hw142 => rfl); (case hy142 => (go_simp; (try with_reducible rfl))); (try simp only [Act.put, List.setIfInBounds_toArray, List.set_cons_zero, List.set_cons_succ]))
  refine TD.nil (fun w6 hr => ?_)
  have kR := hr.mod.at kR (fun h => h)
  have kt := hr.mod.at kt (fun h => h)
  have kh := hr.mod.at kh (fun h => h)
  have kw := hr.mod.at kw (fun h => h)
  have kp8 := hr.mod.at kp8 (fun h => h)
  have kp11 := hr.mod.at kp11 (fun h => h)
  have kp10 := hr.mod.at kp10 (fun h => h)
  have mm := mm.then0 hr.mod
  go_upto_if 47 with fail
  go_cut [11] (fun s11 wx => s11 = .pointer (some ⟨p11, 0, none⟩) ∧ ∃ u : Nat, u = (if 0 < c1 + by_ then sbit (cbit b1 wk) wk else cbit b1 wk) ∧ wx.heap[t]? = some (.cells #[.int .i64 n, .map (some hb), .map (some wb)] 49 (0, 0)) ∧ wx.heap[hb]? = some (.map eh ch) ∧ wx.heap[wb]? = some (.map ew cw) ∧ wx.heap[R]? = some (.cells (rc k s true) 44) ∧ wx.heap[p8]? = some (.cells (sc k (wk.val : Int)) 75) ∧
    wx.heap[p10]? = some (.cells #[.int .i64 c0,.int .i64 (c1+by_)] 72) ∧ wx.heap[p11]? = some (.cells #[.int .u64 (b0:Int),.int .u64 (u:Int)] 66) ∧ w.heap.size ≤ wx.heap.size ∧ Mod (fun i => i = hb ∨ i = wb) w wx)
  case first =>
    refine wp_cond_split rfl (fun h => ?_) (fun h => ?_)
    · go_upto_region 6 with fail
      have LkR := lt_size kR
      have Lkt := lt_size kt
      have Lkh := lt_size kh
      have Lkw := lt_size kw
      have Lkp8 := lt_size kp8
      have Lkp11 := lt_size kp11
      have Lkp10 := lt_size kp10
      refine wp_pass (C := fun _ _ _ => False) (κ := fun i => [0, 0, 1, 0, 0, 0, 0, 5].getD i 0) [0, 1, 2, 3, 4, 5, 6, 7] (by kernel_rfl) (by kernel_rfl) (fun _ _ d _ _ h => by cases d <;> exact h) ?_
      (refine TD.val0 (v := ?v143) (by simp only [List.getElem?_toArray, List.getElem?_cons_succ, List.getElem?_cons_zero]; rfl) rfl ?hw143 (fun w1 => ?hy143) ?hn143; (case hw143 => rfl); (case hy143 => (go_simp; (try with_reducible rfl))); (try simp only [Act.put, List.setIfInBounds_toArray, List.set_cons_zero, List.set_cons_succ]))
      (refine TD.val0 (v := ?v144) (by simp only [List.getElem?_toArray, List.getElem?_cons_succ, List.getElem?_cons_zero]; rfl) rfl ?hw144 (fun w1 => ?hy144) ?hn144; (case hw144 => rfl); (case hy144 => (go_simp; (try with_reducible rfl))); (try simp only [Act.put, List.setIfInBounds_toArray, List.set_cons_zero, List.set_cons_succ]))
      (refine TD.load (v := ?v145) (p := ?p145) (Mod.refl _ _) (by simp only [List.getElem?_toArray, List.getElem?_cons_succ, List.getElem?_cons_zero]; rfl) rfl ?hw145 rfl ?hx145 (fun wq hSq => ?hy145) ?hn145; (case hw145 => rfl); (case hx145 => (simp only [Act.eval, Array.getD_eq_getD_getElem?, List.getElem?_toArray, List.getElem?_cons_succ, List.getElem?_cons_zero, Option.getD_some]; (try rfl))); (case hy145 => (have kRq := hSq.at kR (fun h => h); have ktq := hSq.at kt (fun h => h); have khq := hSq.at kh (fun h => h); have kwq := hSq.at kw (fun h => h); have kp8q := hSq.at kp8 (fun h => h); have kp11q := hSq.at kp11 (fun h => h); have kp10q := hSq.at kp10 (fun h => h); go_simp; (try with_reducible rfl))); (try simp only [Act.put, List.setIfInBounds_toArray, List.set_cons_zero, List.set_cons_succ]))
      (refine TD.val0 (v := ?v146) (by simp only [List.getElem?_toArray, List.getElem?_cons_succ, List.getElem?_cons_zero]; rfl) rfl ?hw146 (fun w1 => ?hy146) ?hn146; (case hw146 => rfl); (case hy146 => (go_simp; (try with_reducible rfl))); (try simp only [Act.put, List.setIfInBounds_toArray, List.set_cons_zero, List.set_cons_succ]))
      (refine TD.val0 (v := ?v147) (by simp only [List.getElem?_toArray, List.getElem?_cons_succ, List.getElem?_cons_zero]; rfl) rfl ?hw147 (fun w1 => ?hy147) ?hn147; (case hw147 => rfl); (case hy147 => (go_simp; (try with_reducible rfl))); (try simp only [Act.put, List.setIfInBounds_toArray, List.set_cons_zero, List.set_cons_succ]))
      (refine TD.val0 (v := ?v148) (by simp only [List.getElem?_toArray, List.getElem?_cons_succ, List.getElem?_cons_zero]; rfl) rfl ?hw148 (fun w1 => ?hy148) ?hn148; (case hw148 => rfl); (case hy148 => (go_simp; (try with_reducible rfl))); (try simp only [Act.put, List.setIfInBounds_toArray, List.set_cons_zero, List.set_cons_succ]))
      (refine TD.val0 (v := ?v149) (by simp only [List.getElem?_toArray, List.getElem?_cons_succ, List.getElem?_cons_zero]; rfl) rfl ?hw149 (fun w1 => ?hy149) ?hn149; (case hw149 => rfl); (case hy149 => (go_simp; (try with_reducible rfl))); (try simp only [Act.put, List.setIfInBounds_toArray, List.set_cons_zero, List.set_cons_succ]))
      refine TD.eff (by simp only [List.getElem?_toArray, List.getElem?_cons_succ, List.getElem?_cons_zero]; rfl) rfl (fun wE hr => ?_)
      have kR := hr.mod.at0 kR
      have kt := hr.mod.at0 kt
      have kh := hr.mod.at0 kh
      have kw := hr.mod.at0 kw
      have kp8 := hr.mod.at0 kp8
      have kp11 := hr.mod.at0 kp11
      have kp10 := hr.mod.at0 kp10
      have mE := hr.mod
      (refine eff_store (X := ?X150) (Y := ?Y150) (w' := ?w150) (by simp only [List.getElem?_toArray, List.getElem?_cons_succ, List.getElem?_cons_zero]; rfl) ?hw150 rfl ?hx150 ?hz150 ?hy150 ?hn150; (case hw150 => rfl); (case hx150 => (simp only [Act.eval, Array.getD_eq_getD_getElem?, List.getElem?_toArray, List.getElem?_cons_succ, List.getElem?_cons_zero, Option.getD_some]; (try rfl))); (case hz150 => (simp only [Act.eval, Array.getD_eq_getD_getElem?, List.getElem?_toArray, List.getElem?_cons_succ, List.getElem?_cons_zero, Option.getD_some]; (try rfl))); (case hy150 => (go_simp; (try with_reducible rfl))))
      (first | refine TE.nil_set kp11 (fun w7 kp11 mS => ?_) | refine TE.nil_setCell kp11 (fun w7 kp11 mS => ?_))
      (try simp only [Array.setIfInBounds, List.setIfInBounds_toArray, List.set_cons_zero, List.set_cons_succ] at kp11)
      have kR := mS.at_ne kR (by omega)
      have kt := mS.at_ne kt (by omega)
      have kh := mS.at_ne kh (by omega)
      have kw := mS.at_ne kw (by omega)
      have kp8 := mS.at_ne kp8 (by omega)
      have kp10 := mS.at_ne kp10 (by omega)
      have mm := (mm.then0 mE).thenB mS (.inl (by omega))
      go_wp2_with fail
      go_meet
      exact ⟨rfl, _, by rw [if_pos (by simpa using h)], kt, kh, kw, kR, kp8, kp10, kp11, mm.size, mm⟩
    · go_wp2_with fail
      go_meet
      exact ⟨rfl, _, by rw [if_neg (by simpa using h)], kt, kh, kw, kR, kp8, kp10, kp11, mm.size, mm⟩
  case rest =>
  clear kt kh kw kR kp8 kp10 kp11 mm hsl hcl hsb hwr
  obtain ⟨rfl, u, hu, kt, kh, kw, kR, kp8, kp10, kp11, hsz, mm⟩ := hcut
  have HU := HU.out
  have hup : turnU mh mw k wk true by_ = (b0,u) := by
    rw [HU, hu]
    by_cases h : 0 < c1 + by_ <;> simp [h]
  clear HU hu
  have HU := Lib.hid hup
  clear hup
  go_upto_region 7 with fail
  have LkR := lt_size kR
  have Lkt := lt_size kt
  have Lkh := lt_size kh
  have Lkw := lt_size kw
  have Lkp8 := lt_size kp8
  have Lkp11 := lt_size kp11
  have Lkp10 := lt_size kp10
  refine wp_pass (C := fun _ _ _ => False) (κ := fun i => [0, 0, 0, 1, 1, 1, 5].getD i 0) [0, 1, 2, 3, 4, 5, 6] (by kernel_rfl) (by kernel_rfl) (fun _ _ d _ _ h => by cases d <;> exact h) ?_
  (refine TD.val0 (v := ?v151) (by simp only [List.getElem?_toArray, List.getElem?_cons_succ, List.getElem?_cons_zero]; rfl) rfl ?hw151 (fun w1 => ?hy151) ?hn151; (case hw151 => rfl); (case hy151 => (go_simp; (try with_reducible rfl))); (try simp only [Act.put, List.setIfInBounds_toArray, List.set_cons_zero, List.set_cons_succ]))
  (refine TD.val0 (v := ?v152) (by simp only [List.getElem?_toArray, List.getElem?_cons_succ, List.getElem?_cons_zero]; rfl) rfl ?hw152 (fun w1 => ?hy152) ?hn152; (case hw152 => rfl); (case hy152 => (go_simp; (try with_reducible rfl))); (try simp only [Act.put, List.setIfInBounds_toArray, List.set_cons_zero, List.set_cons_succ]))
  (refine TD.val0 (v := ?v153) (by simp only [List.getElem?_toArray, List.getElem?_cons_succ, List.getElem?_cons_zero]; rfl) rfl ?hw153 (fun w1 => ?hy153) ?hn153; (case hw153 => rfl); (case hy153 => (go_simp; (try with_reducible rfl))); (try simp only [Act.put, List.setIfInBounds_toArray, List.set_cons_zero, List.set_cons_succ]))
  (refine TD.load (v := ?v154) (p := ?p154) (Mod.refl _ _) (by simp only [List.getElem?_toArray, List.getElem?_cons_succ, List.getElem?_cons_zero]; rfl) rfl ?hw154 rfl ?hx154 (fun wq hSq => ?hy154) ?hn154; (case hw154 => rfl); (case hx154 => (simp only [Act.eval, Array.getD_eq_getD_getElem?, List.getElem?_toArray, List.getElem?_cons_succ, List.getElem?_cons_zero, Option.getD_some]; (try rfl))); (case hy154 => (have kRq := hSq.at kR (fun h => h); have ktq := hSq.at kt (fun h => h); have khq := hSq.at kh (fun h => h); have kwq := hSq.at kw (fun h => h); have kp8q := hSq.at kp8 (fun h => h); have kp11q := hSq.at kp11 (fun h => h); have kp10q := hSq.at kp10 (fun h => h); go_simp; (try with_reducible rfl))); (try simp only [Act.put, List.setIfInBounds_toArray, List.set_cons_zero, List.set_cons_succ]))
  (refine TD.load (v := ?v155) (p := ?p155) (Mod.refl _ _) (by simp only [List.getElem?_toArray, List.getElem?_cons_succ, List.getElem?_cons_zero]; rfl) rfl ?hw155 rfl ?hx155 (fun wq hSq => ?hy155) ?hn155; (case hw155 => rfl); (case hx155 => (simp only [Act.eval, Array.getD_eq_getD_getElem?, List.getElem?_toArray, List.getElem?_cons_succ, List.getElem?_cons_zero, Option.getD_some]; (try rfl))); (case hy155 => (have kRq := hSq.at kR (fun h => h); have ktq := hSq.at kt (fun h => h); have khq := hSq.at kh (fun h => h); have kwq := hSq.at kw (fun h => h); have kp8q := hSq.at kp8 (fun h => h); have kp11q := hSq.at kp11 (fun h => h); have kp10q := hSq.at kp10 (fun h => h); go_simp; (try with_reducible rfl))); (try simp only [Act.put, List.setIfInBounds_toArray, List.set_cons_zero, List.set_cons_succ]))
  (refine TD.load (v := ?v156) (p := ?p156) (Mod.refl _ _) (by simp only [List.getElem?_toArray, List.getElem?_cons_succ, List.getElem?_cons_zero]; rfl) rfl ?hw156 rfl ?hx156 (fun wq hSq => ?hy156) ?hn156; (case hw156 => rfl); (case hx156 => (simp only [Act.eval, Array.getD_eq_getD_getElem?, List.getElem?_toArray, List.getElem?_cons_succ, List.getElem?_cons_zero, Option.getD_some]; (try rfl))); (case hy156 => (have kRq := hSq.at kR (fun h => h); have ktq := hSq.at kt (fun h => h); have khq := hSq.at kh (fun h => h); have kwq := hSq.at kw (fun h => h); have kp8q := hSq.at kp8 (fun h => h); have kp11q := hSq.at kp11 (fun h => h); have kp10q := hSq.at kp10 (fun h => h); go_simp; (try with_reducible rfl))); (try simp only [Act.put, List.setIfInBounds_toArray, List.set_cons_zero, List.set_cons_succ]))
  refine TD.eff (by simp only [List.getElem?_toArray, List.getElem?_cons_succ, List.getElem?_cons_zero]; rfl) rfl (fun wE hr => ?_)
  have kR := hr.mod.at0 kR
  have kt := hr.mod.at0 kt
  have kh := hr.mod.at0 kh
  have kw := hr.mod.at0 kw
  have kp8 := hr.mod.at0 kp8
  have kp11 := hr.mod.at0 kp11
  have kp10 := hr.mod.at0 kp10
  have mE := hr.mod
  obtain ⟨es157, cl157, hrun157, Mkh⟩ := Mh.update spotT Try.underlying46 wE kh (k, wk) (c0,c1+by_)
  (refine eff_update (X := ?X157) (Y := ?Y157) (Z := ?Z157) (w' := ?w157) (by simp only [List.getElem?_toArray, List.getElem?_cons_succ, List.getElem?_cons_zero]; rfl) ?hw157 rfl ?hx157 ?hz157 ?hv157 ?hy157 ?hn157; (case hw157 => rfl); (case hx157 => (simp only [Act.eval, Array.getD_eq_getD_getElem?, List.getElem?_toArray, List.getElem?_cons_succ, List.getElem?_cons_zero, Option.getD_some]; (try rfl))); (case hz157 => (simp only [Act.eval, Array.getD_eq_getD_getElem?, List.getElem?_toArray, List.getElem?_cons_succ, List.getElem?_cons_zero, Option.getD_some]; (try rfl))); (case hv157 => (simp only [Act.eval, Array.getD_eq_getD_getElem?, List.getElem?_toArray, List.getElem?_cons_succ, List.getElem?_cons_zero, Option.getD_some]; (try rfl))); (case hy157 => exact hrun157))
  (first | refine TE.nil_set kh (fun w8 kh mS => ?_) | refine TE.nil_setCell kh (fun w8 kh mS => ?_))
  (try simp only [Array.setIfInBounds, List.setIfInBounds_toArray, List.set_cons_zero, List.set_cons_succ] at kh)
  have kR := mS.at_ne kR (by omega)
  have kt := mS.at_ne kt (by omega)
  have kw := mS.at_ne kw (by omega)
  have kp8 := mS.at_ne kp8 (by omega)
  have kp11 := mS.at_ne kp11 (by omega)
  have kp10 := mS.at_ne kp10 (by omega)
  have mm := (mm.then0 mE).thenB mS (.inr (.inl rfl))
  go_upto_region 8 with fail
  have LkR := lt_size kR
  have Lkt := lt_size kt
  have Lkh := lt_size kh
  have Lkw := lt_size kw
  have Lkp8 := lt_size kp8
  have Lkp11 := lt_size kp11
  have Lkp10 := lt_size kp10
  refine wp_pass0 (C := fun _ _ _ => False) (κ := fun i => [1, 0, 0].getD i 0) [0, 1, 2] (by kernel_rfl) (by kernel_rfl) (fun _ _ d _ _ h => by cases d <;> exact h) ?_
  (refine TD.load (v := ?v158) (p := ?p158) (Mod.refl _ _) (by simp only [List.getElem?_toArray, List.getElem?_cons_succ, List.getElem?_cons_zero]; rfl) rfl ?hw158 rfl ?hx158 (fun wq hSq => ?hy158) ?hn158; (case hw158 => rfl); (case hx158 => (simp only [Act.eval, Array.getD_eq_getD_getElem?, List.getElem?_toArray, List.getElem?_cons_succ, List.getElem?_cons_zero, Option.getD_some]; (try rfl))); (case hy158 => (have kRq := hSq.at kR (fun h => h); have ktq := hSq.at kt (fun h => h); have khq := hSq.at kh (fun h => h); have kwq := hSq.at kw (fun h => h); have kp8q := hSq.at kp8 (fun h => h); have kp11q := hSq.at kp11 (fun h => h); have kp10q := hSq.at kp10 (fun h => h); go_simp; (try with_reducible rfl))); (try simp only [Act.put, List.setIfInBounds_toArray, List.set_cons_zero, List.set_cons_succ]))
  (refine TD.val0 (v := ?v159) (by simp only [List.getElem?_toArray, List.getElem?_cons_succ, List.getElem?_cons_zero]; rfl) rfl ?hw159 (fun w1 => ?hy159) ?hn159; (case hw159 => rfl); (case hy159 => (go_simp; (try with_reducible rfl))); (try simp only [Act.put, List.setIfInBounds_toArray, List.set_cons_zero, List.set_cons_succ]))
  (refine TD.val0 (v := ?v160) (by simp only [List.getElem?_toArray, List.getElem?_cons_succ, List.getElem?_cons_zero]; rfl) rfl ?hw160 (fun w1 => ?hy160) ?hn160; (case hw160 => rfl); (case hy160 => (go_simp; (try with_reducible rfl))); (try simp only [Act.put, List.setIfInBounds_toArray, List.set_cons_zero, List.set_cons_succ]))
  refine TD.nil (fun w9 hr => ?_)
  have kR := hr.mod.at kR (fun h => h)
  have kt := hr.mod.at kt (fun h => h)
  have kh := hr.mod.at kh (fun h => h)
  have kw := hr.mod.at kw (fun h => h)
  have kp8 := hr.mod.at kp8 (fun h => h)
  have kp11 := hr.mod.at kp11 (fun h => h)
  have kp10 := hr.mod.at kp10 (fun h => h)
  have mm := mm.then0 hr.mod
  go_upto_if 63 with fail
  go_cut [11] (fun s11 wx => s11 = .pointer (some ⟨p11, 0, none⟩) ∧ ∃ eh ch, MapIs pv cv eh ch (turnH mh k wk true by_) ∧ wx.heap[t]? = some (.cells #[.int .i64 n, .map (some hb), .map (some wb)] 49 (0, 0)) ∧ wx.heap[hb]? = some (.map eh ch) ∧ wx.heap[wb]? = some (.map ew cw) ∧ wx.heap[R]? = some (.cells (rc k s true) 44) ∧
    wx.heap[p11]? = some (.cells #[.int .u64 (b0:Int),.int .u64 (u:Int)] 66) ∧ Mod (fun i => i = hb ∨ i = wb) w wx)
  case first =>
    refine wp_cond_split rfl (fun h => ?_) (fun h => ?_)
    · go_upto_region 9 with fail
      have LkR := lt_size kR
      have Lkt := lt_size kt
      have Lkw := lt_size kw
      have Lkp8 := lt_size kp8
      have Lkp11 := lt_size kp11
      have Lkp10 := lt_size kp10
      have Lkh := lt_size kh
      refine wp_pass (C := fun _ _ _ => False) (κ := fun i => [0, 0, 0, 1, 1, 5].getD i 0) [0, 1, 2, 3, 4, 5] (by kernel_rfl) (by kernel_rfl) (fun _ _ d _ _ h => by cases d <;> exact h) ?_
      (refine TD.val0 (v := ?v161) (by simp only [List.getElem?_toArray, List.getElem?_cons_succ, List.getElem?_cons_zero]; rfl) rfl ?hw161 (fun w1 => ?hy161) ?hn161; (case hw161 => rfl); (case hy161 => (go_simp; (try with_reducible rfl))); (try simp only [Act.put, List.setIfInBounds_toArray, List.set_cons_zero, List.set_cons_succ]))
      (refine TD.val0 (v := ?v162) (by simp only [List.getElem?_toArray, List.getElem?_cons_succ, List.getElem?_cons_zero]; rfl) rfl ?hw162 (fun w1 => ?hy162) ?hn162; (case hw162 => rfl); (case hy162 => (go_simp; (try with_reducible rfl))); (try simp only [Act.put, List.setIfInBounds_toArray, List.set_cons_zero, List.set_cons_succ]))
      (refine TD.val0 (v := ?v163) (by simp only [List.getElem?_toArray, List.getElem?_cons_succ, List.getElem?_cons_zero]; rfl) rfl ?hw163 (fun w1 => ?hy163) ?hn163; (case hw163 => rfl); (case hy163 => (go_simp; (try with_reducible rfl))); (try simp only [Act.put, List.setIfInBounds_toArray, List.set_cons_zero, List.set_cons_succ]))
      (refine TD.load (v := ?v164) (p := ?p164) (Mod.refl _ _) (by simp only [List.getElem?_toArray, List.getElem?_cons_succ, List.getElem?_cons_zero]; rfl) rfl ?hw164 rfl ?hx164 (fun wq hSq => ?hy164) ?hn164; (case hw164 => rfl); (case hx164 => (simp only [Act.eval, Array.getD_eq_getD_getElem?, List.getElem?_toArray, List.getElem?_cons_succ, List.getElem?_cons_zero, Option.getD_some]; (try rfl))); (case hy164 => (have kRq := hSq.at kR (fun h => h); have ktq := hSq.at kt (fun h => h); have kwq := hSq.at kw (fun h => h); have kp8q := hSq.at kp8 (fun h => h); have kp11q := hSq.at kp11 (fun h => h); have kp10q := hSq.at kp10 (fun h => h); have khq := hSq.at kh (fun h => h); go_simp; (try with_reducible rfl))); (try simp only [Act.put, List.setIfInBounds_toArray, List.set_cons_zero, List.set_cons_succ]))
      (refine TD.load (v := ?v165) (p := ?p165) (Mod.refl _ _) (by simp only [List.getElem?_toArray, List.getElem?_cons_succ, List.getElem?_cons_zero]; rfl) rfl ?hw165 rfl ?hx165 (fun wq hSq => ?hy165) ?hn165; (case hw165 => rfl); (case hx165 => (simp only [Act.eval, Array.getD_eq_getD_getElem?, List.getElem?_toArray, List.getElem?_cons_succ, List.getElem?_cons_zero, Option.getD_some]; (try rfl))); (case hy165 => (have kRq := hSq.at kR (fun h => h); have ktq := hSq.at kt (fun h => h); have kwq := hSq.at kw (fun h => h); have kp8q := hSq.at kp8 (fun h => h); have kp11q := hSq.at kp11 (fun h => h); have kp10q := hSq.at kp10 (fun h => h); have khq := hSq.at kh (fun h => h); go_simp; (try with_reducible rfl))); (try simp only [Act.put, List.setIfInBounds_toArray, List.set_cons_zero, List.set_cons_succ]))
      refine TD.eff (by simp only [List.getElem?_toArray, List.getElem?_cons_succ, List.getElem?_cons_zero]; rfl) rfl (fun wE hr => ?_)
      have kR := hr.mod.at0 kR
      have kt := hr.mod.at0 kt
      have kw := hr.mod.at0 kw
      have kp8 := hr.mod.at0 kp8
      have kp11 := hr.mod.at0 kp11
      have kp10 := hr.mod.at0 kp10
      have kh := hr.mod.at0 kh
      have mE := hr.mod
      obtain ⟨es166, hrun166, Mkh⟩ := Mkh.delete (ty := _) spotT Try.underlying46 wE kh (k, wk)
      (refine eff_delete (X := ?X166) (Y := ?Y166) (v := ?v166) (w' := ?w166) (by simp only [List.getElem?_toArray, List.getElem?_cons_succ, List.getElem?_cons_zero]; rfl) ?hw166 rfl ?hx166 ?hz166 ?hy166 ?hn166; (case hw166 => rfl); (case hx166 => (simp only [Act.eval, Array.getD_eq_getD_getElem?, List.getElem?_toArray, List.getElem?_cons_succ, List.getElem?_cons_zero, Option.getD_some]; (try rfl))); (case hz166 => (simp only [Act.eval, Array.getD_eq_getD_getElem?, List.getElem?_toArray, List.getElem?_cons_succ, List.getElem?_cons_zero, Option.getD_some]; (try rfl))); (case hy166 => exact hrun166))
      (first | refine TE.nil_set kh (fun w10 kh mS => ?_) | refine TE.nil_setCell kh (fun w10 kh mS => ?_))
      (try simp only [Array.setIfInBounds, List.setIfInBounds_toArray, List.set_cons_zero, List.set_cons_succ] at kh)
      have kR := mS.at_ne kR (by omega)
      have kt := mS.at_ne kt (by omega)
      have kw := mS.at_ne kw (by omega)
      have kp8 := mS.at_ne kp8 (by omega)
      have kp11 := mS.at_ne kp11 (by omega)
      have kp10 := mS.at_ne kp10 (by omega)
      have mm := (mm.then0 mE).thenB mS (.inr (.inl rfl))
      go_wp2_with fail
      go_meet
      refine ⟨rfl, _, _, ?_, kt, kh, kw, kR, kp11, mm⟩
      rw [beq_pair_i] at h
      unfold turnH putz
      rw [HC.out, h]
      exact Mkh
    · go_wp2_with fail
      go_meet
      refine ⟨rfl, _, _, ?_, kt, kh, kw, kR, kp11, mm⟩
      rw [beq_pair_i] at h
      unfold turnH putz
      rw [HC.out, h]
      exact Mkh
  case rest =>
  clear kt kh kw kR kp8 kp10 kp11 mm Mkh
  obtain ⟨rfl, eh2, ch2, Mkh, kt, kh, kw, kR, kp11, mm⟩ := hcut
  go_upto_region 10 with fail
  have LkR := lt_size kR
  have Lkt := lt_size kt
  have Lkh := lt_size kh
  have Lkw := lt_size kw
  have Lkp11 := lt_size kp11
  refine wp_pass (C := fun _ _ _ => False) (κ := fun i => [0, 0, 0, 1, 0, 1, 1, 5].getD i 0) [0, 1, 2, 3, 4, 5, 6, 7] (by kernel_rfl) (by kernel_rfl) (fun _ _ d _ _ h => by cases d <;> exact h) ?_
  (refine TD.val0 (v := ?v167) (by simp only [List.getElem?_toArray, List.getElem?_cons_succ, List.getElem?_cons_zero]; rfl) rfl ?hw167 (fun w1 => ?hy167) ?hn167; (case hw167 => rfl); (case hy167 => (go_simp; (try with_reducible rfl))); (try simp only [Act.put, List.setIfInBounds_toArray, List.set_cons_zero, List.set_cons_succ]))
  (refine TD.val0 (v := ?v168) (by simp only [List.getElem?_toArray, List.getElem?_cons_succ, List.getElem?_cons_zero]; rfl) rfl ?hw168 (fun w1 => ?hy168) ?hn168; (case hw168 => rfl); (case hy168 => (go_simp; (try with_reducible rfl))); (try simp only [Act.put, List.setIfInBounds_toArray, List.set_cons_zero, List.set_cons_succ]))
  (refine TD.val0 (v := ?v169) (by simp only [List.getElem?_toArray, List.getElem?_cons_succ, List.getElem?_cons_zero]; rfl) rfl ?hw169 (fun w1 => ?hy169) ?hn169; (case hw169 => rfl); (case hy169 => (go_simp; (try with_reducible rfl))); (try simp only [Act.put, List.setIfInBounds_toArray, List.set_cons_zero, List.set_cons_succ]))
  (refine TD.load (v := ?v170) (p := ?p170) (Mod.refl _ _) (by simp only [List.getElem?_toArray, List.getElem?_cons_succ, List.getElem?_cons_zero]; rfl) rfl ?hw170 rfl ?hx170 (fun wq hSq => ?hy170) ?hn170; (case hw170 => rfl); (case hx170 => (simp only [Act.eval, Array.getD_eq_getD_getElem?, List.getElem?_toArray, List.getElem?_cons_succ, List.getElem?_cons_zero, Option.getD_some]; (try rfl))); (case hy170 => (have kRq := hSq.at kR (fun h => h); have ktq := hSq.at kt (fun h => h); have khq := hSq.at kh (fun h => h); have kwq := hSq.at kw (fun h => h); have kp11q := hSq.at kp11 (fun h => h); go_simp; (try with_reducible rfl))); (try simp only [Act.put, List.setIfInBounds_toArray, List.set_cons_zero, List.set_cons_succ]))
  (refine TD.val0 (v := ?v171) (by simp only [List.getElem?_toArray, List.getElem?_cons_succ, List.getElem?_cons_zero]; rfl) rfl ?hw171 (fun w1 => ?hy171) ?hn171; (case hw171 => rfl); (case hy171 => (go_simp; (try with_reducible rfl))); (try simp only [Act.put, List.setIfInBounds_toArray, List.set_cons_zero, List.set_cons_succ]))
  (refine TD.load (v := ?v172) (p := ?p172) (Mod.refl _ _) (by simp only [List.getElem?_toArray, List.getElem?_cons_succ, List.getElem?_cons_zero]; rfl) rfl ?hw172 rfl ?hx172 (fun wq hSq => ?hy172) ?hn172; (case hw172 => rfl); (case hx172 => (simp only [Act.eval, Array.getD_eq_getD_getElem?, List.getElem?_toArray, List.getElem?_cons_succ, List.getElem?_cons_zero, Option.getD_some]; (try rfl))); (case hy172 => (have kRq := hSq.at kR (fun h => h); have ktq := hSq.at kt (fun h => h); have khq := hSq.at kh (fun h => h); have kwq := hSq.at kw (fun h => h); have kp11q := hSq.at kp11 (fun h => h); go_simp; (try with_reducible rfl))); (try simp only [Act.put, List.setIfInBounds_toArray, List.set_cons_zero, List.set_cons_succ]))
  (refine TD.load (v := ?v173) (p := ?p173) (Mod.refl _ _) (by simp only [List.getElem?_toArray, List.getElem?_cons_succ, List.getElem?_cons_zero]; rfl) rfl ?hw173 rfl ?hx173 (fun wq hSq => ?hy173) ?hn173; (case hw173 => rfl); (case hx173 => (simp only [Act.eval, Array.getD_eq_getD_getElem?, List.getElem?_toArray, List.getElem?_cons_succ, List.getElem?_cons_zero, Option.getD_some]; (try rfl))); (case hy173 => (have kRq := hSq.at kR (fun h => h); have ktq := hSq.at kt (fun h => h); have khq := hSq.at kh (fun h => h); have kwq := hSq.at kw (fun h => h); have kp11q := hSq.at kp11 (fun h => h); go_simp; (try with_reducible rfl))); (try simp only [Act.put, List.setIfInBounds_toArray, List.set_cons_zero, List.set_cons_succ]))
  refine TD.eff (by simp only [List.getElem?_toArray, List.getElem?_cons_succ, List.getElem?_cons_zero]; rfl) rfl (fun wE hr => ?_)
  have kR := hr.mod.at0 kR
  have kt := hr.mod.at0 kt
  have kh := hr.mod.at0 kh
  have kw := hr.mod.at0 kw
  have kp11 := hr.mod.at0 kp11
  have mE := hr.mod
  obtain ⟨es174, cl174, hrun174, Mkw⟩ := Mw.update keyT Try.underlying47 wE kw k (b0,u)
  (refine eff_update (X := ?X174) (Y := ?Y174) (Z := ?Z174) (w' := ?w174) (by simp only [List.getElem?_toArray, List.getElem?_cons_succ, List.getElem?_cons_zero]; rfl) ?hw174 rfl ?hx174 ?hz174 ?hv174 ?hy174 ?hn174; (case hw174 => rfl); (case hx174 => (simp only [Act.eval, Array.getD_eq_getD_getElem?, List.getElem?_toArray, List.getElem?_cons_succ, List.getElem?_cons_zero, Option.getD_some]; (try rfl))); (case hz174 => (simp only [Act.eval, Array.getD_eq_getD_getElem?, List.getElem?_toArray, List.getElem?_cons_succ, List.getElem?_cons_zero, Option.getD_some]; (try rfl))); (case hv174 => (simp only [Act.eval, Array.getD_eq_getD_getElem?, List.getElem?_toArray, List.getElem?_cons_succ, List.getElem?_cons_zero, Option.getD_some]; (try rfl))); (case hy174 => exact hrun174))
  (first | refine TE.nil_set kw (fun w11 kw mS => ?_) | refine TE.nil_setCell kw (fun w11 kw mS => ?_))
  (try simp only [Array.setIfInBounds, List.setIfInBounds_toArray, List.set_cons_zero, List.set_cons_succ] at kw)
  have kR := mS.at_ne kR (by omega)
  have kt := mS.at_ne kt (by omega)
  have kh := mS.at_ne kh (by omega)
  have kp11 := mS.at_ne kp11 (by omega)
  have mm := (mm.then0 mE).thenB mS (.inr (.inr rfl))
  go_upto_region 11 with fail
  have LkR := lt_size kR
  have Lkt := lt_size kt
  have Lkh := lt_size kh
  have Lkw := lt_size kw
  have Lkp11 := lt_size kp11
  refine wp_pass0 (C := fun _ _ _ => False) (κ := fun i => [1, 0, 0].getD i 0) [0, 1, 2] (by kernel_rfl) (by kernel_rfl) (fun _ _ d _ _ h => by cases d <;> exact h) ?_
  (refine TD.load (v := ?v175) (p := ?p175) (Mod.refl _ _) (by simp only [List.getElem?_toArray, List.getElem?_cons_succ, List.getElem?_cons_zero]; rfl) rfl ?hw175 rfl ?hx175 (fun wq hSq => ?hy175) ?hn175; (case hw175 => rfl); (case hx175 => (simp only [Act.eval, Array.getD_eq_getD_getElem?, List.getElem?_toArray, List.getElem?_cons_succ, List.getElem?_cons_zero, Option.getD_some]; (try rfl))); (case hy175 => (have kRq := hSq.at kR (fun h => h); have ktq := hSq.at kt (fun h => h); have khq := hSq.at kh (fun h => h); have kwq := hSq.at kw (fun h => h); have kp11q := hSq.at kp11 (fun h => h); go_simp; (try with_reducible rfl))); (try simp only [Act.put, List.setIfInBounds_toArray, List.set_cons_zero, List.set_cons_succ]))
  (refine TD.val0 (v := ?v176) (by simp only [List.getElem?_toArray, List.getElem?_cons_succ, List.getElem?_cons_zero]; rfl) rfl ?hw176 (fun w1 => ?hy176) ?hn176; (case hw176 => rfl); (case hy176 => (go_simp; (try with_reducible rfl))); (try simp only [Act.put, List.setIfInBounds_toArray, List.set_cons_zero, List.set_cons_succ]))
  (refine TD.val0 (v := ?v177) (by simp only [List.getElem?_toArray, List.getElem?_cons_succ, List.getElem?_cons_zero]; rfl) rfl ?hw177 (fun w1 => ?hy177) ?hn177; (case hw177 => rfl); (case hy177 => (go_simp; (try with_reducible rfl))); (try simp only [Act.put, List.setIfInBounds_toArray, List.set_cons_zero, List.set_cons_succ]))
  refine TD.nil (fun w12 hr => ?_)
  have kR := hr.mod.at kR (fun h => h)
  have kt := hr.mod.at kt (fun h => h)
  have kh := hr.mod.at kh (fun h => h)
  have kw := hr.mod.at kw (fun h => h)
  have kp11 := hr.mod.at kp11 (fun h => h)
  have mm := mm.then0 hr.mod
  go_upto_if 78 with fail
  refine wp_cond_split rfl (fun h => ?_) (fun h => ?_)
  · go_upto_region 12 with fail
    have LkR := lt_size kR
    have Lkt := lt_size kt
    have Lkh := lt_size kh
    have Lkp11 := lt_size kp11
    have Lkw := lt_size kw
    refine wp_pass (C := fun _ _ _ => False) (κ := fun i => [0, 0, 0, 1, 0, 1, 5].getD i 0) [0, 1, 2, 3, 4, 5, 6] (by kernel_rfl) (by kernel_rfl) (fun _ _ d _ _ h => by cases d <;> exact h) ?_
    (refine TD.val0 (v := ?v178) (by simp only [List.getElem?_toArray, List.getElem?_cons_succ, List.getElem?_cons_zero]; rfl) rfl ?hw178 (fun w1 => ?hy178) ?hn178; (case hw178 => rfl); (case hy178 => (go_simp; (try with_reducible rfl))); (try simp only [Act.put, List.setIfInBounds_toArray, List.set_cons_zero, List.set_cons_succ]))
    (refine TD.val0 (v := ?v179) (by simp only [List.getElem?_toArray, List.getElem?_cons_succ, List.getElem?_cons_zero]; rfl) rfl ?hw179 (fun w1 => ?hy179) ?hn179; (case hw179 => rfl); (case hy179 => (go_simp; (try with_reducible rfl))); (try simp only [Act.put, List.setIfInBounds_toArray, List.set_cons_zero, List.set_cons_succ]))
    (refine TD.val0 (v := ?v180) (by simp only [List.getElem?_toArray, List.getElem?_cons_succ, List.getElem?_cons_zero]; rfl) rfl ?hw180 (fun w1 => ?hy180) ?hn180; (case hw180 => rfl); (case hy180 => (go_simp; (try with_reducible rfl))); (try simp only [Act.put, List.setIfInBounds_toArray, List.set_cons_zero, List.set_cons_succ]))
    (refine TD.load (v := ?v181) (p := ?p181) (Mod.refl _ _) (by simp only [List.getElem?_toArray, List.getElem?_cons_succ, List.getElem?_cons_zero]; rfl) rfl ?hw181 rfl ?hx181 (fun wq hSq => ?hy181) ?hn181; (case hw181 => rfl); (case hx181 => (simp only [Act.eval, Array.getD_eq_getD_getElem?, List.getElem?_toArray, List.getElem?_cons_succ, List.getElem?_cons_zero, Option.getD_some]; (try rfl))); (case hy181 => (have kRq := hSq.at kR (fun h => h); have ktq := hSq.at kt (fun h => h); have khq := hSq.at kh (fun h => h); have kp11q := hSq.at kp11 (fun h => h); have kwq := hSq.at kw (fun h => h); go_simp; (try with_reducible rfl))); (try simp only [Act.put, List.setIfInBounds_toArray, List.set_cons_zero, List.set_cons_succ]))
    (refine TD.val0 (v := ?v182) (by simp only [List.getElem?_toArray, List.getElem?_cons_succ, List.getElem?_cons_zero]; rfl) rfl ?hw182 (fun w1 => ?hy182) ?hn182; (case hw182 => rfl); (case hy182 => (go_simp; (try with_reducible rfl))); (try simp only [Act.put, List.setIfInBounds_toArray, List.set_cons_zero, List.set_cons_succ]))
    (refine TD.load (v := ?v183) (p := ?p183) (Mod.refl _ _) (by simp only [List.getElem?_toArray, List.getElem?_cons_succ, List.getElem?_cons_zero]; rfl) rfl ?hw183 rfl ?hx183 (fun wq hSq => ?hy183) ?hn183; (case hw183 => rfl); (case hx183 => (simp only [Act.eval, Array.getD_eq_getD_getElem?, List.getElem?_toArray, List.getElem?_cons_succ, List.getElem?_cons_zero, Option.getD_some]; (try rfl))); (case hy183 => (have kRq := hSq.at kR (fun h => h); have ktq := hSq.at kt (fun h => h); have khq := hSq.at kh (fun h => h); have kp11q := hSq.at kp11 (fun h => h); have kwq := hSq.at kw (fun h => h); go_simp; (try with_reducible rfl))); (try simp only [Act.put, List.setIfInBounds_toArray, List.set_cons_zero, List.set_cons_succ]))
    refine TD.eff (by simp only [List.getElem?_toArray, List.getElem?_cons_succ, List.getElem?_cons_zero]; rfl) rfl (fun wE hr => ?_)
    have kR := hr.mod.at0 kR
    have kt := hr.mod.at0 kt
    have kh := hr.mod.at0 kh
    have kp11 := hr.mod.at0 kp11
    have kw := hr.mod.at0 kw
    have mE := hr.mod
    obtain ⟨es184, hrun184, Mkw⟩ := Mkw.delete (ty := _) keyT Try.underlying47 wE kw k
    (refine eff_delete (X := ?X184) (Y := ?Y184) (v := ?v184) (w' := ?w184) (by simp only [List.getElem?_toArray, List.getElem?_cons_succ, List.getElem?_cons_zero]; rfl) ?hw184 rfl ?hx184 ?hz184 ?hy184 ?hn184; (case hw184 => rfl); (case hx184 => (simp only [Act.eval, Array.getD_eq_getD_getElem?, List.getElem?_toArray, List.getElem?_cons_succ, List.getElem?_cons_zero, Option.getD_some]; (try rfl))); (case hz184 => (simp only [Act.eval, Array.getD_eq_getD_getElem?, List.getElem?_toArray, List.getElem?_cons_succ, List.getElem?_cons_zero, Option.getD_some]; (try rfl))); (case hy184 => exact hrun184))
    (first | refine TE.nil_set kw (fun w13 kw mS => ?_) | refine TE.nil_setCell kw (fun w13 kw mS => ?_))
    (try simp only [Array.setIfInBounds, List.setIfInBounds_toArray, List.set_cons_zero, List.set_cons_succ] at kw)
    have kR := mS.at_ne kR (by omega)
    have kt := mS.at_ne kt (by omega)
    have kh := mS.at_ne kh (by omega)
    have kp11 := mS.at_ne kp11 (by omega)
    have mm := (mm.then0 mE).thenB mS (.inr (.inr rfl))
    go_wp2_with fail
    go_end0
    refine ⟨rfl, _, _, _, _, kh, Mkh, kw, ?_, mm⟩
    rw [beq_pair_n] at h
    unfold turnW putz
    rw [HU.out, h]
    exact Mkw
  · go_wp2_with fail
    go_end0
    refine ⟨rfl, _, _, _, _, kh, Mkh, kw, ?_, mm⟩
    rw [beq_pair_n] at h
    unfold turnW putz
    rw [HU.out, h]
    exact Mkw
end Go.Proofs.Ytleenmldlbccmaa
