/- The walk of the reference's Release. -/
import Derived.Test.YtleenmldlbccmaaRef2
import Derived.Test.YtleenmldlbccmaaCut
namespace Go.Proofs.Ytleenmldlbccmaa
open Go.RowKit
open Go.ChangeMaps (setBlock)
set_option linter.unusedSimpArgs false
set_option linter.unusedVariables false
attribute [local go_sem ↓] wlLock ldLock stLock wlKey wlRole wlSpot wlCounts wlBits ldKey ldRole ldSpot ldCounts ldBits stKey stRole stSpot stCounts stBits eqCounts eqBits eqKey1
attribute [local go_sem] lkn_size lkn_key lkn_all lkn_b lkn_n lkn_b' lkn_n' lkn_one zLock_size eqBlk zKey_size zRole_size eqHeld cell_blk frozen_blk kc_ext rc_size rc_key rc_all rc_s rc_w rc_s' rc_w' rc_one sc_size sc_key sc_all sc_n sc_n' sc_one one_int one_bool one_ptr one_slice one_map zSpot_size kc_one kc_one0 Value.cells
theorem SlOff.base {α : Type} {f : α → Array Value} {n : Nat} {E : TypeId} {w : World} {b b' : Nat} {v : Value} {l : List α} (h : SlOff f n E w b v l) (hb : b' ≤ b) : SlOff f n E w b' v l := by
  rcases h with h | ⟨g, o, cap, cur, h1, h2, rest⟩
  · exact .inl h
  · exact .inr ⟨g, o, cap, cur, h1, by omega, rest⟩
/-- The last place of y among the first k. -/
def AtInv (X : List Lk) (y : Lk) (k : Nat) (at_ : Int) : Prop := (at_ = -1 ∧ y ∉ X.take k) ∨ ∃ p : Nat, at_ = (p : Int) ∧ p < k ∧ X[p]? = some y
theorem AtInv.yes {X : List Lk} {y : Lk} {k : Nat} (h : X[k]? = some y) : AtInv X y (k + 1) (k : Int) := .inr ⟨k, rfl, by omega, h⟩
theorem AtInv.no {X : List Lk} {y x : Lk} {k : Nat} {at_ : Int} (h : AtInv X y k at_) (hx : X[k]? = some x) (hne : ¬ x = y) : AtInv X y (k + 1) at_ := by
  rcases h with ⟨h1, h2⟩ | ⟨p, h1, h2, h3⟩
  · refine .inl ⟨h1, ?_⟩
    rw [List.take_add_one, hx]
    simp only [Option.toList_some, List.mem_append, List.mem_singleton, not_or]
    exact ⟨h2, fun e => hne e.symm⟩
  · exact .inr ⟨p, h1, by omega, h3⟩
def RelInv (L X : List Lk) (q : List Role) (i : Fin 64) : Prop := (∀ x, X.count x + (locksOf q i).count x = L.count x) ∧ X.length ≤ L.length
theorem locksOf_snoc (l : List Role) (r : Role) (i : Fin 64) : locksOf (l ++ [r]) i = locksOf l i ++ [(r.k, r.w, i)] := by simp [locksOf]
theorem RelInv.step {L X : List Lk} {q : List Role} {i : Fin 64} (h : RelInv L X q i) {r : Role} {p : Nat} (hp : X[p]? = some (r.k, r.w, i)) : RelInv L (X.eraseIdx p) (q ++ [r]) i := by
  obtain ⟨hlt, he⟩ := List.getElem?_eq_some_iff.1 hp
  refine ⟨fun x => ?_, ?_⟩
  · have h1 := h.1 x
    have h2 := (erase_perm X p hlt).count_eq x
    rw [he, List.count_cons] at h2
    rw [locksOf_snoc, List.count_append, List.count_cons, List.count_nil]
    omega
  · have := h.2
    rw [List.length_eraseIdx, if_pos hlt]
    omega
theorem RelInv.none {L X : List Lk} {l : List Role} {i : Fin 64} {j : Nat} (h : RelInv L X (l.take j) i) {r : Role} (hr : l[j]? = some r) (hn : (r.k, r.w, i) ∉ X) : relB L l i = false := by
  cases hb : relB L l i with
  | false => rfl
  | true =>
    have h1 := relB_iff.1 hb (r.k, r.w, i)
    have h2 := h.1 (r.k, r.w, i)
    rw [List.count_eq_zero_of_not_mem hn] at h2
    have h3 : (locksOf (l.take (j + 1)) i).count (r.k, r.w, i) ≤ (locksOf l i).count (r.k, r.w, i) := by
      conv => rhs; rw [← List.take_append_drop (j + 1) l]
      rw [show locksOf (l.take (j + 1) ++ l.drop (j + 1)) i = locksOf (l.take (j + 1)) i ++ locksOf (l.drop (j + 1)) i by simp [locksOf], List.count_append]
      omega
    rw [List.take_add_one, hr] at h3
    simp only [Option.toList_some] at h3
    rw [locksOf_snoc, List.count_append, List.count_cons_self] at h3
    omega
theorem RelInv.all {L X : List Lk} {l : List Role} {i : Fin 64} (h : RelInv L X l i) : relB L l i = true ∧ ∀ x, X.count x = (subL L l i).count x := by
  refine ⟨relB_iff.2 fun x => ?_, fun x => ?_⟩
  · have := h.1 x
    omega
  · have := h.1 x
    rw [subL_count]
    omega
def RRelPost (w : World) (tb n base : Nat) (v : Value) (L : List Lk) (l : List Role) (i : Fin 64) (e : Ending) (w' : World) : Prop :=
  (relB L l i = true ∧ e = .returned (.int .i64 0) ∧ (∃ v' L', RTab w' tb n base v' L' ∧ OwnNew v v' w ∧ (∀ x, L'.count x = (subL L l i).count x) ∧ L'.length ≤ L.length) ∧ Mod (fun j => j = tb) w w') ∨
  (relB L l i = false ∧ e = .returned (.int .i64 11) ∧ Mod (fun _ => False) w w')
set_option maxRecDepth 20000 in
set_option maxHeartbeats 6400000 in
theorem rrel_c (tb n base : Nat) (v : Value) (L : List Lk) (a : Option Addr) (l : List Role) (c : Nat) (i : Fin 64) (w : World) (h : RTab w tb n base v L) (hi : i.val < n) (hlen : L.length ≤ 900000) (hll : l.length ≤ 1000000) (hl : RolesAt w a l) (hbase : base ≤ w.heap.size) :
    Calls Try.prog 16 #[.pointer (some ⟨tb, 0, none⟩), .slice a l.length c, .int .i64 (i.val : Int)] w (RRelPost w tb n base v L l i) := by
  obtain ⟨aL, cL, rfl, hL, hLb, hLm⟩ := h.own.at lockT
  have kt := h.cells
  have hlt0 := h.lt
  have h1 : ¬ ((i.val : Int) < 0) := by omega
  have h2 : ¬ ((n : Int) ≤ (i.val : Int)) := by omega
  obtain ⟨v1, w1, hap, hO1, m1, _⟩ := SlOff.append lockT (c := cL) (SlOff.nil w w.heap.size) hL (by simp; omega) (by omega) (Nat.le_refl _) 38
  rw [List.nil_append] at hO1
  have m1' : Mod (fun _ => False) w w1 := m1.mono (fun _ _ e => by cases e)
  have hs1 := m1.size
  have HO1 := Lib.hid hO1
  clear hO1 m1 hL hLb hLm h
  go_enter Try.func16, Try.ntmps16
  go_upto_region 3 with fail
  refine region_seq 6 rfl ?_
  simp only [List.range, List.range.loop]
  (refine sq_val (v := ?v1) (by simp only [List.getElem?_toArray, List.getElem?_cons_succ, List.getElem?_cons_zero]; rfl) ?hw1 ?hy1 ?hn1; (case hw1 => rfl); (case hy1 => (go_simp; (try with_reducible rfl))); (try simp only [Act.put, List.setIfInBounds_toArray, List.set_cons_zero, List.set_cons_succ]))
  (refine sq_val (v := ?v2) (by simp only [List.getElem?_toArray, List.getElem?_cons_succ, List.getElem?_cons_zero]; rfl) ?hw2 ?hy2 ?hn2; (case hw2 => rfl); (case hy2 => (go_simp; (try with_reducible rfl))); (try simp only [Act.put, List.setIfInBounds_toArray, List.set_cons_zero, List.set_cons_succ]))
  (refine sq_val (v := ?v3) (by simp only [List.getElem?_toArray, List.getElem?_cons_succ, List.getElem?_cons_zero]; rfl) ?hw3 ?hy3 ?hn3; (case hw3 => rfl); (case hy3 => (go_simp; (try with_reducible rfl))); (try simp only [Act.put, List.setIfInBounds_toArray, List.set_cons_zero, List.set_cons_succ]))
  (refine sq_load (v := ?v4) (p := ?p4) (by simp only [List.getElem?_toArray, List.getElem?_cons_succ, List.getElem?_cons_zero]; rfl) ?hw4 rfl ?hx4 ?hy4 ?hn4; (case hw4 => rfl); (case hx4 => (simp only [Act.eval, Array.getD_eq_getD_getElem?, List.getElem?_toArray, List.getElem?_cons_succ, List.getElem?_cons_zero, Option.getD_some]; (try rfl))); (case hy4 => (go_simp; (try with_reducible rfl))); (try simp only [Act.put, List.setIfInBounds_toArray, List.set_cons_zero, List.set_cons_succ]))
  (refine sq_append (by simp only [List.getElem?_toArray, List.getElem?_cons_succ, List.getElem?_cons_zero]; rfl) ?hw5 rfl ?hx5 ?hz5 hap ?hn5; (case hw5 => rfl); (case hx5 => (simp only [Act.eval, Array.getD_eq_getD_getElem?, List.getElem?_toArray, List.getElem?_cons_succ, List.getElem?_cons_zero, Option.getD_some]; (try rfl))); (case hz5 => (simp only [Act.eval, Array.getD_eq_getD_getElem?, List.getElem?_toArray, List.getElem?_cons_succ, List.getElem?_cons_zero, Option.getD_some]; (try rfl))); (try simp only [Act.put, List.setIfInBounds_toArray, List.set_cons_zero, List.set_cons_succ]))
  (refine sq_val (v := ?v6) (by simp only [List.getElem?_toArray, List.getElem?_cons_succ, List.getElem?_cons_zero]; rfl) ?hw6 ?hy6 ?hn6; (case hw6 => rfl); (case hy6 => (go_simp; (try with_reducible rfl))); (try simp only [Act.put, List.setIfInBounds_toArray, List.set_cons_zero, List.set_cons_succ]))
  refine sq_nil ?_
  clear hap
  go_wp2_with fail
  go_loopw [7, 8] (fun s7 s8 wr => ∃ (j : Nat) (X : List Lk), j ≤ l.length ∧ s8 = .int .i64 j ∧ SlOff lkv 34 78 wr w.heap.size s7 X ∧ Hid (RelInv L X (l.take j) i) ∧ Mod (fun _ => False) w wr) (fun _ s8 _ => l.length - (intOf s8).toNat)
  case atStart => exact ⟨0, L, by omega, rfl, HO1.out, Lib.hid ⟨fun x => by simp [locksOf], Nat.le_refl _⟩, m1'⟩
  case round =>
    clear m1' hs1
    obtain ⟨j, X, hj, rfl, hO, HI, hm⟩ := hrel
    obtain ⟨wo, rfl⟩ : ∃ wo : World, wo = wr := ⟨_, rfl⟩
    have hXl : X.length ≤ 900000 := Nat.le_trans HI.out.2 hlen
    by_cases hlt : j < l.length
    · obtain ⟨r, hr0⟩ : ∃ r, l[j]? = some r := ⟨_, List.getElem?_eq_getElem hlt⟩
      obtain ⟨aX, cX, rfl, hX, hXb, _⟩ := hO.at lockT
      have HO := Lib.hid hO
      have HX := Lib.hid hX
      clear hO hX
      go_wp2_with fail
      go_loopw [9, 10] (fun s9 s10 wk => ∃ (k : Nat) (at_ : Int), k ≤ X.length ∧ s10 = .int .i64 k ∧ s9 = .int .i64 at_ ∧ Hid (AtInv X (r.k, r.w, i) k at_) ∧ Mod (fun _ => False) wo wk) (fun _ s10 _ => X.length - (intOf s10).toNat)
      case atStart => exact ⟨0, -1, by omega, rfl, rfl, Lib.hid (.inl ⟨rfl, by simp⟩), Mod.refl _ _⟩
      case round =>
        obtain ⟨k, at_, hk, rfl, rfl, HAT, m2⟩ := hrel
        by_cases hlt2 : k < X.length
        · obtain ⟨x, hx0⟩ : ∃ r, X[k]? = some r := ⟨_, List.getElem?_eq_getElem hlt2⟩
          have mm := hm.trans m2
          obtain ⟨b1, o1, C1, U1, fr1, rfl, kl1, hx1, hle1⟩ := (HX.out.mod0 m2).block hx0
          obtain ⟨b2, o2, C2, U2, fr2, rfl, kl2, hx2, hle2⟩ := (RolesAt.sl.1 (hl.mod0 mm)).block hr0
          have e2 := ext_key hx2
          have g2 := ext_w hx2
          have d2 : o2 + j * 34 + 32 ≤ C2.size := by omega
          have hbl := buildLock r.k r.w (i.val : Int)
          have heq := eqLock x (r.k, r.w, i)
          obtain ⟨k2, s2, w2⟩ := r
          dsimp only at e2 g2 hbl heq
          have heq : ∀ w, (Op.equalIn 10000 78 (.agg (lkv x)) (.agg (lkn k2 w2 (i.val : Int)))).run Try.prog w = .ok (decide (x = (k2, w2, i))) w := heq
          have HX0 := Lib.hid hx0
          clear hx2 hle2 hx0 hr0 hl
          go_upto_region 11 with fail
          have Lkl1 := lt_size kl1
          have Lkl2 := lt_size kl2
          refine wp_pass (C := fun _ _ _ => False) (κ := fun i => [0, 0, 0, 1, 0, 0, 0, 0, 1, 0, 0, 0, 0, 1, 0, 0, 0].getD i 0) [0, 1, 2, 3, 4, 5, 6, 7, 8, 9, 10, 11, 12, 13, 14, 15, 16] (by kernel_rfl) (by kernel_rfl) (fun _ _ d _ _ h => by cases d <;> exact h) ?_
          (refine TD.val0 (v := ?v7) (by simp only [List.getElem?_toArray, List.getElem?_cons_succ, List.getElem?_cons_zero]; rfl) rfl ?hw7 (fun w1 => ?hy7) ?hn7; (case hw7 => rfl); (case hy7 => (go_simp; (try with_reducible rfl))); (try simp only [Act.put, List.setIfInBounds_toArray, List.set_cons_zero, List.set_cons_succ]))
          (refine TD.val0 (v := ?v8) (by simp only [List.getElem?_toArray, List.getElem?_cons_succ, List.getElem?_cons_zero]; rfl) rfl ?hw8 (fun w1 => ?hy8) ?hn8; (case hw8 => rfl); (case hy8 => (go_simp; (try with_reducible rfl))); (try simp only [Act.put, List.setIfInBounds_toArray, List.set_cons_zero, List.set_cons_succ]))
          (refine TD.val0 (v := ?v9) (by simp only [List.getElem?_toArray, List.getElem?_cons_succ, List.getElem?_cons_zero]; rfl) rfl ?hw9 (fun w1 => ?hy9) ?hn9; (case hw9 => rfl); (case hy9 => (go_simp; (try with_reducible rfl))); (try simp only [Act.put, List.setIfInBounds_toArray, List.set_cons_zero, List.set_cons_succ]))
          (refine TD.load (v := ?v10) (p := ?p10) (Mod.refl _ _) (by simp only [List.getElem?_toArray, List.getElem?_cons_succ, List.getElem?_cons_zero]; rfl) rfl ?hw10 rfl ?hx10 (fun wq hSq => ?hy10) ?hn10; (case hw10 => rfl); (case hx10 => (simp only [Act.eval, Array.getD_eq_getD_getElem?, List.getElem?_toArray, List.getElem?_cons_succ, List.getElem?_cons_zero, Option.getD_some]; (try rfl))); (case hy10 => (have kl1q := hSq.at kl1 (fun h => h); have kl2q := hSq.at kl2 (fun h => h); go_simp; (try with_reducible rfl))); (try simp only [Act.put, List.setIfInBounds_toArray, List.set_cons_zero, List.set_cons_succ]))
          (refine TD.val0 (v := ?v11) (by simp only [List.getElem?_toArray, List.getElem?_cons_succ, List.getElem?_cons_zero]; rfl) rfl ?hw11 (fun w1 => ?hy11) ?hn11; (case hw11 => rfl); (case hy11 => (go_simp; (try with_reducible rfl))); (try simp only [Act.put, List.setIfInBounds_toArray, List.set_cons_zero, List.set_cons_succ]))
          (refine TD.val0 (v := ?v12) (by simp only [List.getElem?_toArray, List.getElem?_cons_succ, List.getElem?_cons_zero]; rfl) rfl ?hw12 (fun w1 => ?hy12) ?hn12; (case hw12 => rfl); (case hy12 => (go_simp; (try with_reducible rfl))); (try simp only [Act.put, List.setIfInBounds_toArray, List.set_cons_zero, List.set_cons_succ]))
          (refine TD.val0 (v := ?v13) (by simp only [List.getElem?_toArray, List.getElem?_cons_succ, List.getElem?_cons_zero]; rfl) rfl ?hw13 (fun w1 => ?hy13) ?hn13; (case hw13 => rfl); (case hy13 => (go_simp; (try with_reducible rfl))); (try simp only [Act.put, List.setIfInBounds_toArray, List.set_cons_zero, List.set_cons_succ]))
          (refine TD.val0 (v := ?v14) (by simp only [List.getElem?_toArray, List.getElem?_cons_succ, List.getElem?_cons_zero]; rfl) rfl ?hw14 (fun w1 => ?hy14) ?hn14; (case hw14 => rfl); (case hy14 => (go_simp; (try with_reducible rfl))); (try simp only [Act.put, List.setIfInBounds_toArray, List.set_cons_zero, List.set_cons_succ]))
          (refine TD.load (v := ?v15) (p := ?p15) (Mod.refl _ _) (by simp only [List.getElem?_toArray, List.getElem?_cons_succ, List.getElem?_cons_zero]; rfl) rfl ?hw15 rfl ?hx15 (fun wq hSq => ?hy15) ?hn15; (case hw15 => rfl); (case hx15 => (simp only [Act.eval, Array.getD_eq_getD_getElem?, List.getElem?_toArray, List.getElem?_cons_succ, List.getElem?_cons_zero, Option.getD_some]; (try rfl))); (case hy15 => (have kl1q := hSq.at kl1 (fun h => h); have kl2q := hSq.at kl2 (fun h => h); go_simp; (try with_reducible rfl))); (try simp only [Act.put, List.setIfInBounds_toArray, List.set_cons_zero, List.set_cons_succ]))
          (refine TD.val0 (v := ?v16) (by simp only [List.getElem?_toArray, List.getElem?_cons_succ, List.getElem?_cons_zero]; rfl) rfl ?hw16 (fun w1 => ?hy16) ?hn16; (case hw16 => rfl); (case hy16 => (go_simp; (try with_reducible rfl))); (try simp only [Act.put, List.setIfInBounds_toArray, List.set_cons_zero, List.set_cons_succ]))
          (refine TD.val0 (v := ?v17) (by simp only [List.getElem?_toArray, List.getElem?_cons_succ, List.getElem?_cons_zero]; rfl) rfl ?hw17 (fun w1 => ?hy17) ?hn17; (case hw17 => rfl); (case hy17 => (go_simp; (try with_reducible rfl))); (try simp only [Act.put, List.setIfInBounds_toArray, List.set_cons_zero, List.set_cons_succ]))
          (refine TD.val0 (v := ?v18) (by simp only [List.getElem?_toArray, List.getElem?_cons_succ, List.getElem?_cons_zero]; rfl) rfl ?hw18 (fun w1 => ?hy18) ?hn18; (case hw18 => rfl); (case hy18 => (go_simp; (try with_reducible rfl))); (try simp only [Act.put, List.setIfInBounds_toArray, List.set_cons_zero, List.set_cons_succ]))
          (refine TD.val0 (v := ?v19) (by simp only [List.getElem?_toArray, List.getElem?_cons_succ, List.getElem?_cons_zero]; rfl) rfl ?hw19 (fun w1 => ?hy19) ?hn19; (case hw19 => rfl); (case hy19 => (go_simp; (try with_reducible rfl))); (try simp only [Act.put, List.setIfInBounds_toArray, List.set_cons_zero, List.set_cons_succ]))
          (refine TD.load (v := ?v20) (p := ?p20) (Mod.refl _ _) (by simp only [List.getElem?_toArray, List.getElem?_cons_succ, List.getElem?_cons_zero]; rfl) rfl ?hw20 rfl ?hx20 (fun wq hSq => ?hy20) ?hn20; (case hw20 => rfl); (case hx20 => (simp only [Act.eval, Array.getD_eq_getD_getElem?, List.getElem?_toArray, List.getElem?_cons_succ, List.getElem?_cons_zero, Option.getD_some]; (try rfl))); (case hy20 => (have kl1q := hSq.at kl1 (fun h => h); have kl2q := hSq.at kl2 (fun h => h); go_simp; (try with_reducible rfl))); (try simp only [Act.put, List.setIfInBounds_toArray, List.set_cons_zero, List.set_cons_succ]))
          (refine TD.val0 (v := ?v21) (by simp only [List.getElem?_toArray, List.getElem?_cons_succ, List.getElem?_cons_zero]; rfl) rfl ?hw21 (fun w1 => ?hy21) ?hn21; (case hw21 => rfl); (case hy21 => (go_simp; (try with_reducible rfl))); (try simp only [Act.put, List.setIfInBounds_toArray, List.set_cons_zero, List.set_cons_succ]))
          (refine TD.build (v := ?v22) (ps := ?p22) (by simp only [List.getElem?_toArray, List.getElem?_cons_succ, List.getElem?_cons_zero]; rfl) rfl ?hw22 rfl ?hx22 (fun w1 => ?hy22) ?hn22; (case hw22 => rfl); (case hx22 => (simp only [List.map_toArray, List.map_cons, List.map_nil, Act.eval, Array.getD_eq_getD_getElem?, List.getElem?_toArray, List.getElem?_cons_succ, List.getElem?_cons_zero, Option.getD_some]; (try rfl))); (case hy22 => (rw [hbl]; (try with_reducible rfl))); (try simp only [Act.put, List.setIfInBounds_toArray, List.set_cons_zero, List.set_cons_succ]))
          (refine TD.val0 (v := ?v23) (by simp only [List.getElem?_toArray, List.getElem?_cons_succ, List.getElem?_cons_zero]; rfl) rfl ?hw23 (fun w1 => ?hy23) ?hn23; (case hw23 => rfl); (case hy23 => (go_simp; (try with_reducible rfl))); (try simp only [Act.put, List.setIfInBounds_toArray, List.set_cons_zero, List.set_cons_succ]))
          refine TD.nil (fun w3 hr => ?_)
          have kl1 := hr.mod.at kl1 (fun h => h)
          have kl2 := hr.mod.at kl2 (fun h => h)
          have m3 := m2.then0 hr.mod
          clear hbl heq
          by_cases hxy : x = (k2, w2, i)
          · have HXY := Lib.hid hxy
            have hd : decide (x = (k2, w2, i)) = true := decide_eq_true hxy
            clear hxy
            go_wp2_with fail
            go_roundw
            case rel => exact ⟨k + 1, (k : Int), by omega, by go_num, rfl, Lib.hid (AtInv.yes (by rw [← HXY.out]; exact HX0.out)), m3⟩
            case measure => simp [intOf]; omega
          · have hd : decide (x = (k2, w2, i)) = false := decide_eq_false hxy
            have HXY := Lib.hid hxy
            clear hxy
            go_wp2_with fail
            go_roundw
            case rel => exact ⟨k + 1, at_, by omega, by go_num, rfl, Lib.hid (HAT.out.no HX0.out HXY.out), m3⟩
            case measure => simp [intOf]; omega
        · obtain rfl : k = X.length := by omega
          have mm := hm.trans m2
          rcases HAT.out with ⟨rfl, hn⟩ | ⟨p, rfl, hp, hxp⟩
          · rw [List.take_length] at hn
            have hrb := HI.out.none hr0 hn
            have HRB := Lib.hid hrb
            clear hrb hn hr0 HAT
            go_wp2_with fail
            go_ret
            exact .inr ⟨HRB.out, rfl, mm⟩
          · have HI2 : Hid (RelInv L (X.eraseIdx p) (l.take (j + 1)) i) := Lib.hid (by
              rw [List.take_add_one, hr0]
              exact HI.out.step hxp)
            obtain ⟨va, vb, hea, heb, hdel⟩ := (HO.out).del lockT hp 38
            have hwp : IntKind.i64.wrap ((p : Int) + 1) = (p : Int) + 1 := IntWalk.i64_in _ (by omega)
            rw [show ((p + 1 : Nat) : Int) = (p : Int) + 1 by omega] at heb
            have HD := Lib.hid hdel
            clear hdel hxp hr0 HAT HI
            go_upto_region 15 with fail
            refine wp_pass (C := fun _ _ _ => False) (κ := fun i => [0, 0, 0, 0, 0, 0, 0, 5, 0].getD i 0) [0, 1, 2, 3, 4, 5, 6, 7, 8] (by kernel_rfl) (by kernel_rfl) (fun _ _ d _ _ h => by cases d <;> exact h) ?_
            (refine TD.val0 (v := ?v24) (by simp only [List.getElem?_toArray, List.getElem?_cons_succ, List.getElem?_cons_zero]; rfl) rfl ?hw24 (fun w1 => ?hy24) ?hn24; (case hw24 => rfl); (case hy24 => (go_simp; (try with_reducible rfl))); (try simp only [Act.put, List.setIfInBounds_toArray, List.set_cons_zero, List.set_cons_succ]))
            (refine TD.val0 (v := ?v25) (by simp only [List.getElem?_toArray, List.getElem?_cons_succ, List.getElem?_cons_zero]; rfl) rfl ?hw25 (fun w1 => ?hy25) ?hn25; (case hw25 => rfl); (case hy25 => (go_simp; (try with_reducible rfl))); (try simp only [Act.put, List.setIfInBounds_toArray, List.set_cons_zero, List.set_cons_succ]))
            (refine TD.slice (by simp only [List.getElem?_toArray, List.getElem?_cons_succ, List.getElem?_cons_zero]; rfl) rfl ?hw26 rfl ?hs26 ?hl26 ?hh26 ?hm26 hea ?hn26; (case hw26 => rfl); (case hs26 => (simp only [Act.eval, Array.getD_eq_getD_getElem?, List.getElem?_toArray, List.getElem?_cons_succ, List.getElem?_cons_zero, Option.getD_some]; (try rfl))); (case hl26 => first | rfl | (simp only [Option.map_some, Act.eval, Array.getD_eq_getD_getElem?, List.getElem?_toArray, List.getElem?_cons_succ, List.getElem?_cons_zero, Option.getD_some]; (try rfl))); (case hh26 => first | rfl | (simp only [Option.map_some, Act.eval, Array.getD_eq_getD_getElem?, List.getElem?_toArray, List.getElem?_cons_succ, List.getElem?_cons_zero, Option.getD_some]; (try rfl))); (case hm26 => rfl); (try simp only [Act.put, List.setIfInBounds_toArray, List.set_cons_zero, List.set_cons_succ]))
            (refine TD.val0 (v := ?v27) (by simp only [List.getElem?_toArray, List.getElem?_cons_succ, List.getElem?_cons_zero]; rfl) rfl ?hw27 (fun w1 => ?hy27) ?hn27; (case hw27 => rfl); (case hy27 => (go_simp; (try with_reducible rfl))); (try simp only [Act.put, List.setIfInBounds_toArray, List.set_cons_zero, List.set_cons_succ]))
            (refine TD.val0 (v := ?v28) (by simp only [List.getElem?_toArray, List.getElem?_cons_succ, List.getElem?_cons_zero]; rfl) rfl ?hw28 (fun w1 => ?hy28) ?hn28; (case hw28 => rfl); (case hy28 => (go_simp; (try with_reducible rfl))); (try simp only [Act.put, List.setIfInBounds_toArray, List.set_cons_zero, List.set_cons_succ]))
            (refine TD.val0 (v := ?v29) (by simp only [List.getElem?_toArray, List.getElem?_cons_succ, List.getElem?_cons_zero]; rfl) rfl ?hw29 (fun w1 => ?hy29) ?hn29; (case hw29 => rfl); (case hy29 => (go_simp; (try with_reducible rfl))); (try simp only [Act.put, List.setIfInBounds_toArray, List.set_cons_zero, List.set_cons_succ]))
            (refine TD.slice (by simp only [List.getElem?_toArray, List.getElem?_cons_succ, List.getElem?_cons_zero]; rfl) rfl ?hw30 rfl ?hs30 ?hl30 ?hh30 ?hm30 heb ?hn30; (case hw30 => rfl); (case hs30 => (simp only [Act.eval, Array.getD_eq_getD_getElem?, List.getElem?_toArray, List.getElem?_cons_succ, List.getElem?_cons_zero, Option.getD_some]; (try rfl))); (case hl30 => first | rfl | (simp only [Option.map_some, Act.eval, Array.getD_eq_getD_getElem?, List.getElem?_toArray, List.getElem?_cons_succ, List.getElem?_cons_zero, Option.getD_some]; (try rfl))); (case hh30 => first | rfl | (simp only [Option.map_some, Act.eval, Array.getD_eq_getD_getElem?, List.getElem?_toArray, List.getElem?_cons_succ, List.getElem?_cons_zero, Option.getD_some]; (try rfl))); (case hm30 => rfl); (try simp only [Act.put, List.setIfInBounds_toArray, List.set_cons_zero, List.set_cons_succ]))
            refine TD.eff (by simp only [List.getElem?_toArray, List.getElem?_cons_succ, List.getElem?_cons_zero]; rfl) rfl (fun wE hr => ?_)
            have mE := m2.then0 hr.mod
            obtain ⟨v3, w3, hap, hO3, m3, ho3⟩ := HD.out wE (HO.out.mod0 mE)
            have hol := HO.out.lt
            have hsw := hm.size
            have m4 : Mod (fun _ => False) w w3 := (hm.trans mE).then m3 (fun q hq e => by have := (hol q e).1; omega)
            have HO3 := Lib.hid hO3
            clear hO3 hea heb hol
            (refine eff_append (by simp only [List.getElem?_toArray, List.getElem?_cons_succ, List.getElem?_cons_zero]; rfl) ?hw32 rfl ?hx32 ?hz32 hap ?hn32; (case hw32 => rfl); (case hx32 => (simp only [Act.eval, Array.getD_eq_getD_getElem?, List.getElem?_toArray, List.getElem?_cons_succ, List.getElem?_cons_zero, Option.getD_some]; (try rfl))); (case hz32 => (simp only [Act.eval, Array.getD_eq_getD_getElem?, List.getElem?_toArray, List.getElem?_cons_succ, List.getElem?_cons_zero, Option.getD_some]; (try rfl))); (try simp only [Act.put, List.setIfInBounds_toArray, List.set_cons_zero, List.set_cons_succ]))
            (refine TE.val0 (v := ?v33) (by simp only [List.getElem?_toArray, List.getElem?_cons_succ, List.getElem?_cons_zero]; rfl) ?hw33 (fun w1 => ?hy33) ?hn33; (case hw33 => rfl); (case hy33 => (go_simp; (try with_reducible rfl))); (try simp only [Act.put, List.setIfInBounds_toArray, List.set_cons_zero, List.set_cons_succ]))
            refine TE.nil ?_
            clear hap
            go_wp2_with fail
            go_roundw
            case rel => exact ⟨j + 1, _, by omega, by go_num, HO3.out, HI2, m4⟩
            case measure => simp [intOf]; omega
    · obtain rfl : j = l.length := by omega
      have hI := HI.out
      rw [List.take_length] at hI
      obtain ⟨hb1, hcnt⟩ := hI.all
      have HB := Lib.hid hb1
      have HC := Lib.hid hcnt
      have hlen2 := hI.2
      clear hb1 hcnt hI HI
      have kt := hm.at0 kt
      obtain ⟨aX, cX, rfl, _, _, _⟩ := hO.at lockT
      have HO := Lib.hid hO
      clear hO
      go_upto_region 16 with fail
      have Lkt := lt_size kt
      refine wp_pass0 (C := fun _ _ _ => False) (κ := fun i => [0, 0, 0, 0, 5].getD i 0) [0, 1, 2, 3, 4] (by kernel_rfl) (by kernel_rfl) (fun _ _ d _ _ h => by cases d <;> exact h) ?_
      (refine TD.val0 (v := ?v34) (by simp only [List.getElem?_toArray, List.getElem?_cons_succ, List.getElem?_cons_zero]; rfl) rfl ?hw34 (fun w1 => ?hy34) ?hn34; (case hw34 => rfl); (case hy34 => (go_simp; (try with_reducible rfl))); (try simp only [Act.put, List.setIfInBounds_toArray, List.set_cons_zero, List.set_cons_succ]))
      (refine TD.val0 (v := ?v35) (by simp only [List.getElem?_toArray, List.getElem?_cons_succ, List.getElem?_cons_zero]; rfl) rfl ?hw35 (fun w1 => ?hy35) ?hn35; (case hw35 => rfl); (case hy35 => (go_simp; (try with_reducible rfl))); (try simp only [Act.put, List.setIfInBounds_toArray, List.set_cons_zero, List.set_cons_succ]))
      (refine TD.val0 (v := ?v36) (by simp only [List.getElem?_toArray, List.getElem?_cons_succ, List.getElem?_cons_zero]; rfl) rfl ?hw36 (fun w1 => ?hy36) ?hn36; (case hw36 => rfl); (case hy36 => (go_simp; (try with_reducible rfl))); (try simp only [Act.put, List.setIfInBounds_toArray, List.set_cons_zero, List.set_cons_succ]))
      (refine TD.val0 (v := ?v37) (by simp only [List.getElem?_toArray, List.getElem?_cons_succ, List.getElem?_cons_zero]; rfl) rfl ?hw37 (fun w1 => ?hy37) ?hn37; (case hw37 => rfl); (case hy37 => (go_simp; (try with_reducible rfl))); (try simp only [Act.put, List.setIfInBounds_toArray, List.set_cons_zero, List.set_cons_succ]))
      refine TD.eff (by simp only [List.getElem?_toArray, List.getElem?_cons_succ, List.getElem?_cons_zero]; rfl) rfl (fun wE hr => ?_)
      have kt := hr.mod.at0 kt
      have mE := hr.mod
      (refine eff_store (X := ?X38) (Y := ?Y38) (w' := ?w38) (by simp only [List.getElem?_toArray, List.getElem?_cons_succ, List.getElem?_cons_zero]; rfl) ?hw38 rfl ?hx38 ?hz38 ?hy38 ?hn38; (case hw38 => rfl); (case hx38 => (simp only [Act.eval, Array.getD_eq_getD_getElem?, List.getElem?_toArray, List.getElem?_cons_succ, List.getElem?_cons_zero, Option.getD_some]; (try rfl))); (case hz38 => (simp only [Act.eval, Array.getD_eq_getD_getElem?, List.getElem?_toArray, List.getElem?_cons_succ, List.getElem?_cons_zero, Option.getD_some]; (try rfl))); (case hy38 => (go_simp; (try with_reducible rfl))))
      (first | refine TE.nil_set kt (fun wn kt mS => ?_) | refine TE.nil_setCell kt (fun wn kt mS => ?_))
      (try simp only [Array.setIfInBounds, List.setIfInBounds_toArray, List.set_cons_zero, List.set_cons_succ] at kt)
      replace kt : wn.heap[tb]? = some (.cells #[.int .i64 n, .slice aX X.length cX] 40 (0, 0)) := by simpa using kt
      have hol := HO.out.lt
      have hst := lt_size kt
      have ltb : tb < w.heap.size := by omega
      have hO4 := (HO.out.mod0 mE).mod mS (fun b hb e => by have := (hol b hb).1; omega)
      have m5 : Mod (fun j => j = tb) w wn := ((hm.trans mE).mono (fun _ _ h => h.elim)).then mS (fun _ _ e => e)
      have HO4 := Lib.hid hO4
      clear hO4 ltb hst
      go_wp2_with fail
      go_ret
      exact .inl ⟨HB.out, rfl, ⟨_, X, ⟨kt, HO4.out.base hbase, hlt0⟩, fun k hk => .inr (hol k hk).1, HC.out, hlen2⟩, m5⟩
end Go.Proofs.Ytleenmldlbccmaa
