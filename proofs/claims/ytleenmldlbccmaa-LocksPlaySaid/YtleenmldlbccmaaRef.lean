/- The walks of the reference's table: New, May, All, Threads. -/
import Derived.Test.YtleenmldlbccmaaRefL
import Derived.Test.YtleenmldlbccmaaBlocks
namespace Go.Proofs.Ytleenmldlbccmaa
open Go.RowKit
open Go.ChangeMaps (setBlock)
set_option linter.unusedSimpArgs false
set_option linter.unusedVariables false
attribute [local go_sem ↓] wlLock ldLock stLock wlKey wlRole wlSpot wlCounts wlBits ldKey ldRole ldSpot ldCounts ldBits stKey stRole stSpot stCounts stBits eqCounts eqBits eqKey1
attribute [local go_sem] lkn_size lkn_key lkn_all lkn_b lkn_n lkn_b' lkn_n' lkn_one zLock_size eqBlk zKey_size zRole_size eqHeld cell_blk frozen_blk kc_ext rc_size rc_key rc_all rc_s rc_w rc_s' rc_w' rc_one sc_size sc_key sc_all sc_n sc_n' sc_one one_int one_bool one_ptr one_slice one_map zSpot_size kc_one kc_one0 Value.cells
/-- The reference's table: n workers, the locks L, which lie in a row of the table's own. -/
structure RTab (w : World) (tb n base : Nat) (v : Value) (L : List Lk) : Prop where
  cells : w.heap[tb]? = some (.cells #[.int .i64 n, v] 40 (0, 0))
  own : SlOff lkv 34 78 w base v L
  lt : tb < base
theorem RTab.mod {w w' : World} {tb n base : Nat} {v : Value} {L : List Lk} {S : Nat → Prop} (h : RTab w tb n base v L) (hm : Mod S w w') (h1 : ¬ S tb) (h2 : ∀ b, v.ownBlock = some b → ¬ S b) : RTab w' tb n base v L :=
  ⟨hm.at h.cells h1, h.own.mod hm h2, h.lt⟩
theorem RTab.mod0 {w w' : World} {tb n base : Nat} {v : Value} {L : List Lk} (h : RTab w tb n base v L) (hm : Mod (fun _ => False) w w') : RTab w' tb n base v L := h.mod hm (fun h => h) (fun _ _ h => h)
theorem rnew_c (n : Nat) (w : World) (hn : 1 ≤ n) (hn2 : n ≤ 64) :
    Calls Try.prog 12 #[.int .i64 (n : Int)] w fun e w' => ∃ t, e = .returned (.tuple #[.pointer (some ⟨t, 0, none⟩), .int .i64 0]) ∧ w.heap.size ≤ t ∧ RTab w' t n (t + 1) (.slice none 0 0) [] ∧ t + 1 ≤ w'.heap.size ∧ Mod (fun _ => False) w w' := by
  go_enter Try.func12, Try.ntmps12
  go_wp2_with fail
  go_ret2
  exact ⟨w.heap.size, rfl, Nat.le_refl _, ⟨heap_alloc_new _ _, SlOff.nil _ _, Nat.lt_succ_self _⟩, lt_size (heap_alloc_new _ _), (Mod.refl _ _).alloc _⟩
theorem rnew_bad (n : Int) (w : World) (hn : n < 1 ∨ 64 < n) :
    Calls Try.prog 12 #[.int .i64 n] w fun e w' => e = .returned (.tuple #[.pointer none, .int .i64 1]) ∧ Mod (fun _ => False) w w' := by
  by_cases h : n < 1
  · go_enter Try.func12, Try.ntmps12
    go_wp2_with fail
    go_ret2
    exact ⟨rfl, Mod.refl _ _⟩
  · have h2 : 64 < n := hn.resolve_left h
    go_enter Try.func12, Try.ntmps12
    go_wp2_with fail
    go_ret2
    exact ⟨rfl, Mod.refl _ _⟩
def mayR (L : List Lk) (r : Role) (i : Nat) : Bool := L.all fun x => !blocksB x r i
theorem all_of_take {α : Type} {f : α → Bool} {l : List α} {i : Nat} (h : (l.take i).all f = false) : l.all f = false := by
  cases hl : l.all f with
  | false => rfl
  | true =>
    have : (l.take i).all f = true := by
      rw [List.all_eq_true] at hl ⊢
      exact fun x hx => hl x (List.mem_of_mem_take hx)
    rw [this] at h
    cases h
set_option maxRecDepth 20000 in
set_option maxHeartbeats 3200000 in
theorem rmay_c (tb n base : Nat) (v : Value) (L : List Lk) (k : Key) (s b : Bool) (i : Nat) (w : World) (h : RTab w tb n base v L) (hlen : L.length ≤ 1000000) :
    Calls Try.prog 31 #[.pointer (some ⟨tb, 0, none⟩), .agg (rc k s b), .int .i64 (i : Int)] w fun e w' => e = .returned (.bool (mayR L ⟨k, s, b⟩ i)) ∧ Mod (fun _ => False) w w' := by
  obtain ⟨a, c, rfl, hL, _, _⟩ := h.own.at lockT
  have kt := h.cells
  clear h
  go_enter Try.func31, Try.ntmps31
  go_upto_region 0 with fail
  have Lkt := lt_size kt
  refine wp_pass0 (C := fun _ _ _ => False) (κ := fun i => [3, 0].getD i 0) [0, 1] (by kernel_rfl) (by kernel_rfl) (fun _ _ d _ _ h => by cases d <;> exact h) ?_
  (refine TD.box (v := ?v1) (by simp only [List.getElem?_toArray, List.getElem?_cons_succ, List.getElem?_cons_zero]; rfl) rfl ?hw1 rfl rfl ?hx1 (fun p4 hp4 => ?hn1); (case hw1 => rfl); (case hx1 => (simp only [Act.eval, Array.getD_eq_getD_getElem?, List.getElem?_toArray, List.getElem?_cons_succ, List.getElem?_cons_zero, Option.getD_some]; (try rfl))); (try simp only [Act.put, List.setIfInBounds_toArray, List.set_cons_zero, List.set_cons_succ]))
  (refine TD.val0 (v := ?v2) (by simp only [List.getElem?_toArray, List.getElem?_cons_succ, List.getElem?_cons_zero]; rfl) rfl ?hw2 (fun w1 => ?hy2) ?hn2; (case hw2 => rfl); (case hy2 => (go_simp; (try with_reducible rfl))); (try simp only [Act.put, List.setIfInBounds_toArray, List.set_cons_zero, List.set_cons_succ]))
  refine TD.nil (fun w1 hr => ?_)
  have kt := hr.mod.at kt (fun h => h)
  have kp4 := hr.box p4 _ (by first | exact Bx.set_same _ _ _ | (simp only [Bx.set_same]; rfl)); dsimp only [Value.cells] at kp4; obtain ⟨gp4, kp4⟩ := kp4
  have m1 := hr.mod
  go_wp2_with fail
  go_loopw [7] (fun s7 wr => ∃ j : Nat, j ≤ L.length ∧ s7 = .int .i64 j ∧ Hid ((L.take j).all (fun x => !blocksB x ⟨k, s, b⟩ i) = true) ∧ Mod (fun _ => False) w1 wr) (fun s7 _ => L.length - (intOf s7).toNat)
  case atStart => exact ⟨0, by omega, rfl, Lib.hid (by simp), Mod.refl _ _⟩
  case round =>
    obtain ⟨j, hj, rfl, HA, hm⟩ := hrel
    have kt := hm.at0 kt
    have kp4 := hm.at0 kp4
    by_cases hlt : j < L.length
    · obtain ⟨x, hx⟩ : ∃ r, L[j]? = some r := ⟨_, List.getElem?_eq_getElem hlt⟩
      obtain ⟨g, o, C, U, fr, rfl, kl, hex, hle⟩ := (hL.mod0 (m1.trans hm)).block hx
      have HN : Hid ((L.take (j + 1)).all (fun x => !blocksB x ⟨k, s, b⟩ i) = !blocksB x ⟨k, s, b⟩ i) := Lib.hid (by
        have h1 := HA.out
        rw [List.take_add_one, hx, List.all_append, h1]
        simp)
      obtain ⟨xk, xb, xi⟩ := x
      have HB : Hid (blocksB (xk, xb, xi) ⟨k, s, b⟩ i = (decide (xk = k) && !(xi.val == i) && (xb || b))) := Lib.hid rfl
      unfold lkv at hex
      dsimp only at hex
      clear hx hL
      go_upto_region 4 with fail
      have Lkt := lt_size kt
      have Lkp4 := lt_size kp4
      have Lkl := lt_size kl
      refine wp_pass0 (C := fun _ _ _ => False) (κ := fun i => [0, 0, 0, 1, 0, 0, 1, 3, 4].getD i 0) [0, 1, 2, 3, 4, 5, 6, 7, 8] (by kernel_rfl) (by kernel_rfl) (fun _ _ d _ _ h => by cases d <;> exact h) ?_
      (refine TD.val0 (v := ?v3) (by simp only [List.getElem?_toArray, List.getElem?_cons_succ, List.getElem?_cons_zero]; rfl) rfl ?hw3 (fun w1 => ?hy3) ?hn3; (case hw3 => rfl); (case hy3 => (go_simp; (try with_reducible rfl))); (try simp only [Act.put, List.setIfInBounds_toArray, List.set_cons_zero, List.set_cons_succ]))
      (refine TD.val0 (v := ?v4) (by simp only [List.getElem?_toArray, List.getElem?_cons_succ, List.getElem?_cons_zero]; rfl) rfl ?hw4 (fun w1 => ?hy4) ?hn4; (case hw4 => rfl); (case hy4 => (go_simp; (try with_reducible rfl))); (try simp only [Act.put, List.setIfInBounds_toArray, List.set_cons_zero, List.set_cons_succ]))
      (refine TD.val0 (v := ?v5) (by simp only [List.getElem?_toArray, List.getElem?_cons_succ, List.getElem?_cons_zero]; rfl) rfl ?hw5 (fun w1 => ?hy5) ?hn5; (case hw5 => rfl); (case hy5 => (go_simp; (try with_reducible rfl))); (try simp only [Act.put, List.setIfInBounds_toArray, List.set_cons_zero, List.set_cons_succ]))
      (refine TD.load (v := ?v6) (p := ?p6) (Mod.refl _ _) (by simp only [List.getElem?_toArray, List.getElem?_cons_succ, List.getElem?_cons_zero]; rfl) rfl ?hw6 rfl ?hx6 (fun wq hSq => ?hy6) ?hn6; (case hw6 => rfl); (case hx6 => (simp only [Act.eval, Array.getD_eq_getD_getElem?, List.getElem?_toArray, List.getElem?_cons_succ, List.getElem?_cons_zero, Option.getD_some]; (try rfl))); (case hy6 => (have ktq := hSq.at kt (fun h => h); have kp4q := hSq.at kp4 (fun h => h); have klq := hSq.at kl (fun h => h); go_simp; (try with_reducible rfl))); (try simp only [Act.put, List.setIfInBounds_toArray, List.set_cons_zero, List.set_cons_succ]))
      (refine TD.val0 (v := ?v7) (by simp only [List.getElem?_toArray, List.getElem?_cons_succ, List.getElem?_cons_zero]; rfl) rfl ?hw7 (fun w1 => ?hy7) ?hn7; (case hw7 => rfl); (case hy7 => (go_simp; (try with_reducible rfl))); (try simp only [Act.put, List.setIfInBounds_toArray, List.set_cons_zero, List.set_cons_succ]))
      (refine TD.val0 (v := ?v8) (by simp only [List.getElem?_toArray, List.getElem?_cons_succ, List.getElem?_cons_zero]; rfl) rfl ?hw8 (fun w1 => ?hy8) ?hn8; (case hw8 => rfl); (case hy8 => (go_simp; (try with_reducible rfl))); (try simp only [Act.put, List.setIfInBounds_toArray, List.set_cons_zero, List.set_cons_succ]))
      (refine TD.load (v := ?v9) (p := ?p9) (Mod.refl _ _) (by simp only [List.getElem?_toArray, List.getElem?_cons_succ, List.getElem?_cons_zero]; rfl) rfl ?hw9 rfl ?hx9 (fun wq hSq => ?hy9) ?hn9; (case hw9 => rfl); (case hx9 => (simp only [Act.eval, Array.getD_eq_getD_getElem?, List.getElem?_toArray, List.getElem?_cons_succ, List.getElem?_cons_zero, Option.getD_some]; (try rfl))); (case hy9 => (have ktq := hSq.at kt (fun h => h); have kp4q := hSq.at kp4 (fun h => h); have klq := hSq.at kl (fun h => h); go_simp; (try with_reducible rfl))); (try simp only [Act.put, List.setIfInBounds_toArray, List.set_cons_zero, List.set_cons_succ]))
      (refine TD.allocB (by simp only [List.getElem?_toArray, List.getElem?_cons_succ, List.getElem?_cons_zero]; rfl) rfl ?hw10 rfl rfl alLock (fun p8 hp8 => ?hn10); (case hw10 => rfl); (try simp only [Act.put, List.setIfInBounds_toArray, List.set_cons_zero, List.set_cons_succ]))
      (refine TD.storeB (d := ?d11) (T := ?T11) (y := ?y11) (p := ?p11) (b := ?b11) (v := ?v11) (by simp only [List.getElem?_toArray, List.getElem?_cons_succ, List.getElem?_cons_zero]; rfl) rfl ?hw11 ?hd11 ?hop11 ?hev11 ?hx11 ?hb11 ?htag11 (fun w1 hb1 => ?hy11) ?hn11; (case hw11 => rfl); (case hd11 => rfl); (case hop11 => rfl); (case hev11 => (simp only [Act.eval, Array.getD_eq_getD_getElem?, List.getElem?_toArray, List.getElem?_cons_succ, List.getElem?_cons_zero, Option.getD_some]; (try rfl))); (case hx11 => (simp only [Act.eval, Array.getD_eq_getD_getElem?, List.getElem?_toArray, List.getElem?_cons_succ, List.getElem?_cons_zero, Option.getD_some]; (try rfl))); (case hb11 => first | exact Bx.set_same _ _ _ | (simp only [Bx.set_same]; rfl)); (case hy11 => (go_simp; (try with_reducible rfl))); (try simp only [Act.put, List.setIfInBounds_toArray, List.set_cons_zero, List.set_cons_succ]))
      refine TD.nil (fun w2 hr => ?_)
      have kt := hr.mod.at kt (fun h => h)
      have kp4 := hr.mod.at kp4 (fun h => h)
      have kl := hr.mod.at kl (fun h => h)
      have kp8 := hr.box p8 _ (by first | exact Bx.set_same _ _ _ | (simp only [Bx.set_same]; rfl)); dsimp only [Value.cells] at kp8; obtain ⟨gp8, kp8⟩ := kp8
      have mm := hm.then0 hr.mod
      by_cases hk : xk = k
      · subst hk
        by_cases hi : xi.val = i
        · have hnb : (((xi.val : Nat) : Int) != (i : Int)) = false := by rw [hi]; simp
          go_wp2_with fail
          go_roundw
          case rel => exact ⟨j + 1, by omega, by go_num, Lib.hid (by rw [HN.out, HB.out, hi]; simp), mm⟩
          case measure => simp [intOf]; omega
        · have hnb : (((xi.val : Nat) : Int) != (i : Int)) = true := by
            rw [bne_iff_ne]
            omega
          have hni : (xi.val == i) = false := by simpa using hi
          have HNI := Lib.hid hni
          clear hni
          cases xb <;> cases b
          all_goals
            go_wp2_with fail
            first
              | (go_ret; exact ⟨by rw [show mayR L _ i = false from all_of_take (by rw [HN.out, HB.out, HNI.out]; simp)]; rfl, m1.trans mm⟩)
              | (go_roundw; (case rel => exact ⟨j + 1, by omega, by go_num, Lib.hid (by rw [HN.out, HB.out, HNI.out]; simp), mm⟩); (case measure => simp [intOf]; omega))
      · go_wp2_with fail
        go_roundw
        case rel => exact ⟨j + 1, by omega, by go_num, Lib.hid (by rw [HN.out, HB.out]; simp [hk]), mm⟩
        case measure => simp [intOf]; omega
    · obtain rfl : j = L.length := by omega
      go_wp2_with fail
      go_ret
      have := HA.out
      rw [List.take_length] at this
      exact ⟨by unfold mayR; rw [this]; rfl, m1.trans hm⟩
set_option maxRecDepth 20000 in
set_option maxHeartbeats 3200000 in
theorem rall_c (tb n base : Nat) (v : Value) (L : List Lk) (a : Option Addr) (l : List Role) (c i : Nat) (w : World) (h : RTab w tb n base v L) (hlen : L.length ≤ 1000000) (hl : RolesAt w a l) (hll : l.length ≤ 1000000) :
    Calls Try.prog 26 #[.pointer (some ⟨tb, 0, none⟩), .slice a l.length c, .int .i64 (i : Int)] w fun e w' => e = .returned (.bool (freeB L l i)) ∧ Mod (fun _ => False) w w' := by
  have H := Lib.hid h
  clear h
  go_enter Try.func26, Try.ntmps26
  go_wp2_with fail
  go_loopw [7] (fun s7 wr => ∃ j : Nat, j ≤ l.length ∧ s7 = .int .i64 j ∧ Hid ((l.take j).all (fun r => mayR L r i) = true) ∧ Mod (fun _ => False) w wr) (fun s7 _ => l.length - (intOf s7).toNat)
  case atStart => exact ⟨0, by omega, rfl, Lib.hid (by simp), Mod.refl _ _⟩
  case round =>
    obtain ⟨j, hj, rfl, HA, hm⟩ := hrel
    by_cases hlt : j < l.length
    · obtain ⟨x, hx⟩ : ∃ r, l[j]? = some r := ⟨_, List.getElem?_eq_getElem hlt⟩
      obtain ⟨g, o, C, U, fr, rfl, kl, hex, hle⟩ := (RolesAt.sl.1 (hl.mod0 hm)).block hx
      have HN : Hid ((l.take (j + 1)).all (fun r => mayR L r i) = mayR L x i) := Lib.hid (by
        have h1 := HA.out
        rw [List.take_add_one, hx, List.all_append, h1]
        simp)
      obtain ⟨k, s, b⟩ := x
      unfold rcr at hex
      dsimp only at hex
      clear hx hl
      generalize hq : mayR L ⟨k, s, b⟩ i = q0 at *
      have HQ := Lib.hid hq
      clear hq
      go_wp2_with fail
      go_at_call 31
      refine (rmay_c tb n base v L k s b i _ (H.out.mod0 hm) hlen).mono ?_
      rintro e w2 ⟨rfl, m2⟩
      rw [HQ.out]
      have mm := hm.then0 m2
      cases q0
      all_goals
        go_wp2_with fail
        first
          | (go_ret; exact ⟨by rw [show freeB L l i = false from all_of_take (f := fun r => mayR L r i) HN.out]; rfl, mm⟩)
          | (go_roundw; (case rel => exact ⟨j + 1, by omega, by go_num, Lib.hid HN.out, mm⟩); (case measure => simp [intOf]; omega))
    · obtain rfl : j = l.length := by omega
      go_wp2_with fail
      go_ret
      have := HA.out
      rw [List.take_length] at this
      exact ⟨by rw [show freeB L l i = true from this]; rfl, hm⟩
theorem mask_step (p : Nat → Bool) (u m : Nat) : maskOf (fun j => p (j + u)) (m + 1) = 2 * maskOf (fun j => p (j + (u + 1))) m + if p u then 1 else 0 := by
  rw [maskOf_low]
  have : (fun j => (fun j => p (j + u)) (j + 1)) = fun j => p (j + (u + 1)) := by
    funext j
    show p (j + 1 + u) = _
    rw [Nat.add_assoc, Nat.add_comm 1 u]
  rw [this, Nat.zero_add]
set_option maxRecDepth 20000 in
set_option maxHeartbeats 3200000 in
theorem rthreads_c (tb n base : Nat) (v : Value) (L : List Lk) (a : Option Addr) (l : List Role) (c : Nat) (w : World) (h : RTab w tb n base v L) (hn : n ≤ 64) (hlen : L.length ≤ 1000000) (hl : RolesAt w a l) (hll : l.length ≤ 1000000) :
    Calls Try.prog 14 #[.pointer (some ⟨tb, 0, none⟩), .slice a l.length c] w fun e w' => e = .returned (.int .u64 ((maskOf (freeB L l) n : Nat) : Int)) ∧ Mod (fun _ => False) w w' := by
  have H := Lib.hid h
  have kt := h.cells
  clear h
  go_enter Try.func14, Try.ntmps14
  go_wp2_with fail
  go_loopw [5, 6] (fun s5 s6 wr => ∃ (u : Nat) (z : Int), u ≤ n ∧ z + 1 = (u : Int) ∧ s6 = .int .i64 z ∧ s5 = .int .u64 ((maskOf (fun j => freeB L l (j + u)) (n - u) : Nat) : Int) ∧ Mod (fun _ => False) w wr) (fun _ s6 _ => (intOf s6 + 1).toNat)
  case atStart => exact ⟨n, (n : Int) - 1, Nat.le_refl _, by omega, rfl, by rw [Nat.sub_self]; rfl, Mod.refl _ _⟩
  case round =>
    obtain ⟨u1, z, hu, hz, rfl, rfl, hm⟩ := hrel
    cases u1 with
    | zero =>
      obtain rfl : z = -1 := by omega
      go_wp2_with fail
      go_ret
      exact ⟨by simp, hm⟩
    | succ u =>
      obtain rfl : z = (u : Int) := by omega
      obtain ⟨m, hm2⟩ : ∃ m, n = m + 1 + u := ⟨n - (u + 1), by omega⟩
      have e1 : n - (u + 1) = m := by omega
      have e2 : n - u = m + 1 := by omega
      have HS := Lib.hid (mask_step (freeB L l) u m)
      have HE2 := Lib.hid e2
      rw [e1]
      have hlt := maskOf_lt (fun j => freeB L l (j + (u + 1))) m
      have hp : 2 ^ m ≤ 2 ^ 63 := Nat.pow_le_pow_right (by omega) (by omega)
      clear e1 e2 hm2
      generalize maskOf (fun j => freeB L l (j + (u + 1))) m = M at *
      have w1 : IntKind.u64.wrap (2 * (M : Int)) = ((2 * M : Nat) : Int) := by
        rw [IntKind.wrap_u64]
        omega
      have w2 : IntKind.u64.wrap (((2 * M : Nat) : Int) + 1) = ((2 * M : Nat) : Int) + 1 := by
        rw [IntKind.wrap_u64]
        omega
      have W2 := Lib.hid w2
      clear hlt hp w2
      generalize 2 * M = M2 at *
      generalize hq : freeB L l u = q0 at *
      have HQ := Lib.hid hq
      clear hq
      go_wp2_with fail
      go_at_call 26
      refine (rall_c tb n base v L a l c u _ (H.out.mod0 hm) hlen (hl.mod0 hm) hll).mono ?_
      rintro e w2 ⟨rfl, m2⟩
      rw [HQ.out]
      have mm := hm.then0 m2
      have w2 := W2.out
      clear W2
      cases q0
      all_goals
        go_wp2_with fail
        go_roundw
        case rel => exact ⟨u, (u : Int) - 1, by omega, by omega, rfl, by rw [HE2.out, HS.out]; simp, mm⟩
        case measure => simp [intOf]; try omega
end Go.Proofs.Ytleenmldlbccmaa
