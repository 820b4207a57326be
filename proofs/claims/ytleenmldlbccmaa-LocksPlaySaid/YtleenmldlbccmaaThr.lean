/- The walk of (*locks.Table).Threads over a table that is there. -/
import Derived.Test.YtleenmldlbccmaaMay
namespace Go.Proofs.Ytleenmldlbccmaa
open Go.RowKit
open Go.ChangeMaps (setBlock)
set_option linter.unusedSimpArgs false
set_option linter.unusedVariables false
structure Role where
  k : Key
  s : Bool
  w : Bool
/-- The roles l lie at a. -/
def RolesAt (w : World) (a : Option Addr) (l : List Role) : Prop :=
  l = [] ∨ ∃ b o C U fr, a = some ⟨b, o, none⟩ ∧ w.heap[b]? = some (.cells C U fr) ∧
    ∀ i r, l[i]? = some r → C.extract (o + i * 34) (o + i * 34 + 34) = rc r.k r.s r.w ∧ o + i * 34 + 34 ≤ C.size
theorem RolesAt.mod {w w' : World} {a : Option Addr} {l : List Role} {S : Nat → Prop} (h : RolesAt w a l) (hm : Mod S w w') (hS : ∀ b o, a = some ⟨b, o, none⟩ → ¬ S b) : RolesAt w' a l := by
  rcases h with h | ⟨b, o, C, U, fr, ha, hb, hc⟩
  · exact .inl h
  · exact .inr ⟨b, o, C, U, fr, ha, hm.at hb (hS b o ha), hc⟩
theorem RolesAt.mod0 {w w' : World} {a : Option Addr} {l : List Role} (h : RolesAt w a l) (hm : Mod (fun _ => False) w w') : RolesAt w' a l := h.mod hm (fun _ _ _ h => h)
attribute [local go_sem ↓] wlKey wlRole wlSpot wlCounts wlBits ldKey ldRole ldSpot ldCounts ldBits stKey stRole stSpot stCounts stBits eqCounts eqBits
attribute [local go_sem] zRole_size eqHeld cell_blk frozen_blk kc_ext rc_size rc_key rc_all rc_s rc_w rc_s' rc_w' rc_one sc_size sc_key sc_all sc_n sc_n' sc_one one_int one_bool one_ptr one_slice one_map zSpot_size kc_one kc_one0 Value.cells
/-- Who may be in the way of a role: the workers that have the key. -/
def someOf (mw : List (Key × (Nat × Nat))) (r : Role) : Nat :=
  let u := (lkp r.k mw).getD (0, 0)
  if r.w then u.2 ||| u.1 else u.2
def maskN (n : Nat) : Nat := 18446744073709551615 / 2 ^ (64 - n)
def thrN (mw : List (Key × (Nat × Nat))) (n : Nat) (l : List Role) : Nat := l.foldl (fun all r => aloneN all (someOf mw r)) (maskN n)
theorem aloneN_le (a s : Nat) : aloneN a s ≤ a := by
  unfold aloneN
  split
  · omega
  · split
    · exact Nat.and_le_left
    · omega
theorem maskN_lt (n : Nat) : maskN n < 18446744073709551616 := by
  unfold maskN
  have := Nat.div_le_self 18446744073709551615 (2 ^ (64 - n))
  omega
theorem foldl_le (mw : List (Key × (Nat × Nat))) : ∀ (l : List Role) (a : Nat), l.foldl (fun all r => aloneN all (someOf mw r)) a ≤ a
  | [], _ => Nat.le_refl _
  | r :: l, a => Nat.le_trans (foldl_le mw l _) (aloneN_le _ _)
theorem thrN_lt (mw : List (Key × (Nat × Nat))) (n : Nat) (l : List Role) : thrN mw n l < 18446744073709551616 := Nat.lt_of_le_of_lt (foldl_le mw l _) (maskN_lt n)
theorem thrN_snoc (mw : List (Key × (Nat × Nat))) (n : Nat) (l : List Role) (r : Role) : thrN mw n (l ++ [r]) = aloneN (thrN mw n l) (someOf mw r) := by
  simp [thrN, List.foldl_append]
set_option maxHeartbeats 1600000 in
theorem threads_c (t hb wb : Nat) (n : Nat) (a : Option Addr) (l : List Role) (c : Nat) (w : World) (ew : Array MapEntry) (cw : Nat) (mw : List (Key × (Nat × Nat)))
    (kt : w.heap[t]? = some (.cells #[.int .i64 n, .map (some hb), .map (some wb)] 49 (0, 0))) (hn : 1 ≤ n) (hn2 : n ≤ 64)
    (kw : w.heap[wb]? = some (.map ew cw)) (Mw : MapIs kv uv ew cw mw) (hlt : ∀ k u, lkp k mw = some u → u.1 < 18446744073709551616 ∧ u.2 < 18446744073709551616)
    (hl : RolesAt w a l) (hlen : l.length ≤ 1000000) :
    Calls Try.prog 13 #[.pointer (some ⟨t, 0, none⟩), .slice a l.length c] w fun e w' => e = .returned (.int .u64 (thrN mw n l : Int)) ∧ Mod (fun _ => False) w w' := by
  have HL := Lib.hid hlt
  clear hlt
  go_enter Try.func13, Try.ntmps13
  go_wp2_with fail
  have hmask : (18446744073709551615 : Int) / 2 ^ (64 - n) = ((maskN n : Nat) : Int) := by
    unfold maskN
    simp
  rw [hmask]
  clear hmask
  go_loopw [5, 27] (fun s5 s27 wr => ∃ i : Nat, i ≤ l.length ∧ s27 = .int .i64 i ∧ s5 = .int .u64 (thrN mw n (l.take i) : Int) ∧ Mod (fun _ => False) w wr) (fun _ s27 _ => l.length - (intOf s27).toNat)
  case atStart => exact ⟨0, by omega, rfl, by simp [thrN], Mod.refl _ _⟩
  case round =>
    obtain ⟨i, hi, rfl, rfl, hm⟩ := hrel
    have kt := hm.at0 kt
    have kw := hm.at0 kw
    have hl := hl.mod0 hm
    by_cases hlt : i < l.length
    · obtain ⟨r, hr⟩ : ∃ r, l[i]? = some r := ⟨_, List.getElem?_eq_getElem hlt⟩
      obtain ⟨b, o, C, U, fr, rfl, kl, hc⟩ : ∃ b o C U fr, a = some ⟨b, o, none⟩ ∧ wr.heap[b]? = some (.cells C U fr) ∧
          ∀ i r, l[i]? = some r → C.extract (o + i * 34) (o + i * 34 + 34) = rc r.k r.s r.w ∧ o + i * 34 + 34 ≤ C.size := by
        rcases hl with rfl | h
        · simp at hr
        · exact h
      obtain ⟨hx, hle⟩ := hc i r hr
      obtain ⟨k, s, b⟩ := r
      dsimp only at hx
      have htake : l.take (i + 1) = l.take i ++ [⟨k, s, b⟩] := by
        rw [List.take_add_one, hr]
        rfl
      obtain ⟨u0, u1, hu⟩ : ∃ u0 u1, (lkp k mw).getD (0, 0) = (u0, u1) := ⟨_, _, rfl⟩
      have hub : u0 < 18446744073709551616 ∧ u1 < 18446744073709551616 := by
        cases hq : lkp k mw with
        | none => rw [hq] at hu; cases hu; omega
        | some u => rw [hq] at hu; have := HL.out _ _ hq; cases hu; exact this
      have hnext : thrN mw n (l.take (i + 1)) = aloneN (thrN mw n (l.take i)) (if b then u1 ||| u0 else u1) := by
        rw [htake, thrN_snoc]
        simp [someOf, hu]
      have hor : bits .or .u64 (u1 : Int) (u0 : Int) = ((u1 ||| u0 : Nat) : Int) := u64_or_nat u1 u0 hub.2 hub.1
      have hob : u1 ||| u0 < 18446744073709551616 := Nat.or_lt_two_pow (n := 64) hub.2 hub.1
      obtain ⟨hub0, hub1⟩ := hub
      have hall := thrN_lt mw n (l.take i)
      have HN := Lib.hid hnext
      have HU := Lib.hid hu
      clear hnext hu hc hr htake hl
      generalize thrN mw n (l.take i) = al at *
      generalize (u1 ||| u0) = u01 at *
      have mm := hm
      go_upto_region 6 with fail
      have Lkt := lt_size kt
      have Lkw := lt_size kw
      have Lkl := lt_size kl
      refine wp_pass0 (C := fun _ _ _ => False) (κ := fun i => [0, 1, 3, 4].getD i 0) [0, 1, 2, 3] (by kernel_rfl) (by kernel_rfl) (fun _ _ d _ _ h => by cases d <;> exact h) ?_
      (refine TD.val0 (v := ?v1) (by simp only [List.getElem?_toArray, List.getElem?_cons_succ, List.getElem?_cons_zero]; rfl) rfl ?hw1 (fun w1 => ?hy1) ?hn1; (case hw1 => rfl); (case hy1 => (go_simp; (try with_reducible rfl))); (try simp only [Act.put, List.setIfInBounds_toArray, List.set_cons_zero, List.set_cons_succ]))
      (refine TD.load (v := ?v2) (p := ?p2) (Mod.refl _ _) (by simp only [List.getElem?_toArray, List.getElem?_cons_succ, List.getElem?_cons_zero]; rfl) rfl ?hw2 rfl ?hx2 (fun wq hSq => ?hy2) ?hn2; (case hw2 => rfl); (case hx2 => (simp only [Act.eval, Array.getD_eq_getD_getElem?, List.getElem?_toArray, List.getElem?_cons_succ, List.getElem?_cons_zero, Option.getD_some]; (try rfl))); (case hy2 => (have ktq := hSq.at kt (fun h => h); have kwq := hSq.at kw (fun h => h); have klq := hSq.at kl (fun h => h); go_simp; (try with_reducible rfl))); (try simp only [Act.put, List.setIfInBounds_toArray, List.set_cons_zero, List.set_cons_succ]))
      (refine TD.allocB (by simp only [List.getElem?_toArray, List.getElem?_cons_succ, List.getElem?_cons_zero]; rfl) rfl ?hw3 rfl rfl alRole (fun p7 hp7 => ?hn3); (case hw3 => rfl); (try simp only [Act.put, List.setIfInBounds_toArray, List.set_cons_zero, List.set_cons_succ]))
      (refine TD.storeB (d := ?d4) (T := ?T4) (y := ?y4) (p := ?p4) (b := ?b4) (v := ?v4) (by simp only [List.getElem?_toArray, List.getElem?_cons_succ, List.getElem?_cons_zero]; rfl) rfl ?hw4 ?hd4 ?hop4 ?hev4 ?hx4 ?hb4 ?htag4 (fun w1 hb1 => ?hy4) ?hn4; (case hw4 => rfl); (case hd4 => rfl); (case hop4 => rfl); (case hev4 => (simp only [Act.eval, Array.getD_eq_getD_getElem?, List.getElem?_toArray, List.getElem?_cons_succ, List.getElem?_cons_zero, Option.getD_some]; (try rfl))); (case hx4 => (simp only [Act.eval, Array.getD_eq_getD_getElem?, List.getElem?_toArray, List.getElem?_cons_succ, List.getElem?_cons_zero, Option.getD_some]; (try rfl))); (case hb4 => first | exact Bx.set_same _ _ _ | (simp only [Bx.set_same]; rfl)); (case hy4 => (go_simp; (try with_reducible rfl))); (try simp only [Act.put, List.setIfInBounds_toArray, List.set_cons_zero, List.set_cons_succ]))
      refine TD.nil (fun w1 hr => ?_)
      have kt := hr.mod.at kt (fun h => h)
      have kw := hr.mod.at kw (fun h => h)
      have kl := hr.mod.at kl (fun h => h)
      have kp7 := hr.box p7 _ (by first | exact Bx.set_same _ _ _ | (simp only [Bx.set_same]; rfl)); dsimp only [Value.cells] at kp7; obtain ⟨gp7, kp7⟩ := kp7
      have mm := mm.then0 hr.mod
      go_upto_region 7 with fail
      have l2 : ∀ wq, Mod (fun _ => False) w1 wq → (Instr.lookup 47 (.map (some wb)) (.agg (kc k)) false).run Try.prog wq = .ok (.agg #[.int .u64 (u0 : Int), .int .u64 (u1 : Int)]) wq := fun wq hm => by
        have := Mw.lookupD keyT Try.underlying47 zero_u wq (hm.at0 kw) k
        rw [HU.out] at this
        exact this
      have Lkt := lt_size kt
      have Lkw := lt_size kw
      have Lkl := lt_size kl
      have Lkp7 := lt_size kp7
      refine wp_pass (C := fun _ _ _ => False) (κ := fun i => [0, 0, 0, 1, 0, 1, 1, 3, 4].getD i 0) [0, 1, 2, 3, 4, 5, 6, 7, 8] (by kernel_rfl) (by kernel_rfl) (fun _ _ d _ _ h => by cases d <;> exact h) ?_
      (refine TD.val0 (v := ?v5) (by simp only [List.getElem?_toArray, List.getElem?_cons_succ, List.getElem?_cons_zero]; rfl) rfl ?hw5 (fun w1 => ?hy5) ?hn5; (case hw5 => rfl); (case hy5 => (go_simp; (try with_reducible rfl))); (try simp only [Act.put, List.setIfInBounds_toArray, List.set_cons_zero, List.set_cons_succ]))
      (refine TD.val0 (v := ?v6) (by simp only [List.getElem?_toArray, List.getElem?_cons_succ, List.getElem?_cons_zero]; rfl) rfl ?hw6 (fun w1 => ?hy6) ?hn6; (case hw6 => rfl); (case hy6 => (go_simp; (try with_reducible rfl))); (try simp only [Act.put, List.setIfInBounds_toArray, List.set_cons_zero, List.set_cons_succ]))
      (refine TD.val0 (v := ?v7) (by simp only [List.getElem?_toArray, List.getElem?_cons_succ, List.getElem?_cons_zero]; rfl) rfl ?hw7 (fun w1 => ?hy7) ?hn7; (case hw7 => rfl); (case hy7 => (go_simp; (try with_reducible rfl))); (try simp only [Act.put, List.setIfInBounds_toArray, List.set_cons_zero, List.set_cons_succ]))
      (refine TD.load (v := ?v8) (p := ?p8) (Mod.refl _ _) (by simp only [List.getElem?_toArray, List.getElem?_cons_succ, List.getElem?_cons_zero]; rfl) rfl ?hw8 rfl ?hx8 (fun wq hSq => ?hy8) ?hn8; (case hw8 => rfl); (case hx8 => (simp only [Act.eval, Array.getD_eq_getD_getElem?, List.getElem?_toArray, List.getElem?_cons_succ, List.getElem?_cons_zero, Option.getD_some]; (try rfl))); (case hy8 => (have ktq := hSq.at kt (fun h => h); have kwq := hSq.at kw (fun h => h); have klq := hSq.at kl (fun h => h); have kp7q := hSq.at kp7 (fun h => h); go_simp; (try with_reducible rfl))); (try simp only [Act.put, List.setIfInBounds_toArray, List.set_cons_zero, List.set_cons_succ]))
      (refine TD.val0 (v := ?v9) (by simp only [List.getElem?_toArray, List.getElem?_cons_succ, List.getElem?_cons_zero]; rfl) rfl ?hw9 (fun w1 => ?hy9) ?hn9; (case hw9 => rfl); (case hy9 => (go_simp; (try with_reducible rfl))); (try simp only [Act.put, List.setIfInBounds_toArray, List.set_cons_zero, List.set_cons_succ]))
      (refine TD.load (v := ?v10) (p := ?p10) (Mod.refl _ _) (by simp only [List.getElem?_toArray, List.getElem?_cons_succ, List.getElem?_cons_zero]; rfl) rfl ?hw10 rfl ?hx10 (fun wq hSq => ?hy10) ?hn10; (case hw10 => rfl); (case hx10 => (simp only [Act.eval, Array.getD_eq_getD_getElem?, List.getElem?_toArray, List.getElem?_cons_succ, List.getElem?_cons_zero, Option.getD_some]; (try rfl))); (case hy10 => (have ktq := hSq.at kt (fun h => h); have kwq := hSq.at kw (fun h => h); have klq := hSq.at kl (fun h => h); have kp7q := hSq.at kp7 (fun h => h); go_simp; (try with_reducible rfl))); (try simp only [Act.put, List.setIfInBounds_toArray, List.set_cons_zero, List.set_cons_succ]))
      (refine TD.lookup (v := ?v11) (p := ?p11) (q := ?q11) (Mod.refl _ _) (by simp only [List.getElem?_toArray, List.getElem?_cons_succ, List.getElem?_cons_zero]; rfl) rfl ?hw11 rfl ?hx11 ?hz11 (fun wq hSq => ?hy11) ?hn11; (case hw11 => rfl); (case hx11 => (simp only [Act.eval, Array.getD_eq_getD_getElem?, List.getElem?_toArray, List.getElem?_cons_succ, List.getElem?_cons_zero, Option.getD_some]; (try rfl))); (case hz11 => (simp only [Act.eval, Array.getD_eq_getD_getElem?, List.getElem?_toArray, List.getElem?_cons_succ, List.getElem?_cons_zero, Option.getD_some]; (try rfl))); (case hy11 => (rw [l2 wq hSq]; (try with_reducible rfl))); (try simp only [Act.put, List.setIfInBounds_toArray, List.set_cons_zero, List.set_cons_succ]))
      (refine TD.allocB (by simp only [List.getElem?_toArray, List.getElem?_cons_succ, List.getElem?_cons_zero]; rfl) rfl ?hw12 rfl rfl alBits (fun p8 hp8 => ?hn12); (case hw12 => rfl); (try simp only [Act.put, List.setIfInBounds_toArray, List.set_cons_zero, List.set_cons_succ]))
      (refine TD.storeB (d := ?d13) (T := ?T13) (y := ?y13) (p := ?p13) (b := ?b13) (v := ?v13) (by simp only [List.getElem?_toArray, List.getElem?_cons_succ, List.getElem?_cons_zero]; rfl) rfl ?hw13 ?hd13 ?hop13 ?hev13 ?hx13 ?hb13 ?htag13 (fun w1 hb1 => ?hy13) ?hn13; (case hw13 => rfl); (case hd13 => rfl); (case hop13 => rfl); (case hev13 => (simp only [Act.eval, Array.getD_eq_getD_getElem?, List.getElem?_toArray, List.getElem?_cons_succ, List.getElem?_cons_zero, Option.getD_some]; (try rfl))); (case hx13 => (simp only [Act.eval, Array.getD_eq_getD_getElem?, List.getElem?_toArray, List.getElem?_cons_succ, List.getElem?_cons_zero, Option.getD_some]; (try rfl))); (case hb13 => first | exact Bx.set_same _ _ _ | (simp only [Bx.set_same]; rfl)); (case hy13 => (go_simp; (try with_reducible rfl))); (try simp only [Act.put, List.setIfInBounds_toArray, List.set_cons_zero, List.set_cons_succ]))
      refine TD.nil (fun w2 hr => ?_)
      have kt := hr.mod.at kt (fun h => h)
      have kw := hr.mod.at kw (fun h => h)
      have kl := hr.mod.at kl (fun h => h)
      have kp7 := hr.mod.at kp7 (fun h => h)
      have kp8 := hr.box p8 _ (by first | exact Bx.set_same _ _ _ | (simp only [Bx.set_same]; rfl)); dsimp only [Value.cells] at kp8; obtain ⟨gp8, kp8⟩ := kp8
      have mm := mm.then0 hr.mod
      clear l2
      cases b with
      | false =>
        go_wp2_with (go_at_call 25; refine (alone_c al u1 hall hub1 _).mono ?_; rintro e w' ⟨rfl, hma⟩)
        go_roundw
        case rel => exact ⟨i + 1, by omega, by go_num, by rw [HN.out]; rfl, mm.then0 hma⟩
        case measure => simp [intOf]; omega
      | true =>
        go_wp2_with (go_at_call 25; refine (alone_c al u01 hall hob _).mono ?_; rintro e w' ⟨rfl, hma⟩)
        go_roundw
        case rel => exact ⟨i + 1, by omega, by go_num, by rw [HN.out]; rfl, mm.then0 hma⟩
        case measure => simp [intOf]; omega
    · obtain rfl : i = l.length := by omega
      rw [List.take_length] at *
      go_wp2
      go_ret
      exact ⟨rfl, hm⟩
end Go.Proofs.Ytleenmldlbccmaa
