/- The walk of the reference's Hits; what Blocks answer is the reference's answer. -/
import Derived.Test.YtleenmldlbccmaaBlk
namespace Go.Proofs.Ytleenmldlbccmaa
open Go.RowKit
open Go.ChangeMaps (setBlock)
set_option linter.unusedSimpArgs false
set_option linter.unusedVariables false
attribute [local go_sem ↓] wlKey wlRole wlSpot wlCounts wlBits ldKey ldRole ldSpot ldCounts ldBits stKey stRole stSpot stCounts stBits eqCounts eqBits eqKey1
attribute [local go_sem] eqBlk zKey_size zRole_size eqHeld cell_blk frozen_blk kc_ext rc_size rc_key rc_all rc_s rc_w rc_s' rc_w' rc_one sc_size sc_key sc_all sc_n sc_n' sc_one one_int one_bool one_ptr one_slice one_map zSpot_size kc_one kc_one0 Value.cells
def conflR (x y : Role) : Bool := decide (x.k = y.k) && (x.w || y.w)
def confl (a b : List Role) : Bool := a.any fun x => b.any (conflR x)
theorem ext_key {C : Array Value} {o : Nat} {k : Key} {s b : Bool} (h : C.extract o (o + 34) = rc k s b) : C.extract o (o + 32) = kc k := by
  have h1 := congrArg (fun A => A.extract 0 32) h
  rw [rc_key, Array.extract_extract] at h1
  rw [← h1]
  congr 1
  omega
theorem ext_w {C : Array Value} {o : Nat} {k : Key} {s b : Bool} (h : C.extract o (o + 34) = rc k s b) : C[o + 33]? = some (.bool b) := cellC h (rc_w k s b)
/-- What is noted of each key. -/
def BInv (m : List (Key × Bool)) (all : List Role) : Prop :=
  ∀ k, lkp k m = if all.any (fun r => decide (r.k = k)) then some (all.any fun r => decide (r.k = k) && r.w) else none
theorem BInv.nil : BInv [] [] := fun k => rfl
theorem BInv.add1 {m : List (Key × Bool)} {all : List Role} (h : BInv m all) (r : Role) : BInv (add1 m r) (all ++ [r]) := fun k => by
  unfold Go.Proofs.Ytleenmldlbccmaa.add1
  rw [lkp_put, h r.k, h k]
  by_cases hk : k = r.k
  · subst hk
    simp only [if_true, List.any_append, List.any_cons, List.any_nil, Bool.or_false, decide_true, Bool.or_true, Bool.true_and]
    congr 1
    by_cases h1 : all.any (fun x => decide (x.k = r.k)) = true
    · rw [if_pos h1]
      rfl
    · rw [if_neg h1]
      have h2 : all.any (fun x => decide (x.k = r.k) && x.w) = false := by
        rw [List.any_eq_false]
        intro x hx
        have : ¬ decide (x.k = r.k) = true := fun e => h1 (List.any_eq_true.2 ⟨x, hx, e⟩)
        simp [this]
      rw [h2]
      rfl
  · rw [if_neg hk]
    have : decide (r.k = k) = false := by simp; exact fun e => hk e.symm
    simp only [List.any_append, List.any_cons, List.any_nil, this, Bool.or_false, Bool.false_and]
theorem BInv.addB {m : List (Key × Bool)} {all : List Role} (h : BInv m all) : ∀ l : List Role, BInv (addB m l) (all ++ l) := by
  intro l
  induction l generalizing m all with
  | nil => simpa [Go.Proofs.Ytleenmldlbccmaa.addB] using h
  | cons r l ih =>
    have := ih (h.add1 r)
    simpa [Go.Proofs.Ytleenmldlbccmaa.addB] using this
theorem BInv.hits {m : List (Key × Bool)} {all : List Role} (h : BInv m all) (l : List Role) : hitsB m l = confl all l := by
  have key : ∀ y : Role, hitsR m y = all.any fun x => conflR x y := fun y => by
    unfold hitsR
    rw [h y.k]
    unfold conflR
    by_cases h1 : all.any (fun x => decide (x.k = y.k)) = true
    · rw [if_pos h1, Bool.eq_iff_iff]
      simp only [Bool.or_eq_true, List.any_eq_true, Bool.and_eq_true] at *
      constructor
      · rintro (⟨x, hx, e, hw⟩ | hw)
        · exact ⟨x, hx, e, .inl hw⟩
        · obtain ⟨x, hx, e⟩ := h1
          exact ⟨x, hx, e, .inr hw⟩
      · rintro ⟨x, hx, e, hw | hw⟩
        · exact .inl ⟨x, hx, e, hw⟩
        · exact .inr hw
    · rw [if_neg h1]
      symm
      rw [List.any_eq_false]
      intro x hx
      have : ¬ decide (x.k = y.k) = true := fun e => h1 (List.any_eq_true.2 ⟨x, hx, e⟩)
      rw [Bool.and_eq_true]
      exact fun e => this e.1
  unfold hitsB confl
  rw [Bool.eq_iff_iff]
  simp only [List.any_eq_true, key]
  constructor
  · rintro ⟨y, hy, x, hx, e⟩
    exact ⟨x, hx, y, hy, e⟩
  · rintro ⟨x, hx, y, hy, e⟩
    exact ⟨y, hy, x, hx, e⟩
set_option maxHeartbeats 3200000 in
theorem refHits_c (a1 a2 : Option Addr) (l1 l2 : List Role) (c1 c2 : Nat) (w : World) (hl1 : RolesAt w a1 l1) (hl2 : RolesAt w a2 l2) (hlen1 : l1.length ≤ 1000000) (hlen2 : l2.length ≤ 1000000) :
    Calls Try.prog 23 #[.slice a1 l1.length c1, .slice a2 l2.length c2] w fun e w' => e = .returned (.bool (confl l1 l2)) ∧ Mod (fun _ => False) w w' := by
  go_enter Try.func23, Try.ntmps23
  go_wp2_with fail
  go_loopw [5] (fun s5 wr => ∃ i : Nat, i ≤ l1.length ∧ s5 = .int .i64 i ∧ Hid (confl (l1.take i) l2 = false) ∧ Mod (fun _ => False) w wr) (fun s5 _ => l1.length - (intOf s5).toNat)
  case atStart => exact ⟨0, by omega, rfl, Lib.hid (by simp [confl]), Mod.refl _ _⟩
  case round =>
    obtain ⟨i, hi, rfl, HA, hm⟩ := hrel
    obtain ⟨wo, rfl⟩ : ∃ wo : World, wo = wr := ⟨_, rfl⟩
    by_cases hlt : i < l1.length
    · obtain ⟨x, hx0⟩ : ∃ r, l1[i]? = some r := ⟨_, List.getElem?_eq_getElem hlt⟩
      have HN : Hid (confl (l1.take (i + 1)) l2 = l2.any (conflR x)) := Lib.hid (by
        have h1 := any_take (fun x => l2.any (conflR x)) l1 hx0
        have h2 := HA.out
        unfold confl at *
        rw [h1, h2, Bool.false_or])
      go_wp2_with fail
      go_loopw [6] (fun s6 wr => ∃ j : Nat, j ≤ l2.length ∧ s6 = .int .i64 j ∧ Hid ((l2.take j).any (conflR x) = false) ∧ Mod (fun _ => False) w wr) (fun s6 _ => l2.length - (intOf s6).toNat)
      case atStart => exact ⟨0, by omega, rfl, Lib.hid (by simp), hm⟩
      case round =>
        clear hm
        obtain ⟨j, hj, rfl, HB, hm⟩ := hrel
        by_cases hlt2 : j < l2.length
        · obtain ⟨y, hy0⟩ : ∃ r, l2[j]? = some r := ⟨_, List.getElem?_eq_getElem hlt2⟩
          have HN2 : Hid ((l2.take (j + 1)).any (conflR x) = conflR x y) := Lib.hid (by
            have h1 := any_take (conflR x) l2 hy0
            rw [h1, HB.out, Bool.false_or])
          obtain ⟨b1, o1, C1, U1, fr1, rfl, kl1, hx1, hle1⟩ := (RolesAt.sl.1 (hl1.mod0 hm)).block hx0
          obtain ⟨b2, o2, C2, U2, fr2, rfl, kl2, hx2, hle2⟩ := (RolesAt.sl.1 (hl2.mod0 hm)).block hy0
          have e1 := ext_key hx1
          have e2 := ext_key hx2
          have g1 := ext_w hx1
          have g2 := ext_w hx2
          have d1 : o1 + i * 34 + 32 ≤ C1.size := by omega
          have d2 : o2 + j * 34 + 32 ≤ C2.size := by omega
          clear hx1 hx2 hle1 hle2 hl1 hl2 hx0 hy0
          obtain ⟨k1, s1, w1⟩ := x
          obtain ⟨k2, s2, w2⟩ := y
          dsimp only at e1 e2 g1 g2
          have HC : Hid (conflR ⟨k1, s1, w1⟩ ⟨k2, s2, w2⟩ = (decide (k1 = k2) && (w1 || w2))) := Lib.hid rfl
          by_cases hk : k1 = k2
          · subst hk
            cases w1 with
            | true =>
              go_upto_region 7 with fail
              have Lkl1 := lt_size kl1
              have Lkl2 := lt_size kl2
              refine wp_pass (C := fun _ _ _ => False) (κ := fun i => [0, 0, 0, 0, 1, 0, 0, 0, 0, 1, 0, 0, 0, 0, 0, 0, 1, 0, 0, 0, 0, 0, 1, 0, 0].getD i 0) [0, 1, 2, 3, 4, 5, 6, 7, 8, 9, 10, 11, 12, 13, 14, 15, 16, 17, 18, 19, 20, 21, 22, 23, 24] (by kernel_rfl) (by kernel_rfl) (fun _ _ d _ _ h => by cases d <;> exact h) ?_
              (refine TD.val0 (v := ?v1) (by simp only [List.getElem?_toArray, List.getElem?_cons_succ, List.getElem?_cons_zero]; rfl) rfl ?hw1 (fun w1 => ?hy1) ?hn1; (case hw1 => rfl); (case hy1 => (go_simp; (try with_reducible rfl))); (try simp only [Act.put, List.setIfInBounds_toArray, List.set_cons_zero, List.set_cons_succ]))
              (refine TD.val0 (v := ?v2) (by simp only [List.getElem?_toArray, List.getElem?_cons_succ, List.getElem?_cons_zero]; rfl) rfl ?hw2 (fun w1 => ?hy2) ?hn2; (case hw2 => rfl); (case hy2 => (go_simp; (try with_reducible rfl))); (try simp only [Act.put, List.setIfInBounds_toArray, List.set_cons_zero, List.set_cons_succ]))
              (refine TD.val0 (v := ?v3) (by simp only [List.getElem?_toArray, List.getElem?_cons_succ, List.getElem?_cons_zero]; rfl) rfl ?hw3 (fun w1 => ?hy3) ?hn3; (case hw3 => rfl); (case hy3 => (go_simp; (try with_reducible rfl))); (try simp only [Act.put, List.setIfInBounds_toArray, List.set_cons_zero, List.set_cons_succ]))
              (refine TD.val0 (v := ?v4) (by simp only [List.getElem?_toArray, List.getElem?_cons_succ, List.getElem?_cons_zero]; rfl) rfl ?hw4 (fun w1 => ?hy4) ?hn4; (case hw4 => rfl); (case hy4 => (go_simp; (try with_reducible rfl))); (try simp only [Act.put, List.setIfInBounds_toArray, List.set_cons_zero, List.set_cons_succ]))
              (refine TD.load (v := ?v5) (p := ?p5) (Mod.refl _ _) (by simp only [List.getElem?_toArray, List.getElem?_cons_succ, List.getElem?_cons_zero]; rfl) rfl ?hw5 rfl ?hx5 (fun wq hSq => ?hy5) ?hn5; (case hw5 => rfl); (case hx5 => (simp only [Act.eval, Array.getD_eq_getD_getElem?, List.getElem?_toArray, List.getElem?_cons_succ, List.getElem?_cons_zero, Option.getD_some]; (try rfl))); (case hy5 => (have kl1q := hSq.at kl1 (fun h => h); have kl2q := hSq.at kl2 (fun h => h); go_simp; (try with_reducible rfl))); (try simp only [Act.put, List.setIfInBounds_toArray, List.set_cons_zero, List.set_cons_succ]))
              (refine TD.val0 (v := ?v6) (by simp only [List.getElem?_toArray, List.getElem?_cons_succ, List.getElem?_cons_zero]; rfl) rfl ?hw6 (fun w1 => ?hy6) ?hn6; (case hw6 => rfl); (case hy6 => (go_simp; (try with_reducible rfl))); (try simp only [Act.put, List.setIfInBounds_toArray, List.set_cons_zero, List.set_cons_succ]))
              (refine TD.val0 (v := ?v7) (by simp only [List.getElem?_toArray, List.getElem?_cons_succ, List.getElem?_cons_zero]; rfl) rfl ?hw7 (fun w1 => ?hy7) ?hn7; (case hw7 => rfl); (case hy7 => (go_simp; (try with_reducible rfl))); (try simp only [Act.put, List.setIfInBounds_toArray, List.set_cons_zero, List.set_cons_succ]))
              (refine TD.val0 (v := ?v8) (by simp only [List.getElem?_toArray, List.getElem?_cons_succ, List.getElem?_cons_zero]; rfl) rfl ?hw8 (fun w1 => ?hy8) ?hn8; (case hw8 => rfl); (case hy8 => (go_simp; (try with_reducible rfl))); (try simp only [Act.put, List.setIfInBounds_toArray, List.set_cons_zero, List.set_cons_succ]))
              (refine TD.val0 (v := ?v9) (by simp only [List.getElem?_toArray, List.getElem?_cons_succ, List.getElem?_cons_zero]; rfl) rfl ?hw9 (fun w1 => ?hy9) ?hn9; (case hw9 => rfl); (case hy9 => (go_simp; (try with_reducible rfl))); (try simp only [Act.put, List.setIfInBounds_toArray, List.set_cons_zero, List.set_cons_succ]))
              (refine TD.load (v := ?v10) (p := ?p10) (Mod.refl _ _) (by simp only [List.getElem?_toArray, List.getElem?_cons_succ, List.getElem?_cons_zero]; rfl) rfl ?hw10 rfl ?hx10 (fun wq hSq => ?hy10) ?hn10; (case hw10 => rfl); (case hx10 => (simp only [Act.eval, Array.getD_eq_getD_getElem?, List.getElem?_toArray, List.getElem?_cons_succ, List.getElem?_cons_zero, Option.getD_some]; (try rfl))); (case hy10 => (have kl1q := hSq.at kl1 (fun h => h); have kl2q := hSq.at kl2 (fun h => h); go_simp; (try with_reducible rfl))); (try simp only [Act.put, List.setIfInBounds_toArray, List.set_cons_zero, List.set_cons_succ]))
              (refine TD.val0 (v := ?v11) (by simp only [List.getElem?_toArray, List.getElem?_cons_succ, List.getElem?_cons_zero]; rfl) rfl ?hw11 (fun w1 => ?hy11) ?hn11; (case hw11 => rfl); (case hy11 => (go_simp; (try with_reducible rfl))); (try simp only [Act.put, List.setIfInBounds_toArray, List.set_cons_zero, List.set_cons_succ]))
              (refine TD.val0 (v := ?v12) (by simp only [List.getElem?_toArray, List.getElem?_cons_succ, List.getElem?_cons_zero]; rfl) rfl ?hw12 (fun w1 => ?hy12) ?hn12; (case hw12 => rfl); (case hy12 => (go_simp; (try with_reducible rfl))); (try simp only [Act.put, List.setIfInBounds_toArray, List.set_cons_zero, List.set_cons_succ]))
              (refine TD.val0 (v := ?v13) (by simp only [List.getElem?_toArray, List.getElem?_cons_succ, List.getElem?_cons_zero]; rfl) rfl ?hw13 (fun w1 => ?hy13) ?hn13; (case hw13 => rfl); (case hy13 => (go_simp; (try with_reducible rfl))); (try simp only [Act.put, List.setIfInBounds_toArray, List.set_cons_zero, List.set_cons_succ]))
              (refine TD.val0 (v := ?v14) (by simp only [List.getElem?_toArray, List.getElem?_cons_succ, List.getElem?_cons_zero]; rfl) rfl ?hw14 (fun w1 => ?hy14) ?hn14; (case hw14 => rfl); (case hy14 => (go_simp; (try with_reducible rfl))); (try simp only [Act.put, List.setIfInBounds_toArray, List.set_cons_zero, List.set_cons_succ]))
              (refine TD.val0 (v := ?v15) (by simp only [List.getElem?_toArray, List.getElem?_cons_succ, List.getElem?_cons_zero]; rfl) rfl ?hw15 (fun w1 => ?hy15) ?hn15; (case hw15 => rfl); (case hy15 => (go_simp; (try with_reducible rfl))); (try simp only [Act.put, List.setIfInBounds_toArray, List.set_cons_zero, List.set_cons_succ]))
              (refine TD.val0 (v := ?v16) (by simp only [List.getElem?_toArray, List.getElem?_cons_succ, List.getElem?_cons_zero]; rfl) rfl ?hw16 (fun w1 => ?hy16) ?hn16; (case hw16 => rfl); (case hy16 => (go_simp; (try with_reducible rfl))); (try simp only [Act.put, List.setIfInBounds_toArray, List.set_cons_zero, List.set_cons_succ]))
              (refine TD.load (v := ?v17) (p := ?p17) (Mod.refl _ _) (by simp only [List.getElem?_toArray, List.getElem?_cons_succ, List.getElem?_cons_zero]; rfl) rfl ?hw17 rfl ?hx17 (fun wq hSq => ?hy17) ?hn17; (case hw17 => rfl); (case hx17 => (simp only [Act.eval, Array.getD_eq_getD_getElem?, List.getElem?_toArray, List.getElem?_cons_succ, List.getElem?_cons_zero, Option.getD_some]; (try rfl))); (case hy17 => (have kl1q := hSq.at kl1 (fun h => h); have kl2q := hSq.at kl2 (fun h => h); go_simp; (try with_reducible rfl))); (try simp only [Act.put, List.setIfInBounds_toArray, List.set_cons_zero, List.set_cons_succ]))
              (refine TD.val0 (v := ?v18) (by simp only [List.getElem?_toArray, List.getElem?_cons_succ, List.getElem?_cons_zero]; rfl) rfl ?hw18 (fun w1 => ?hy18) ?hn18; (case hw18 => rfl); (case hy18 => (go_simp; (try with_reducible rfl))); (try simp only [Act.put, List.setIfInBounds_toArray, List.set_cons_zero, List.set_cons_succ]))
              (refine TD.pass (by simp only [List.getElem?_toArray, List.getElem?_cons_succ, List.getElem?_cons_zero]; rfl) rfl ?hw19 ?hn19; (case hw19 => rfl); (try simp only [Act.put, List.setIfInBounds_toArray, List.set_cons_zero, List.set_cons_succ]))
              (refine TD.pass (by simp only [List.getElem?_toArray, List.getElem?_cons_succ, List.getElem?_cons_zero]; rfl) rfl ?hw20 ?hn20; (case hw20 => rfl); (try simp only [Act.put, List.setIfInBounds_toArray, List.set_cons_zero, List.set_cons_succ]))
              (refine TD.pass (by simp only [List.getElem?_toArray, List.getElem?_cons_succ, List.getElem?_cons_zero]; rfl) rfl ?hw21 ?hn21; (case hw21 => rfl); (try simp only [Act.put, List.setIfInBounds_toArray, List.set_cons_zero, List.set_cons_succ]))
              (refine TD.pass (by simp only [List.getElem?_toArray, List.getElem?_cons_succ, List.getElem?_cons_zero]; rfl) rfl ?hw22 ?hn22; (case hw22 => rfl); (try simp only [Act.put, List.setIfInBounds_toArray, List.set_cons_zero, List.set_cons_succ]))
              (refine TD.pass1 (by simp only [List.getElem?_toArray, List.getElem?_cons_succ, List.getElem?_cons_zero]; rfl) rfl ?hw23 ?hn23; (case hw23 => rfl); (try simp only [Act.put, List.setIfInBounds_toArray, List.set_cons_zero, List.set_cons_succ]))
              (refine TD.val0 (v := ?v24) (by simp only [List.getElem?_toArray, List.getElem?_cons_succ, List.getElem?_cons_zero]; rfl) rfl ?hw24 (fun w1 => ?hy24) ?hn24; (case hw24 => rfl); (case hy24 => (go_simp; (try with_reducible rfl))); (try simp only [Act.put, List.setIfInBounds_toArray, List.set_cons_zero, List.set_cons_succ]))
              (refine TD.val0 (v := ?v25) (by simp only [List.getElem?_toArray, List.getElem?_cons_succ, List.getElem?_cons_zero]; rfl) rfl ?hw25 (fun w1 => ?hy25) ?hn25; (case hw25 => rfl); (case hy25 => (go_simp; (try with_reducible rfl))); (try simp only [Act.put, List.setIfInBounds_toArray, List.set_cons_zero, List.set_cons_succ]))
              refine TD.nil (fun w3 hr => ?_)
              have kl1 := hr.mod.at kl1 (fun h => h)
              have kl2 := hr.mod.at kl2 (fun h => h)
              have mm := hm.then0 hr.mod
              go_wp2_with fail
              go_ret
              exact ⟨by rw [show confl l1 l2 = true from any_of_take (by rw [show ((l1.take (i + 1)).any fun x => l2.any (conflR x)) = _ from HN.out]; exact any_of_take (by rw [HN2.out, HC.out]; simp))]; rfl, mm⟩
            | false =>
              go_upto_region 7 with fail
              have Lkl1 := lt_size kl1
              have Lkl2 := lt_size kl2
              refine wp_pass (C := fun _ _ _ => False) (κ := fun i => [0, 0, 0, 0, 1, 0, 0, 0, 0, 1, 0, 0, 0, 0, 0, 0, 1, 0, 0, 0, 0, 0, 1, 0, 0].getD i 0) [0, 1, 2, 3, 4, 5, 6, 7, 8, 9, 10, 11, 12, 13, 14, 15, 16, 17, 18, 19, 20, 21, 22, 23, 24] (by kernel_rfl) (by kernel_rfl) (fun _ _ d _ _ h => by cases d <;> exact h) ?_
              (refine TD.val0 (v := ?v26) (by simp only [List.getElem?_toArray, List.getElem?_cons_succ, List.getElem?_cons_zero]; rfl) rfl ?hw26 (fun w1 => ?hy26) ?hn26; (case hw26 => rfl); (case hy26 => (go_simp; (try with_reducible rfl))); (try simp only [Act.put, List.setIfInBounds_toArray, List.set_cons_zero, List.set_cons_succ]))
              (refine TD.val0 (v := ?v27) (by simp only [List.getElem?_toArray, List.getElem?_cons_succ, List.getElem?_cons_zero]; rfl) rfl ?hw27 (fun w1 => ?hy27) ?hn27; (case hw27 => rfl); (case hy27 => (go_simp; (try with_reducible rfl))); (try simp only [Act.put, List.setIfInBounds_toArray, List.set_cons_zero, List.set_cons_succ]))
              (refine TD.val0 (v := ?v28) (by simp only [List.getElem?_toArray, List.getElem?_cons_succ, List.getElem?_cons_zero]; rfl) rfl ?hw28 (fun w1 => ?hy28) ?hn28; (case hw28 => rfl); (case hy28 => (go_simp; (try with_reducible rfl))); (try simp only [Act.put, List.setIfInBounds_toArray, List.set_cons_zero, List.set_cons_succ]))
              (refine TD.val0 (v := ?v29) (by simp only [List.getElem?_toArray, List.getElem?_cons_succ, List.getElem?_cons_zero]; rfl) rfl ?hw29 (fun w1 => ?hy29) ?hn29; (case hw29 => rfl); (case hy29 => (go_simp; (try with_reducible rfl))); (try simp only [Act.put, List.setIfInBounds_toArray, List.set_cons_zero, List.set_cons_succ]))
              (refine TD.load (v := ?v30) (p := ?p30) (Mod.refl _ _) (by simp only [List.getElem?_toArray, List.getElem?_cons_succ, List.getElem?_cons_zero]; rfl) rfl ?hw30 rfl ?hx30 (fun wq hSq => ?hy30) ?hn30; (case hw30 => rfl); (case hx30 => (simp only [Act.eval, Array.getD_eq_getD_getElem?, List.getElem?_toArray, List.getElem?_cons_succ, List.getElem?_cons_zero, Option.getD_some]; (try rfl))); (case hy30 => (have kl1q := hSq.at kl1 (fun h => h); have kl2q := hSq.at kl2 (fun h => h); go_simp; (try with_reducible rfl))); (try simp only [Act.put, List.setIfInBounds_toArray, List.set_cons_zero, List.set_cons_succ]))
              (refine TD.val0 (v := ?v31) (by simp only [List.getElem?_toArray, List.getElem?_cons_succ, List.getElem?_cons_zero]; rfl) rfl ?hw31 (fun w1 => ?hy31) ?hn31; (case hw31 => rfl); (case hy31 => (go_simp; (try with_reducible rfl))); (try simp only [Act.put, List.setIfInBounds_toArray, List.set_cons_zero, List.set_cons_succ]))
              (refine TD.val0 (v := ?v32) (by simp only [List.getElem?_toArray, List.getElem?_cons_succ, List.getElem?_cons_zero]; rfl) rfl ?hw32 (fun w1 => ?hy32) ?hn32; (case hw32 => rfl); (case hy32 => (go_simp; (try with_reducible rfl))); (try simp only [Act.put, List.setIfInBounds_toArray, List.set_cons_zero, List.set_cons_succ]))
              (refine TD.val0 (v := ?v33) (by simp only [List.getElem?_toArray, List.getElem?_cons_succ, List.getElem?_cons_zero]; rfl) rfl ?hw33 (fun w1 => ?hy33) ?hn33; (case hw33 => rfl); (case hy33 => (go_simp; (try with_reducible rfl))); (try simp only [Act.put, List.setIfInBounds_toArray, List.set_cons_zero, List.set_cons_succ]))
              (refine TD.val0 (v := ?v34) (by simp only [List.getElem?_toArray, List.getElem?_cons_succ, List.getElem?_cons_zero]; rfl) rfl ?hw34 (fun w1 => ?hy34) ?hn34; (case hw34 => rfl); (case hy34 => (go_simp; (try with_reducible rfl))); (try simp only [Act.put, List.setIfInBounds_toArray, List.set_cons_zero, List.set_cons_succ]))
              (refine TD.load (v := ?v35) (p := ?p35) (Mod.refl _ _) (by simp only [List.getElem?_toArray, List.getElem?_cons_succ, List.getElem?_cons_zero]; rfl) rfl ?hw35 rfl ?hx35 (fun wq hSq => ?hy35) ?hn35; (case hw35 => rfl); (case hx35 => (simp only [Act.eval, Array.getD_eq_getD_getElem?, List.getElem?_toArray, List.getElem?_cons_succ, List.getElem?_cons_zero, Option.getD_some]; (try rfl))); (case hy35 => (have kl1q := hSq.at kl1 (fun h => h); have kl2q := hSq.at kl2 (fun h => h); go_simp; (try with_reducible rfl))); (try simp only [Act.put, List.setIfInBounds_toArray, List.set_cons_zero, List.set_cons_succ]))
              (refine TD.val0 (v := ?v36) (by simp only [List.getElem?_toArray, List.getElem?_cons_succ, List.getElem?_cons_zero]; rfl) rfl ?hw36 (fun w1 => ?hy36) ?hn36; (case hw36 => rfl); (case hy36 => (go_simp; (try with_reducible rfl))); (try simp only [Act.put, List.setIfInBounds_toArray, List.set_cons_zero, List.set_cons_succ]))
              (refine TD.val0 (v := ?v37) (by simp only [List.getElem?_toArray, List.getElem?_cons_succ, List.getElem?_cons_zero]; rfl) rfl ?hw37 (fun w1 => ?hy37) ?hn37; (case hw37 => rfl); (case hy37 => (go_simp; (try with_reducible rfl))); (try simp only [Act.put, List.setIfInBounds_toArray, List.set_cons_zero, List.set_cons_succ]))
              (refine TD.val0 (v := ?v38) (by simp only [List.getElem?_toArray, List.getElem?_cons_succ, List.getElem?_cons_zero]; rfl) rfl ?hw38 (fun w1 => ?hy38) ?hn38; (case hw38 => rfl); (case hy38 => (go_simp; (try with_reducible rfl))); (try simp only [Act.put, List.setIfInBounds_toArray, List.set_cons_zero, List.set_cons_succ]))
              (refine TD.val0 (v := ?v39) (by simp only [List.getElem?_toArray, List.getElem?_cons_succ, List.getElem?_cons_zero]; rfl) rfl ?hw39 (fun w1 => ?hy39) ?hn39; (case hw39 => rfl); (case hy39 => (go_simp; (try with_reducible rfl))); (try simp only [Act.put, List.setIfInBounds_toArray, List.set_cons_zero, List.set_cons_succ]))
              (refine TD.val0 (v := ?v40) (by simp only [List.getElem?_toArray, List.getElem?_cons_succ, List.getElem?_cons_zero]; rfl) rfl ?hw40 (fun w1 => ?hy40) ?hn40; (case hw40 => rfl); (case hy40 => (go_simp; (try with_reducible rfl))); (try simp only [Act.put, List.setIfInBounds_toArray, List.set_cons_zero, List.set_cons_succ]))
              (refine TD.val0 (v := ?v41) (by simp only [List.getElem?_toArray, List.getElem?_cons_succ, List.getElem?_cons_zero]; rfl) rfl ?hw41 (fun w1 => ?hy41) ?hn41; (case hw41 => rfl); (case hy41 => (go_simp; (try with_reducible rfl))); (try simp only [Act.put, List.setIfInBounds_toArray, List.set_cons_zero, List.set_cons_succ]))
              (refine TD.load (v := ?v42) (p := ?p42) (Mod.refl _ _) (by simp only [List.getElem?_toArray, List.getElem?_cons_succ, List.getElem?_cons_zero]; rfl) rfl ?hw42 rfl ?hx42 (fun wq hSq => ?hy42) ?hn42; (case hw42 => rfl); (case hx42 => (simp only [Act.eval, Array.getD_eq_getD_getElem?, List.getElem?_toArray, List.getElem?_cons_succ, List.getElem?_cons_zero, Option.getD_some]; (try rfl))); (case hy42 => (have kl1q := hSq.at kl1 (fun h => h); have kl2q := hSq.at kl2 (fun h => h); go_simp; (try with_reducible rfl))); (try simp only [Act.put, List.setIfInBounds_toArray, List.set_cons_zero, List.set_cons_succ]))
              (refine TD.val0 (v := ?v43) (by simp only [List.getElem?_toArray, List.getElem?_cons_succ, List.getElem?_cons_zero]; rfl) rfl ?hw43 (fun w1 => ?hy43) ?hn43; (case hw43 => rfl); (case hy43 => (go_simp; (try with_reducible rfl))); (try simp only [Act.put, List.setIfInBounds_toArray, List.set_cons_zero, List.set_cons_succ]))
              (refine TD.val0 (v := ?v44) (by simp only [List.getElem?_toArray, List.getElem?_cons_succ, List.getElem?_cons_zero]; rfl) rfl ?hw44 (fun w1 => ?hy44) ?hn44; (case hw44 => rfl); (case hy44 => (go_simp; (try with_reducible rfl))); (try simp only [Act.put, List.setIfInBounds_toArray, List.set_cons_zero, List.set_cons_succ]))
              (refine TD.val0 (v := ?v45) (by simp only [List.getElem?_toArray, List.getElem?_cons_succ, List.getElem?_cons_zero]; rfl) rfl ?hw45 (fun w1 => ?hy45) ?hn45; (case hw45 => rfl); (case hy45 => (go_simp; (try with_reducible rfl))); (try simp only [Act.put, List.setIfInBounds_toArray, List.set_cons_zero, List.set_cons_succ]))
              (refine TD.val0 (v := ?v46) (by simp only [List.getElem?_toArray, List.getElem?_cons_succ, List.getElem?_cons_zero]; rfl) rfl ?hw46 (fun w1 => ?hy46) ?hn46; (case hw46 => rfl); (case hy46 => (go_simp; (try with_reducible rfl))); (try simp only [Act.put, List.setIfInBounds_toArray, List.set_cons_zero, List.set_cons_succ]))
              (refine TD.val0 (v := ?v47) (by simp only [List.getElem?_toArray, List.getElem?_cons_succ, List.getElem?_cons_zero]; rfl) rfl ?hw47 (fun w1 => ?hy47) ?hn47; (case hw47 => rfl); (case hy47 => (go_simp; (try with_reducible rfl))); (try simp only [Act.put, List.setIfInBounds_toArray, List.set_cons_zero, List.set_cons_succ]))
              (refine TD.load (v := ?v48) (p := ?p48) (Mod.refl _ _) (by simp only [List.getElem?_toArray, List.getElem?_cons_succ, List.getElem?_cons_zero]; rfl) rfl ?hw48 rfl ?hx48 (fun wq hSq => ?hy48) ?hn48; (case hw48 => rfl); (case hx48 => (simp only [Act.eval, Array.getD_eq_getD_getElem?, List.getElem?_toArray, List.getElem?_cons_succ, List.getElem?_cons_zero, Option.getD_some]; (try rfl))); (case hy48 => (have kl1q := hSq.at kl1 (fun h => h); have kl2q := hSq.at kl2 (fun h => h); go_simp; (try with_reducible rfl))); (try simp only [Act.put, List.setIfInBounds_toArray, List.set_cons_zero, List.set_cons_succ]))
              (refine TD.val0 (v := ?v49) (by simp only [List.getElem?_toArray, List.getElem?_cons_succ, List.getElem?_cons_zero]; rfl) rfl ?hw49 (fun w1 => ?hy49) ?hn49; (case hw49 => rfl); (case hy49 => (go_simp; (try with_reducible rfl))); (try simp only [Act.put, List.setIfInBounds_toArray, List.set_cons_zero, List.set_cons_succ]))
              (refine TD.val0 (v := ?v50) (by simp only [List.getElem?_toArray, List.getElem?_cons_succ, List.getElem?_cons_zero]; rfl) rfl ?hw50 (fun w1 => ?hy50) ?hn50; (case hw50 => rfl); (case hy50 => (go_simp; (try with_reducible rfl))); (try simp only [Act.put, List.setIfInBounds_toArray, List.set_cons_zero, List.set_cons_succ]))
              refine TD.nil (fun w3 hr => ?_)
              have kl1 := hr.mod.at kl1 (fun h => h)
              have kl2 := hr.mod.at kl2 (fun h => h)
              have mm := hm.then0 hr.mod
              cases w2 with
              | true =>
                go_wp2_with fail
                go_ret
                exact ⟨by rw [show confl l1 l2 = true from any_of_take (by rw [show ((l1.take (i + 1)).any fun x => l2.any (conflR x)) = _ from HN.out]; exact any_of_take (by rw [HN2.out, HC.out]; simp))]; rfl, mm⟩
              | false =>
                go_wp2_with fail
                go_roundw
                case rel => exact ⟨j + 1, by omega, by go_num, Lib.hid (by rw [HN2.out, HC.out]; simp), mm⟩
                case measure => simp [intOf]; omega
          · go_upto_region 7 with fail
            have Lkl1 := lt_size kl1
            have Lkl2 := lt_size kl2
            refine wp_pass (C := fun _ _ _ => False) (κ := fun i => [0, 0, 0, 0, 1, 0, 0, 0, 0, 1, 0, 0, 0, 0, 0, 0, 1, 0, 0, 0, 0, 0, 1, 0, 0].getD i 0) [0, 1, 2, 3, 4, 5, 6, 7, 8, 9, 10, 11, 12, 13, 14, 15, 16, 17, 18, 19, 20, 21, 22, 23, 24] (by kernel_rfl) (by kernel_rfl) (fun _ _ d _ _ h => by cases d <;> exact h) ?_
            (refine TD.val0 (v := ?v51) (by simp only [List.getElem?_toArray, List.getElem?_cons_succ, List.getElem?_cons_zero]; rfl) rfl ?hw51 (fun w1 => ?hy51) ?hn51; (case hw51 => rfl); (case hy51 => (go_simp; (try with_reducible rfl))); (try simp only [Act.put, List.setIfInBounds_toArray, List.set_cons_zero, List.set_cons_succ]))
            (refine TD.val0 (v := ?v52) (by simp only [List.getElem?_toArray, List.getElem?_cons_succ, List.getElem?_cons_zero]; rfl) rfl ?hw52 (fun w1 => ?hy52) ?hn52; (case hw52 => rfl); (case hy52 => (go_simp; (try with_reducible rfl))); (try simp only [Act.put, List.setIfInBounds_toArray, List.set_cons_zero, List.set_cons_succ]))
            (refine TD.val0 (v := ?v53) (by simp only [List.getElem?_toArray, List.getElem?_cons_succ, List.getElem?_cons_zero]; rfl) rfl ?hw53 (fun w1 => ?hy53) ?hn53; (case hw53 => rfl); (case hy53 => (go_simp; (try with_reducible rfl))); (try simp only [Act.put, List.setIfInBounds_toArray, List.set_cons_zero, List.set_cons_succ]))
            (refine TD.val0 (v := ?v54) (by simp only [List.getElem?_toArray, List.getElem?_cons_succ, List.getElem?_cons_zero]; rfl) rfl ?hw54 (fun w1 => ?hy54) ?hn54; (case hw54 => rfl); (case hy54 => (go_simp; (try with_reducible rfl))); (try simp only [Act.put, List.setIfInBounds_toArray, List.set_cons_zero, List.set_cons_succ]))
            (refine TD.load (v := ?v55) (p := ?p55) (Mod.refl _ _) (by simp only [List.getElem?_toArray, List.getElem?_cons_succ, List.getElem?_cons_zero]; rfl) rfl ?hw55 rfl ?hx55 (fun wq hSq => ?hy55) ?hn55; (case hw55 => rfl); (case hx55 => (simp only [Act.eval, Array.getD_eq_getD_getElem?, List.getElem?_toArray, List.getElem?_cons_succ, List.getElem?_cons_zero, Option.getD_some]; (try rfl))); (case hy55 => (have kl1q := hSq.at kl1 (fun h => h); have kl2q := hSq.at kl2 (fun h => h); go_simp; (try with_reducible rfl))); (try simp only [Act.put, List.setIfInBounds_toArray, List.set_cons_zero, List.set_cons_succ]))
            (refine TD.val0 (v := ?v56) (by simp only [List.getElem?_toArray, List.getElem?_cons_succ, List.getElem?_cons_zero]; rfl) rfl ?hw56 (fun w1 => ?hy56) ?hn56; (case hw56 => rfl); (case hy56 => (go_simp; (try with_reducible rfl))); (try simp only [Act.put, List.setIfInBounds_toArray, List.set_cons_zero, List.set_cons_succ]))
            (refine TD.val0 (v := ?v57) (by simp only [List.getElem?_toArray, List.getElem?_cons_succ, List.getElem?_cons_zero]; rfl) rfl ?hw57 (fun w1 => ?hy57) ?hn57; (case hw57 => rfl); (case hy57 => (go_simp; (try with_reducible rfl))); (try simp only [Act.put, List.setIfInBounds_toArray, List.set_cons_zero, List.set_cons_succ]))
            (refine TD.val0 (v := ?v58) (by simp only [List.getElem?_toArray, List.getElem?_cons_succ, List.getElem?_cons_zero]; rfl) rfl ?hw58 (fun w1 => ?hy58) ?hn58; (case hw58 => rfl); (case hy58 => (go_simp; (try with_reducible rfl))); (try simp only [Act.put, List.setIfInBounds_toArray, List.set_cons_zero, List.set_cons_succ]))
            (refine TD.val0 (v := ?v59) (by simp only [List.getElem?_toArray, List.getElem?_cons_succ, List.getElem?_cons_zero]; rfl) rfl ?hw59 (fun w1 => ?hy59) ?hn59; (case hw59 => rfl); (case hy59 => (go_simp; (try with_reducible rfl))); (try simp only [Act.put, List.setIfInBounds_toArray, List.set_cons_zero, List.set_cons_succ]))
            (refine TD.load (v := ?v60) (p := ?p60) (Mod.refl _ _) (by simp only [List.getElem?_toArray, List.getElem?_cons_succ, List.getElem?_cons_zero]; rfl) rfl ?hw60 rfl ?hx60 (fun wq hSq => ?hy60) ?hn60; (case hw60 => rfl); (case hx60 => (simp only [Act.eval, Array.getD_eq_getD_getElem?, List.getElem?_toArray, List.getElem?_cons_succ, List.getElem?_cons_zero, Option.getD_some]; (try rfl))); (case hy60 => (have kl1q := hSq.at kl1 (fun h => h); have kl2q := hSq.at kl2 (fun h => h); go_simp; (try with_reducible rfl))); (try simp only [Act.put, List.setIfInBounds_toArray, List.set_cons_zero, List.set_cons_succ]))
            (refine TD.val0 (v := ?v61) (by simp only [List.getElem?_toArray, List.getElem?_cons_succ, List.getElem?_cons_zero]; rfl) rfl ?hw61 (fun w1 => ?hy61) ?hn61; (case hw61 => rfl); (case hy61 => (go_simp; (try with_reducible rfl))); (try simp only [Act.put, List.setIfInBounds_toArray, List.set_cons_zero, List.set_cons_succ]))
            (refine TD.val0 (v := ?v62) (by simp only [List.getElem?_toArray, List.getElem?_cons_succ, List.getElem?_cons_zero]; rfl) rfl ?hw62 (fun w1 => ?hy62) ?hn62; (case hw62 => rfl); (case hy62 => (go_simp; (try with_reducible rfl))); (try simp only [Act.put, List.setIfInBounds_toArray, List.set_cons_zero, List.set_cons_succ]))
            (refine TD.pass (by simp only [List.getElem?_toArray, List.getElem?_cons_succ, List.getElem?_cons_zero]; rfl) rfl ?hw63 ?hn63; (case hw63 => rfl); (try simp only [Act.put, List.setIfInBounds_toArray, List.set_cons_zero, List.set_cons_succ]))
            (refine TD.pass (by simp only [List.getElem?_toArray, List.getElem?_cons_succ, List.getElem?_cons_zero]; rfl) rfl ?hw64 ?hn64; (case hw64 => rfl); (try simp only [Act.put, List.setIfInBounds_toArray, List.set_cons_zero, List.set_cons_succ]))
            (refine TD.pass (by simp only [List.getElem?_toArray, List.getElem?_cons_succ, List.getElem?_cons_zero]; rfl) rfl ?hw65 ?hn65; (case hw65 => rfl); (try simp only [Act.put, List.setIfInBounds_toArray, List.set_cons_zero, List.set_cons_succ]))
            (refine TD.pass (by simp only [List.getElem?_toArray, List.getElem?_cons_succ, List.getElem?_cons_zero]; rfl) rfl ?hw66 ?hn66; (case hw66 => rfl); (try simp only [Act.put, List.setIfInBounds_toArray, List.set_cons_zero, List.set_cons_succ]))
            (refine TD.pass1 (by simp only [List.getElem?_toArray, List.getElem?_cons_succ, List.getElem?_cons_zero]; rfl) rfl ?hw67 ?hn67; (case hw67 => rfl); (try simp only [Act.put, List.setIfInBounds_toArray, List.set_cons_zero, List.set_cons_succ]))
            (refine TD.pass (by simp only [List.getElem?_toArray, List.getElem?_cons_succ, List.getElem?_cons_zero]; rfl) rfl ?hw68 ?hn68; (case hw68 => rfl); (try simp only [Act.put, List.setIfInBounds_toArray, List.set_cons_zero, List.set_cons_succ]))
            (refine TD.pass (by simp only [List.getElem?_toArray, List.getElem?_cons_succ, List.getElem?_cons_zero]; rfl) rfl ?hw69 ?hn69; (case hw69 => rfl); (try simp only [Act.put, List.setIfInBounds_toArray, List.set_cons_zero, List.set_cons_succ]))
            (refine TD.pass (by simp only [List.getElem?_toArray, List.getElem?_cons_succ, List.getElem?_cons_zero]; rfl) rfl ?hw70 ?hn70; (case hw70 => rfl); (try simp only [Act.put, List.setIfInBounds_toArray, List.set_cons_zero, List.set_cons_succ]))
            (refine TD.pass (by simp only [List.getElem?_toArray, List.getElem?_cons_succ, List.getElem?_cons_zero]; rfl) rfl ?hw71 ?hn71; (case hw71 => rfl); (try simp only [Act.put, List.setIfInBounds_toArray, List.set_cons_zero, List.set_cons_succ]))
            (refine TD.pass (by simp only [List.getElem?_toArray, List.getElem?_cons_succ, List.getElem?_cons_zero]; rfl) rfl ?hw72 ?hn72; (case hw72 => rfl); (try simp only [Act.put, List.setIfInBounds_toArray, List.set_cons_zero, List.set_cons_succ]))
            (refine TD.pass1 (by simp only [List.getElem?_toArray, List.getElem?_cons_succ, List.getElem?_cons_zero]; rfl) rfl ?hw73 ?hn73; (case hw73 => rfl); (try simp only [Act.put, List.setIfInBounds_toArray, List.set_cons_zero, List.set_cons_succ]))
            (refine TD.pass (by simp only [List.getElem?_toArray, List.getElem?_cons_succ, List.getElem?_cons_zero]; rfl) rfl ?hw74 ?hn74; (case hw74 => rfl); (try simp only [Act.put, List.setIfInBounds_toArray, List.set_cons_zero, List.set_cons_succ]))
            (refine TD.val0 (v := ?v75) (by simp only [List.getElem?_toArray, List.getElem?_cons_succ, List.getElem?_cons_zero]; rfl) rfl ?hw75 (fun w1 => ?hy75) ?hn75; (case hw75 => rfl); (case hy75 => (go_simp; (try with_reducible rfl))); (try simp only [Act.put, List.setIfInBounds_toArray, List.set_cons_zero, List.set_cons_succ]))
            refine TD.nil (fun w3 hr => ?_)
            have kl1 := hr.mod.at kl1 (fun h => h)
            have kl2 := hr.mod.at kl2 (fun h => h)
            have mm := hm.then0 hr.mod
            go_wp2_with fail
            go_roundw
            case rel => exact ⟨j + 1, by omega, by go_num, Lib.hid (by rw [HN2.out, HC.out]; simp [hk]), mm⟩
            case measure => simp [intOf]; omega
        · obtain rfl : j = l2.length := by omega
          have HB2 : Hid (l2.any (conflR x) = false) := Lib.hid (by have := HB.out; rwa [List.take_length] at this)
          go_wp2_with fail
          go_roundw
          case rel => exact ⟨i + 1, by omega, by go_num, Lib.hid (by rw [HN.out, HB2.out]), hm⟩
          case measure => simp [intOf]; omega
    · obtain rfl : i = l1.length := by omega
      go_wp2_with fail
      go_ret
      have := HA.out
      rw [List.take_length] at this
      exact ⟨by rw [this]; rfl, hm⟩
set_option maxHeartbeats 3200000 in
theorem conflict_c (a1 a2 : Option Addr) (l1 l2 : List Role) (c1 c2 : Nat) (w : World) (hl1 : RolesAt w a1 l1) (hl2 : RolesAt w a2 l2) (hlen1 : l1.length ≤ 1000000) (hlen2 : l2.length ≤ 1000000) :
    Calls Try.prog 20 #[.slice a1 l1.length c1, .slice a2 l2.length c2] w fun e w' => e = .returned (.bool (confl l1 l2)) ∧ Mod (fun _ => False) w w' := by
  go_enter Try.func20, Try.ntmps20
  go_wp2_with fail
  go_loopw [5] (fun s5 wr => ∃ i : Nat, i ≤ l1.length ∧ s5 = .int .i64 i ∧ Hid (confl (l1.take i) l2 = false) ∧ Mod (fun _ => False) w wr) (fun s5 _ => l1.length - (intOf s5).toNat)
  case atStart => exact ⟨0, by omega, rfl, Lib.hid (by simp [confl]), Mod.refl _ _⟩
  case round =>
    obtain ⟨i, hi, rfl, HA, hm⟩ := hrel
    obtain ⟨wo, rfl⟩ : ∃ wo : World, wo = wr := ⟨_, rfl⟩
    by_cases hlt : i < l1.length
    · obtain ⟨x, hx0⟩ : ∃ r, l1[i]? = some r := ⟨_, List.getElem?_eq_getElem hlt⟩
      have HN : Hid (confl (l1.take (i + 1)) l2 = l2.any (conflR x)) := Lib.hid (by
        have h1 := any_take (fun x => l2.any (conflR x)) l1 hx0
        have h2 := HA.out
        unfold confl at *
        rw [h1, h2, Bool.false_or])
      go_wp2_with fail
      go_loopw [6] (fun s6 wr => ∃ j : Nat, j ≤ l2.length ∧ s6 = .int .i64 j ∧ Hid ((l2.take j).any (conflR x) = false) ∧ Mod (fun _ => False) w wr) (fun s6 _ => l2.length - (intOf s6).toNat)
      case atStart => exact ⟨0, by omega, rfl, Lib.hid (by simp), hm⟩
      case round =>
        clear hm
        obtain ⟨j, hj, rfl, HB, hm⟩ := hrel
        by_cases hlt2 : j < l2.length
        · obtain ⟨y, hy0⟩ : ∃ r, l2[j]? = some r := ⟨_, List.getElem?_eq_getElem hlt2⟩
          have HN2 : Hid ((l2.take (j + 1)).any (conflR x) = conflR x y) := Lib.hid (by
            have h1 := any_take (conflR x) l2 hy0
            rw [h1, HB.out, Bool.false_or])
          obtain ⟨b1, o1, C1, U1, fr1, rfl, kl1, hx1, hle1⟩ := (RolesAt.sl.1 (hl1.mod0 hm)).block hx0
          obtain ⟨b2, o2, C2, U2, fr2, rfl, kl2, hx2, hle2⟩ := (RolesAt.sl.1 (hl2.mod0 hm)).block hy0
          have e1 := ext_key hx1
          have e2 := ext_key hx2
          have g1 := ext_w hx1
          have g2 := ext_w hx2
          have d1 : o1 + i * 34 + 32 ≤ C1.size := by omega
          have d2 : o2 + j * 34 + 32 ≤ C2.size := by omega
          clear hx1 hx2 hle1 hle2 hl1 hl2 hx0 hy0
          obtain ⟨k1, s1, w1⟩ := x
          obtain ⟨k2, s2, w2⟩ := y
          dsimp only at e1 e2 g1 g2
          have HC : Hid (conflR ⟨k1, s1, w1⟩ ⟨k2, s2, w2⟩ = (decide (k1 = k2) && (w1 || w2))) := Lib.hid rfl
          by_cases hk : k1 = k2
          · subst hk
            cases w1 with
            | true =>
              go_upto_region 7 with fail
              have Lkl1 := lt_size kl1
              have Lkl2 := lt_size kl2
              refine wp_pass (C := fun _ _ _ => False) (κ := fun i => [0, 0, 0, 0, 1, 0, 0, 0, 0, 1, 0, 0, 0, 0, 0, 0, 1, 0, 0, 0, 0, 0, 1, 0, 0].getD i 0) [0, 1, 2, 3, 4, 5, 6, 7, 8, 9, 10, 11, 12, 13, 14, 15, 16, 17, 18, 19, 20, 21, 22, 23, 24] (by kernel_rfl) (by kernel_rfl) (fun _ _ d _ _ h => by cases d <;> exact h) ?_
              (refine TD.val0 (v := ?v76) (by simp only [List.getElem?_toArray, List.getElem?_cons_succ, List.getElem?_cons_zero]; rfl) rfl ?hw76 (fun w1 => ?hy76) ?hn76; (case hw76 => rfl); (case hy76 => (go_simp; (try with_reducible rfl))); (try simp only [Act.put, List.setIfInBounds_toArray, List.set_cons_zero, List.set_cons_succ]))
              (refine TD.val0 (v := ?v77) (by simp only [List.getElem?_toArray, List.getElem?_cons_succ, List.getElem?_cons_zero]; rfl) rfl ?hw77 (fun w1 => ?hy77) ?hn77; (case hw77 => rfl); (case hy77 => (go_simp; (try with_reducible rfl))); (try simp only [Act.put, List.setIfInBounds_toArray, List.set_cons_zero, List.set_cons_succ]))
              (refine TD.val0 (v := ?v78) (by simp only [List.getElem?_toArray, List.getElem?_cons_succ, List.getElem?_cons_zero]; rfl) rfl ?hw78 (fun w1 => ?hy78) ?hn78; (case hw78 => rfl); (case hy78 => (go_simp; (try with_reducible rfl))); (try simp only [Act.put, List.setIfInBounds_toArray, List.set_cons_zero, List.set_cons_succ]))
              (refine TD.val0 (v := ?v79) (by simp only [List.getElem?_toArray, List.getElem?_cons_succ, List.getElem?_cons_zero]; rfl) rfl ?hw79 (fun w1 => ?hy79) ?hn79; (case hw79 => rfl); (case hy79 => (go_simp; (try with_reducible rfl))); (try simp only [Act.put, List.setIfInBounds_toArray, List.set_cons_zero, List.set_cons_succ]))
              (refine TD.load (v := ?v80) (p := ?p80) (Mod.refl _ _) (by simp only [List.getElem?_toArray, List.getElem?_cons_succ, List.getElem?_cons_zero]; rfl) rfl ?hw80 rfl ?hx80 (fun wq hSq => ?hy80) ?hn80; (case hw80 => rfl); (case hx80 => (simp only [Act.eval, Array.getD_eq_getD_getElem?, List.getElem?_toArray, List.getElem?_cons_succ, List.getElem?_cons_zero, Option.getD_some]; (try rfl))); (case hy80 => (have kl1q := hSq.at kl1 (fun h => h); have kl2q := hSq.at kl2 (fun h => h); go_simp; (try with_reducible rfl))); (try simp only [Act.put, List.setIfInBounds_toArray, List.set_cons_zero, List.set_cons_succ]))
              (refine TD.val0 (v := ?v81) (by simp only [List.getElem?_toArray, List.getElem?_cons_succ, List.getElem?_cons_zero]; rfl) rfl ?hw81 (fun w1 => ?hy81) ?hn81; (case hw81 => rfl); (case hy81 => (go_simp; (try with_reducible rfl))); (try simp only [Act.put, List.setIfInBounds_toArray, List.set_cons_zero, List.set_cons_succ]))
              (refine TD.val0 (v := ?v82) (by simp only [List.getElem?_toArray, List.getElem?_cons_succ, List.getElem?_cons_zero]; rfl) rfl ?hw82 (fun w1 => ?hy82) ?hn82; (case hw82 => rfl); (case hy82 => (go_simp; (try with_reducible rfl))); (try simp only [Act.put, List.setIfInBounds_toArray, List.set_cons_zero, List.set_cons_succ]))
              (refine TD.val0 (v := ?v83) (by simp only [List.getElem?_toArray, List.getElem?_cons_succ, List.getElem?_cons_zero]; rfl) rfl ?hw83 (fun w1 => ?hy83) ?hn83; (case hw83 => rfl); (case hy83 => (go_simp; (try with_reducible rfl))); (try simp only [Act.put, List.setIfInBounds_toArray, List.set_cons_zero, List.set_cons_succ]))
              (refine TD.val0 (v := ?v84) (by simp only [List.getElem?_toArray, List.getElem?_cons_succ, List.getElem?_cons_zero]; rfl) rfl ?hw84 (fun w1 => ?hy84) ?hn84; (case hw84 => rfl); (case hy84 => (go_simp; (try with_reducible rfl))); (try simp only [Act.put, List.setIfInBounds_toArray, List.set_cons_zero, List.set_cons_succ]))
              (refine TD.load (v := ?v85) (p := ?p85) (Mod.refl _ _) (by simp only [List.getElem?_toArray, List.getElem?_cons_succ, List.getElem?_cons_zero]; rfl) rfl ?hw85 rfl ?hx85 (fun wq hSq => ?hy85) ?hn85; (case hw85 => rfl); (case hx85 => (simp only [Act.eval, Array.getD_eq_getD_getElem?, List.getElem?_toArray, List.getElem?_cons_succ, List.getElem?_cons_zero, Option.getD_some]; (try rfl))); (case hy85 => (have kl1q := hSq.at kl1 (fun h => h); have kl2q := hSq.at kl2 (fun h => h); go_simp; (try with_reducible rfl))); (try simp only [Act.put, List.setIfInBounds_toArray, List.set_cons_zero, List.set_cons_succ]))
              (refine TD.val0 (v := ?v86) (by simp only [List.getElem?_toArray, List.getElem?_cons_succ, List.getElem?_cons_zero]; rfl) rfl ?hw86 (fun w1 => ?hy86) ?hn86; (case hw86 => rfl); (case hy86 => (go_simp; (try with_reducible rfl))); (try simp only [Act.put, List.setIfInBounds_toArray, List.set_cons_zero, List.set_cons_succ]))
              (refine TD.val0 (v := ?v87) (by simp only [List.getElem?_toArray, List.getElem?_cons_succ, List.getElem?_cons_zero]; rfl) rfl ?hw87 (fun w1 => ?hy87) ?hn87; (case hw87 => rfl); (case hy87 => (go_simp; (try with_reducible rfl))); (try simp only [Act.put, List.setIfInBounds_toArray, List.set_cons_zero, List.set_cons_succ]))
              (refine TD.val0 (v := ?v88) (by simp only [List.getElem?_toArray, List.getElem?_cons_succ, List.getElem?_cons_zero]; rfl) rfl ?hw88 (fun w1 => ?hy88) ?hn88; (case hw88 => rfl); (case hy88 => (go_simp; (try with_reducible rfl))); (try simp only [Act.put, List.setIfInBounds_toArray, List.set_cons_zero, List.set_cons_succ]))
              (refine TD.val0 (v := ?v89) (by simp only [List.getElem?_toArray, List.getElem?_cons_succ, List.getElem?_cons_zero]; rfl) rfl ?hw89 (fun w1 => ?hy89) ?hn89; (case hw89 => rfl); (case hy89 => (go_simp; (try with_reducible rfl))); (try simp only [Act.put, List.setIfInBounds_toArray, List.set_cons_zero, List.set_cons_succ]))
              (refine TD.val0 (v := ?v90) (by simp only [List.getElem?_toArray, List.getElem?_cons_succ, List.getElem?_cons_zero]; rfl) rfl ?hw90 (fun w1 => ?hy90) ?hn90; (case hw90 => rfl); (case hy90 => (go_simp; (try with_reducible rfl))); (try simp only [Act.put, List.setIfInBounds_toArray, List.set_cons_zero, List.set_cons_succ]))
              (refine TD.val0 (v := ?v91) (by simp only [List.getElem?_toArray, List.getElem?_cons_succ, List.getElem?_cons_zero]; rfl) rfl ?hw91 (fun w1 => ?hy91) ?hn91; (case hw91 => rfl); (case hy91 => (go_simp; (try with_reducible rfl))); (try simp only [Act.put, List.setIfInBounds_toArray, List.set_cons_zero, List.set_cons_succ]))
              (refine TD.load (v := ?v92) (p := ?p92) (Mod.refl _ _) (by simp only [List.getElem?_toArray, List.getElem?_cons_succ, List.getElem?_cons_zero]; rfl) rfl ?hw92 rfl ?hx92 (fun wq hSq => ?hy92) ?hn92; (case hw92 => rfl); (case hx92 => (simp only [Act.eval, Array.getD_eq_getD_getElem?, List.getElem?_toArray, List.getElem?_cons_succ, List.getElem?_cons_zero, Option.getD_some]; (try rfl))); (case hy92 => (have kl1q := hSq.at kl1 (fun h => h); have kl2q := hSq.at kl2 (fun h => h); go_simp; (try with_reducible rfl))); (try simp only [Act.put, List.setIfInBounds_toArray, List.set_cons_zero, List.set_cons_succ]))
              (refine TD.val0 (v := ?v93) (by simp only [List.getElem?_toArray, List.getElem?_cons_succ, List.getElem?_cons_zero]; rfl) rfl ?hw93 (fun w1 => ?hy93) ?hn93; (case hw93 => rfl); (case hy93 => (go_simp; (try with_reducible rfl))); (try simp only [Act.put, List.setIfInBounds_toArray, List.set_cons_zero, List.set_cons_succ]))
              (refine TD.pass (by simp only [List.getElem?_toArray, List.getElem?_cons_succ, List.getElem?_cons_zero]; rfl) rfl ?hw94 ?hn94; (case hw94 => rfl); (try simp only [Act.put, List.setIfInBounds_toArray, List.set_cons_zero, List.set_cons_succ]))
              (refine TD.pass (by simp only [List.getElem?_toArray, List.getElem?_cons_succ, List.getElem?_cons_zero]; rfl) rfl ?hw95 ?hn95; (case hw95 => rfl); (try simp only [Act.put, List.setIfInBounds_toArray, List.set_cons_zero, List.set_cons_succ]))
              (refine TD.pass (by simp only [List.getElem?_toArray, List.getElem?_cons_succ, List.getElem?_cons_zero]; rfl) rfl ?hw96 ?hn96; (case hw96 => rfl); (try simp only [Act.put, List.setIfInBounds_toArray, List.set_cons_zero, List.set_cons_succ]))
              (refine TD.pass (by simp only [List.getElem?_toArray, List.getElem?_cons_succ, List.getElem?_cons_zero]; rfl) rfl ?hw97 ?hn97; (case hw97 => rfl); (try simp only [Act.put, List.setIfInBounds_toArray, List.set_cons_zero, List.set_cons_succ]))
              (refine TD.pass1 (by simp only [List.getElem?_toArray, List.getElem?_cons_succ, List.getElem?_cons_zero]; rfl) rfl ?hw98 ?hn98; (case hw98 => rfl); (try simp only [Act.put, List.setIfInBounds_toArray, List.set_cons_zero, List.set_cons_succ]))
              (refine TD.val0 (v := ?v99) (by simp only [List.getElem?_toArray, List.getElem?_cons_succ, List.getElem?_cons_zero]; rfl) rfl ?hw99 (fun w1 => ?hy99) ?hn99; (case hw99 => rfl); (case hy99 => (go_simp; (try with_reducible rfl))); (try simp only [Act.put, List.setIfInBounds_toArray, List.set_cons_zero, List.set_cons_succ]))
              (refine TD.val0 (v := ?v100) (by simp only [List.getElem?_toArray, List.getElem?_cons_succ, List.getElem?_cons_zero]; rfl) rfl ?hw100 (fun w1 => ?hy100) ?hn100; (case hw100 => rfl); (case hy100 => (go_simp; (try with_reducible rfl))); (try simp only [Act.put, List.setIfInBounds_toArray, List.set_cons_zero, List.set_cons_succ]))
              refine TD.nil (fun w3 hr => ?_)
              have kl1 := hr.mod.at kl1 (fun h => h)
              have kl2 := hr.mod.at kl2 (fun h => h)
              have mm := hm.then0 hr.mod
              go_wp2_with fail
              go_ret
              exact ⟨by rw [show confl l1 l2 = true from any_of_take (by rw [show ((l1.take (i + 1)).any fun x => l2.any (conflR x)) = _ from HN.out]; exact any_of_take (by rw [HN2.out, HC.out]; simp))]; rfl, mm⟩
            | false =>
              go_upto_region 7 with fail
              have Lkl1 := lt_size kl1
              have Lkl2 := lt_size kl2
              refine wp_pass (C := fun _ _ _ => False) (κ := fun i => [0, 0, 0, 0, 1, 0, 0, 0, 0, 1, 0, 0, 0, 0, 0, 0, 1, 0, 0, 0, 0, 0, 1, 0, 0].getD i 0) [0, 1, 2, 3, 4, 5, 6, 7, 8, 9, 10, 11, 12, 13, 14, 15, 16, 17, 18, 19, 20, 21, 22, 23, 24] (by kernel_rfl) (by kernel_rfl) (fun _ _ d _ _ h => by cases d <;> exact h) ?_
              (refine TD.val0 (v := ?v101) (by simp only [List.getElem?_toArray, List.getElem?_cons_succ, List.getElem?_cons_zero]; rfl) rfl ?hw101 (fun w1 => ?hy101) ?hn101; (case hw101 => rfl); (case hy101 => (go_simp; (try with_reducible rfl))); (try simp only [Act.put, List.setIfInBounds_toArray, List.set_cons_zero, List.set_cons_succ]))
              (refine TD.val0 (v := ?v102) (by simp only [List.getElem?_toArray, List.getElem?_cons_succ, List.getElem?_cons_zero]; rfl) rfl ?hw102 (fun w1 => ?hy102) ?hn102; (case hw102 => rfl); (case hy102 => (go_simp; (try with_reducible rfl))); (try simp only [Act.put, List.setIfInBounds_toArray, List.set_cons_zero, List.set_cons_succ]))
              (refine TD.val0 (v := ?v103) (by simp only [List.getElem?_toArray, List.getElem?_cons_succ, List.getElem?_cons_zero]; rfl) rfl ?hw103 (fun w1 => ?hy103) ?hn103; (case hw103 => rfl); (case hy103 => (go_simp; (try with_reducible rfl))); (try simp only [Act.put, List.setIfInBounds_toArray, List.set_cons_zero, List.set_cons_succ]))
              (refine TD.val0 (v := ?v104) (by simp only [List.getElem?_toArray, List.getElem?_cons_succ, List.getElem?_cons_zero]; rfl) rfl ?hw104 (fun w1 => ?hy104) ?hn104; (case hw104 => rfl); (case hy104 => (go_simp; (try with_reducible rfl))); (try simp only [Act.put, List.setIfInBounds_toArray, List.set_cons_zero, List.set_cons_succ]))
              (refine TD.load (v := ?v105) (p := ?p105) (Mod.refl _ _) (by simp only [List.getElem?_toArray, List.getElem?_cons_succ, List.getElem?_cons_zero]; rfl) rfl ?hw105 rfl ?hx105 (fun wq hSq => ?hy105) ?hn105; (case hw105 => rfl); (case hx105 => (simp only [Act.eval, Array.getD_eq_getD_getElem?, List.getElem?_toArray, List.getElem?_cons_succ, List.getElem?_cons_zero, Option.getD_some]; (try rfl))); (case hy105 => (have kl1q := hSq.at kl1 (fun h => h); have kl2q := hSq.at kl2 (fun h => h); go_simp; (try with_reducible rfl))); (try simp only [Act.put, List.setIfInBounds_toArray, List.set_cons_zero, List.set_cons_succ]))
              (refine TD.val0 (v := ?v106) (by simp only [List.getElem?_toArray, List.getElem?_cons_succ, List.getElem?_cons_zero]; rfl) rfl ?hw106 (fun w1 => ?hy106) ?hn106; (case hw106 => rfl); (case hy106 => (go_simp; (try with_reducible rfl))); (try simp only [Act.put, List.setIfInBounds_toArray, List.set_cons_zero, List.set_cons_succ]))
              (refine TD.val0 (v := ?v107) (by simp only [List.getElem?_toArray, List.getElem?_cons_succ, List.getElem?_cons_zero]; rfl) rfl ?hw107 (fun w1 => ?hy107) ?hn107; (case hw107 => rfl); (case hy107 => (go_simp; (try with_reducible rfl))); (try simp only [Act.put, List.setIfInBounds_toArray, List.set_cons_zero, List.set_cons_succ]))
              (refine TD.val0 (v := ?v108) (by simp only [List.getElem?_toArray, List.getElem?_cons_succ, List.getElem?_cons_zero]; rfl) rfl ?hw108 (fun w1 => ?hy108) ?hn108; (case hw108 => rfl); (case hy108 => (go_simp; (try with_reducible rfl))); (try simp only [Act.put, List.setIfInBounds_toArray, List.set_cons_zero, List.set_cons_succ]))
              (refine TD.val0 (v := ?v109) (by simp only [List.getElem?_toArray, List.getElem?_cons_succ, List.getElem?_cons_zero]; rfl) rfl ?hw109 (fun w1 => ?hy109) ?hn109; (case hw109 => rfl); (case hy109 => (go_simp; (try with_reducible rfl))); (try simp only [Act.put, List.setIfInBounds_toArray, List.set_cons_zero, List.set_cons_succ]))
              (refine TD.load (v := ?v110) (p := ?p110) (Mod.refl _ _) (by simp only [List.getElem?_toArray, List.getElem?_cons_succ, List.getElem?_cons_zero]; rfl) rfl ?hw110 rfl ?hx110 (fun wq hSq => ?hy110) ?hn110; (case hw110 => rfl); (case hx110 => (simp only [Act.eval, Array.getD_eq_getD_getElem?, List.getElem?_toArray, List.getElem?_cons_succ, List.getElem?_cons_zero, Option.getD_some]; (try rfl))); (case hy110 => (have kl1q := hSq.at kl1 (fun h => h); have kl2q := hSq.at kl2 (fun h => h); go_simp; (try with_reducible rfl))); (try simp only [Act.put, List.setIfInBounds_toArray, List.set_cons_zero, List.set_cons_succ]))
              (refine TD.val0 (v := ?v111) (by simp only [List.getElem?_toArray, List.getElem?_cons_succ, List.getElem?_cons_zero]; rfl) rfl ?hw111 (fun w1 => ?hy111) ?hn111; (case hw111 => rfl); (case hy111 => (go_simp; (try with_reducible rfl))); (try simp only [Act.put, List.setIfInBounds_toArray, List.set_cons_zero, List.set_cons_succ]))
              (refine TD.val0 (v := ?v112) (by simp only [List.getElem?_toArray, List.getElem?_cons_succ, List.getElem?_cons_zero]; rfl) rfl ?hw112 (fun w1 => ?hy112) ?hn112; (case hw112 => rfl); (case hy112 => (go_simp; (try with_reducible rfl))); (try simp only [Act.put, List.setIfInBounds_toArray, List.set_cons_zero, List.set_cons_succ]))
              (refine TD.val0 (v := ?v113) (by simp only [List.getElem?_toArray, List.getElem?_cons_succ, List.getElem?_cons_zero]; rfl) rfl ?hw113 (fun w1 => ?hy113) ?hn113; (case hw113 => rfl); (case hy113 => (go_simp; (try with_reducible rfl))); (try simp only [Act.put, List.setIfInBounds_toArray, List.set_cons_zero, List.set_cons_succ]))
              (refine TD.val0 (v := ?v114) (by simp only [List.getElem?_toArray, List.getElem?_cons_succ, List.getElem?_cons_zero]; rfl) rfl ?hw114 (fun w1 => ?hy114) ?hn114; (case hw114 => rfl); (case hy114 => (go_simp; (try with_reducible rfl))); (try simp only [Act.put, List.setIfInBounds_toArray, List.set_cons_zero, List.set_cons_succ]))
              (refine TD.val0 (v := ?v115) (by simp only [List.getElem?_toArray, List.getElem?_cons_succ, List.getElem?_cons_zero]; rfl) rfl ?hw115 (fun w1 => ?hy115) ?hn115; (case hw115 => rfl); (case hy115 => (go_simp; (try with_reducible rfl))); (try simp only [Act.put, List.setIfInBounds_toArray, List.set_cons_zero, List.set_cons_succ]))
              (refine TD.val0 (v := ?v116) (by simp only [List.getElem?_toArray, List.getElem?_cons_succ, List.getElem?_cons_zero]; rfl) rfl ?hw116 (fun w1 => ?hy116) ?hn116; (case hw116 => rfl); (case hy116 => (go_simp; (try with_reducible rfl))); (try simp only [Act.put, List.setIfInBounds_toArray, List.set_cons_zero, List.set_cons_succ]))
              (refine TD.load (v := ?v117) (p := ?p117) (Mod.refl _ _) (by simp only [List.getElem?_toArray, List.getElem?_cons_succ, List.getElem?_cons_zero]; rfl) rfl ?hw117 rfl ?hx117 (fun wq hSq => ?hy117) ?hn117; (case hw117 => rfl); (case hx117 => (simp only [Act.eval, Array.getD_eq_getD_getElem?, List.getElem?_toArray, List.getElem?_cons_succ, List.getElem?_cons_zero, Option.getD_some]; (try rfl))); (case hy117 => (have kl1q := hSq.at kl1 (fun h => h); have kl2q := hSq.at kl2 (fun h => h); go_simp; (try with_reducible rfl))); (try simp only [Act.put, List.setIfInBounds_toArray, List.set_cons_zero, List.set_cons_succ]))
              (refine TD.val0 (v := ?v118) (by simp only [List.getElem?_toArray, List.getElem?_cons_succ, List.getElem?_cons_zero]; rfl) rfl ?hw118 (fun w1 => ?hy118) ?hn118; (case hw118 => rfl); (case hy118 => (go_simp; (try with_reducible rfl))); (try simp only [Act.put, List.setIfInBounds_toArray, List.set_cons_zero, List.set_cons_succ]))
              (refine TD.val0 (v := ?v119) (by simp only [List.getElem?_toArray, List.getElem?_cons_succ, List.getElem?_cons_zero]; rfl) rfl ?hw119 (fun w1 => ?hy119) ?hn119; (case hw119 => rfl); (case hy119 => (go_simp; (try with_reducible rfl))); (try simp only [Act.put, List.setIfInBounds_toArray, List.set_cons_zero, List.set_cons_succ]))
              (refine TD.val0 (v := ?v120) (by simp only [List.getElem?_toArray, List.getElem?_cons_succ, List.getElem?_cons_zero]; rfl) rfl ?hw120 (fun w1 => ?hy120) ?hn120; (case hw120 => rfl); (case hy120 => (go_simp; (try with_reducible rfl))); (try simp only [Act.put, List.setIfInBounds_toArray, List.set_cons_zero, List.set_cons_succ]))
              (refine TD.val0 (v := ?v121) (by simp only [List.getElem?_toArray, List.getElem?_cons_succ, List.getElem?_cons_zero]; rfl) rfl ?hw121 (fun w1 => ?hy121) ?hn121; (case hw121 => rfl); (case hy121 => (go_simp; (try with_reducible rfl))); (try simp only [Act.put, List.setIfInBounds_toArray, List.set_cons_zero, List.set_cons_succ]))
              (refine TD.val0 (v := ?v122) (by simp only [List.getElem?_toArray, List.getElem?_cons_succ, List.getElem?_cons_zero]; rfl) rfl ?hw122 (fun w1 => ?hy122) ?hn122; (case hw122 => rfl); (case hy122 => (go_simp; (try with_reducible rfl))); (try simp only [Act.put, List.setIfInBounds_toArray, List.set_cons_zero, List.set_cons_succ]))
              (refine TD.load (v := ?v123) (p := ?p123) (Mod.refl _ _) (by simp only [List.getElem?_toArray, List.getElem?_cons_succ, List.getElem?_cons_zero]; rfl) rfl ?hw123 rfl ?hx123 (fun wq hSq => ?hy123) ?hn123; (case hw123 => rfl); (case hx123 => (simp only [Act.eval, Array.getD_eq_getD_getElem?, List.getElem?_toArray, List.getElem?_cons_succ, List.getElem?_cons_zero, Option.getD_some]; (try rfl))); (case hy123 => (have kl1q := hSq.at kl1 (fun h => h); have kl2q := hSq.at kl2 (fun h => h); go_simp; (try with_reducible rfl))); (try simp only [Act.put, List.setIfInBounds_toArray, List.set_cons_zero, List.set_cons_succ]))
              (refine TD.val0 (v := ?v124) (by simp only [List.getElem?_toArray, List.getElem?_cons_succ, List.getElem?_cons_zero]; rfl) rfl ?hw124 (fun w1 => ?hy124) ?hn124; (case hw124 => rfl); (case hy124 => (go_simp; (try with_reducible rfl))); (try simp only [Act.put, List.setIfInBounds_toArray, List.set_cons_zero, List.set_cons_succ]))
              (refine TD.val0 (v := ?v125) (by simp only [List.getElem?_toArray, List.getElem?_cons_succ, List.getElem?_cons_zero]; rfl) rfl ?hw125 (fun w1 => ?hy125) ?hn125; (case hw125 => rfl); (case hy125 => (go_simp; (try with_reducible rfl))); (try simp only [Act.put, List.setIfInBounds_toArray, List.set_cons_zero, List.set_cons_succ]))
              refine TD.nil (fun w3 hr => ?_)
              have kl1 := hr.mod.at kl1 (fun h => h)
              have kl2 := hr.mod.at kl2 (fun h => h)
              have mm := hm.then0 hr.mod
              cases w2 with
              | true =>
                go_wp2_with fail
                go_ret
                exact ⟨by rw [show confl l1 l2 = true from any_of_take (by rw [show ((l1.take (i + 1)).any fun x => l2.any (conflR x)) = _ from HN.out]; exact any_of_take (by rw [HN2.out, HC.out]; simp))]; rfl, mm⟩
              | false =>
                go_wp2_with fail
                go_roundw
                case rel => exact ⟨j + 1, by omega, by go_num, Lib.hid (by rw [HN2.out, HC.out]; simp), mm⟩
                case measure => simp [intOf]; omega
          · go_upto_region 7 with fail
            have Lkl1 := lt_size kl1
            have Lkl2 := lt_size kl2
            refine wp_pass (C := fun _ _ _ => False) (κ := fun i => [0, 0, 0, 0, 1, 0, 0, 0, 0, 1, 0, 0, 0, 0, 0, 0, 1, 0, 0, 0, 0, 0, 1, 0, 0].getD i 0) [0, 1, 2, 3, 4, 5, 6, 7, 8, 9, 10, 11, 12, 13, 14, 15, 16, 17, 18, 19, 20, 21, 22, 23, 24] (by kernel_rfl) (by kernel_rfl) (fun _ _ d _ _ h => by cases d <;> exact h) ?_
            (refine TD.val0 (v := ?v126) (by simp only [List.getElem?_toArray, List.getElem?_cons_succ, List.getElem?_cons_zero]; rfl) rfl ?hw126 (fun w1 => ?hy126) ?hn126; (case hw126 => rfl); (case hy126 => (go_simp; (try with_reducible rfl))); (try simp only [Act.put, List.setIfInBounds_toArray, List.set_cons_zero, List.set_cons_succ]))
            (refine TD.val0 (v := ?v127) (by simp only [List.getElem?_toArray, List.getElem?_cons_succ, List.getElem?_cons_zero]; rfl) rfl ?hw127 (fun w1 => ?hy127) ?hn127; (case hw127 => rfl); (case hy127 => (go_simp; (try with_reducible rfl))); (try simp only [Act.put, List.setIfInBounds_toArray, List.set_cons_zero, List.set_cons_succ]))
            (refine TD.val0 (v := ?v128) (by simp only [List.getElem?_toArray, List.getElem?_cons_succ, List.getElem?_cons_zero]; rfl) rfl ?hw128 (fun w1 => ?hy128) ?hn128; (case hw128 => rfl); (case hy128 => (go_simp; (try with_reducible rfl))); (try simp only [Act.put, List.setIfInBounds_toArray, List.set_cons_zero, List.set_cons_succ]))
            (refine TD.val0 (v := ?v129) (by simp only [List.getElem?_toArray, List.getElem?_cons_succ, List.getElem?_cons_zero]; rfl) rfl ?hw129 (fun w1 => ?hy129) ?hn129; (case hw129 => rfl); (case hy129 => (go_simp; (try with_reducible rfl))); (try simp only [Act.put, List.setIfInBounds_toArray, List.set_cons_zero, List.set_cons_succ]))
            (refine TD.load (v := ?v130) (p := ?p130) (Mod.refl _ _) (by simp only [List.getElem?_toArray, List.getElem?_cons_succ, List.getElem?_cons_zero]; rfl) rfl ?hw130 rfl ?hx130 (fun wq hSq => ?hy130) ?hn130; (case hw130 => rfl); (case hx130 => (simp only [Act.eval, Array.getD_eq_getD_getElem?, List.getElem?_toArray, List.getElem?_cons_succ, List.getElem?_cons_zero, Option.getD_some]; (try rfl))); (case hy130 => (have kl1q := hSq.at kl1 (fun h => h); have kl2q := hSq.at kl2 (fun h => h); go_simp; (try with_reducible rfl))); (try simp only [Act.put, List.setIfInBounds_toArray, List.set_cons_zero, List.set_cons_succ]))
            (refine TD.val0 (v := ?v131) (by simp only [List.getElem?_toArray, List.getElem?_cons_succ, List.getElem?_cons_zero]; rfl) rfl ?hw131 (fun w1 => ?hy131) ?hn131; (case hw131 => rfl); (case hy131 => (go_simp; (try with_reducible rfl))); (try simp only [Act.put, List.setIfInBounds_toArray, List.set_cons_zero, List.set_cons_succ]))
            (refine TD.val0 (v := ?v132) (by simp only [List.getElem?_toArray, List.getElem?_cons_succ, List.getElem?_cons_zero]; rfl) rfl ?hw132 (fun w1 => ?hy132) ?hn132; (case hw132 => rfl); (case hy132 => (go_simp; (try with_reducible rfl))); (try simp only [Act.put, List.setIfInBounds_toArray, List.set_cons_zero, List.set_cons_succ]))
            (refine TD.val0 (v := ?v133) (by simp only [List.getElem?_toArray, List.getElem?_cons_succ, List.getElem?_cons_zero]; rfl) rfl ?hw133 (fun w1 => ?hy133) ?hn133; (case hw133 => rfl); (case hy133 => (go_simp; (try with_reducible rfl))); (try simp only [Act.put, List.setIfInBounds_toArray, List.set_cons_zero, List.set_cons_succ]))
            (refine TD.val0 (v := ?v134) (by simp only [List.getElem?_toArray, List.getElem?_cons_succ, List.getElem?_cons_zero]; rfl) rfl ?hw134 (fun w1 => ?hy134) ?hn134; (case hw134 => rfl); (case hy134 => (go_simp; (try with_reducible rfl))); (try simp only [Act.put, List.setIfInBounds_toArray, List.set_cons_zero, List.set_cons_succ]))
            (refine TD.load (v := ?v135) (p := ?p135) (Mod.refl _ _) (by simp only [List.getElem?_toArray, List.getElem?_cons_succ, List.getElem?_cons_zero]; rfl) rfl ?hw135 rfl ?hx135 (fun wq hSq => ?hy135) ?hn135; (case hw135 => rfl); (case hx135 => (simp only [Act.eval, Array.getD_eq_getD_getElem?, List.getElem?_toArray, List.getElem?_cons_succ, List.getElem?_cons_zero, Option.getD_some]; (try rfl))); (case hy135 => (have kl1q := hSq.at kl1 (fun h => h); have kl2q := hSq.at kl2 (fun h => h); go_simp; (try with_reducible rfl))); (try simp only [Act.put, List.setIfInBounds_toArray, List.set_cons_zero, List.set_cons_succ]))
            (refine TD.val0 (v := ?v136) (by simp only [List.getElem?_toArray, List.getElem?_cons_succ, List.getElem?_cons_zero]; rfl) rfl ?hw136 (fun w1 => ?hy136) ?hn136; (case hw136 => rfl); (case hy136 => (go_simp; (try with_reducible rfl))); (try simp only [Act.put, List.setIfInBounds_toArray, List.set_cons_zero, List.set_cons_succ]))
            (refine TD.val0 (v := ?v137) (by simp only [List.getElem?_toArray, List.getElem?_cons_succ, List.getElem?_cons_zero]; rfl) rfl ?hw137 (fun w1 => ?hy137) ?hn137; (case hw137 => rfl); (case hy137 => (go_simp; (try with_reducible rfl))); (try simp only [Act.put, List.setIfInBounds_toArray, List.set_cons_zero, List.set_cons_succ]))
            (refine TD.pass (by simp only [List.getElem?_toArray, List.getElem?_cons_succ, List.getElem?_cons_zero]; rfl) rfl ?hw138 ?hn138; (case hw138 => rfl); (try simp only [Act.put, List.setIfInBounds_toArray, List.set_cons_zero, List.set_cons_succ]))
            (refine TD.pass (by simp only [List.getElem?_toArray, List.getElem?_cons_succ, List.getElem?_cons_zero]; rfl) rfl ?hw139 ?hn139; (case hw139 => rfl); (try simp only [Act.put, List.setIfInBounds_toArray, List.set_cons_zero, List.set_cons_succ]))
            (refine TD.pass (by simp only [List.getElem?_toArray, List.getElem?_cons_succ, List.getElem?_cons_zero]; rfl) rfl ?hw140 ?hn140; (case hw140 => rfl); (try simp only [Act.put, List.setIfInBounds_toArray, List.set_cons_zero, List.set_cons_succ]))
            (refine TD.pass (by simp only [List.getElem?_toArray, List.getElem?_cons_succ, List.getElem?_cons_zero]; rfl) rfl ?hw141 ?hn141; (case hw141 => rfl); (try simp only [Act.put, List.setIfInBounds_toArray, List.set_cons_zero, List.set_cons_succ]))
            (refine TD.pass1 (by simp only [List.getElem?_toArray, List.getElem?_cons_succ, List.getElem?_cons_zero]; rfl) rfl ?hw142 ?hn142; (case hw142 => rfl); (try simp only [Act.put, List.setIfInBounds_toArray, List.set_cons_zero, List.set_cons_succ]))
            (refine TD.pass (by simp only [List.getElem?_toArray, List.getElem?_cons_succ, List.getElem?_cons_zero]; rfl) rfl ?hw143 ?hn143; (case hw143 => rfl); (try simp only [Act.put, List.setIfInBounds_toArray, List.set_cons_zero, List.set_cons_succ]))
            (refine TD.pass (by simp only [List.getElem?_toArray, List.getElem?_cons_succ, List.getElem?_cons_zero]; rfl) rfl ?hw144 ?hn144; (case hw144 => rfl); (try simp only [Act.put, List.setIfInBounds_toArray, List.set_cons_zero, List.set_cons_succ]))
            (refine TD.pass (by simp only [List.getElem?_toArray, List.getElem?_cons_succ, List.getElem?_cons_zero]; rfl) rfl ?hw145 ?hn145; (case hw145 => rfl); (try simp only [Act.put, List.setIfInBounds_toArray, List.set_cons_zero, List.set_cons_succ]))
            (refine TD.pass (by simp only [List.getElem?_toArray, List.getElem?_cons_succ, List.getElem?_cons_zero]; rfl) rfl ?hw146 ?hn146; (case hw146 => rfl); (try simp only [Act.put, List.setIfInBounds_toArray, List.set_cons_zero, List.set_cons_succ]))
            (refine TD.pass (by simp only [List.getElem?_toArray, List.getElem?_cons_succ, List.getElem?_cons_zero]; rfl) rfl ?hw147 ?hn147; (case hw147 => rfl); (try simp only [Act.put, List.setIfInBounds_toArray, List.set_cons_zero, List.set_cons_succ]))
            (refine TD.pass1 (by simp only [List.getElem?_toArray, List.getElem?_cons_succ, List.getElem?_cons_zero]; rfl) rfl ?hw148 ?hn148; (case hw148 => rfl); (try simp only [Act.put, List.setIfInBounds_toArray, List.set_cons_zero, List.set_cons_succ]))
            (refine TD.pass (by simp only [List.getElem?_toArray, List.getElem?_cons_succ, List.getElem?_cons_zero]; rfl) rfl ?hw149 ?hn149; (case hw149 => rfl); (try simp only [Act.put, List.setIfInBounds_toArray, List.set_cons_zero, List.set_cons_succ]))
            (refine TD.val0 (v := ?v150) (by simp only [List.getElem?_toArray, List.getElem?_cons_succ, List.getElem?_cons_zero]; rfl) rfl ?hw150 (fun w1 => ?hy150) ?hn150; (case hw150 => rfl); (case hy150 => (go_simp; (try with_reducible rfl))); (try simp only [Act.put, List.setIfInBounds_toArray, List.set_cons_zero, List.set_cons_succ]))
            refine TD.nil (fun w3 hr => ?_)
            have kl1 := hr.mod.at kl1 (fun h => h)
            have kl2 := hr.mod.at kl2 (fun h => h)
            have mm := hm.then0 hr.mod
            go_wp2_with fail
            go_roundw
            case rel => exact ⟨j + 1, by omega, by go_num, Lib.hid (by rw [HN2.out, HC.out]; simp [hk]), mm⟩
            case measure => simp [intOf]; omega
        · obtain rfl : j = l2.length := by omega
          have HB2 : Hid (l2.any (conflR x) = false) := Lib.hid (by have := HB.out; rwa [List.take_length] at this)
          go_wp2_with fail
          go_roundw
          case rel => exact ⟨i + 1, by omega, by go_num, Lib.hid (by rw [HN.out, HB2.out]), hm⟩
          case measure => simp [intOf]; omega
    · obtain rfl : i = l1.length := by omega
      go_wp2_with fail
      go_ret
      have := HA.out
      rw [List.take_length] at this
      exact ⟨by rw [this]; rfl, hm⟩
end Go.Proofs.Ytleenmldlbccmaa
