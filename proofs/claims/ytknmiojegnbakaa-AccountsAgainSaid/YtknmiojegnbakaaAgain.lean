/- The walk of AccountsAgain. -/
import Derived.Test.YtknmiojegnbakaaAgainL
import Derived.Test.YtknmiojegnbakaaLast
import Derived.Test.YtknmiojegnbakaaTg
namespace Go.Proofs.Ytknmiojegnbakaa
open Go.RowKit
open Go.ChangeMaps (setBlock)
set_option linter.unusedSimpArgs false
set_option linter.unusedVariables false
attribute [local go_sem ↓] wlKey ldKey stKey wlAcct ldAcct stAcct wlHold ldHold stHold eqKey1 eqAcct eqHold
attribute [local go_sem] eqMap neMap av_size av_c av_s av_c' av_s' av_o av_all av_one hd_size hd_key hd_acct hd_all hd_one zKey_size zAcct_size zHold_size cell_blk frozen_blk kc_ext one_int one_bool one_ptr one_slice one_map kc_one kc_one0 kc_size Value.cells
attribute [local go_sem] ac_size
theorem ac_k2 {x : AAct} : (ac x).extract 1 (1 + 32) = kc x.k := ac_key x
theorem ac_a2 {x : AAct} : (ac x).extract 33 (33 + 34) = av x.a := ac_acct x
theorem puts_snoc {L : List Hold} {t : Nat} {x : Hold} (h : L[t]? = some x) : putA (putsM (L.drop (t + 1))) x.k x.a = putsM (L.drop t) := by
  rw [drop_cons h]
  rfl
set_option maxRecDepth 20000 in
set_option maxHeartbeats 3200000 in
theorem againLaw_c (a : Option Addr) (l : List AAct) (c : Nat) (x : AAct) (w : World) (h : SlAt ac 67 w a l) : Calls Try.prog 7 #[.slice a l.length c, .agg (ac x)] w fun e w' => e = .returned (.bool true) ∧ Mod (fun _ => False) w w' := by
  have H := Lib.hid h
  clear h
  go_enter Try.func7, Try.ntmps7
  go_upto_region 0 with fail
  refine wp_pass0 (C := fun _ _ _ => False) (κ := fun i => [3, 0].getD i 0) [0, 1] (by kernel_rfl) (by kernel_rfl) (fun _ _ d _ _ h => by cases d <;> exact h) ?_
  (refine TD.box (v := ?v1) (by simp only [List.getElem?_toArray, List.getElem?_cons_succ, List.getElem?_cons_zero]; rfl) rfl ?hw1 rfl rfl ?hx1 (fun p3 hp3 => ?hn1); (case hw1 => rfl); (case hx1 => (simp only [Act.eval, Array.getD_eq_getD_getElem?, List.getElem?_toArray, List.getElem?_cons_succ, List.getElem?_cons_zero, Option.getD_some]; (try rfl))); (try simp only [Act.put, List.setIfInBounds_toArray, List.set_cons_zero, List.set_cons_succ]))
  (refine TD.val0 (v := ?v2) (by simp only [List.getElem?_toArray, List.getElem?_cons_succ, List.getElem?_cons_zero]; rfl) rfl ?hw2 (fun w1 => ?hy2) ?hn2; (case hw2 => rfl); (case hy2 => (go_simp; (try with_reducible rfl))); (try simp only [Act.put, List.setIfInBounds_toArray, List.set_cons_zero, List.set_cons_succ]))
  refine TD.nil (fun w1 hr => ?_)
  have kp3 := hr.box p3 _ (by first | exact Bx.set_same _ _ _ | (simp only [Bx.set_same]; rfl)); dsimp only [Value.cells] at kp3; obtain ⟨gp3, kp3⟩ := kp3
  have m1 := hr.mod
  have HP3 := Lib.hid gp3
  by_cases hlen : (150 : Int) < (l.length : Int)
  · clear kp3 gp3
    go_wp2_with fail
    go_at_call 8
    refine (lives_c _).mono ?_
    rintro e w3 ⟨rfl, m3⟩
    go_wp2_with fail
    go_ret
    exact ⟨rfl, m1.then0 m3⟩
  · have hl150 : l.length ≤ 150 := by omega
    have K3 := Lib.hid kp3
    clear kp3 gp3 hlen
    have hnl : ¬ (150 : Int) < (l.length : Int) := by omega
    go_wp2_with fail
    go_at_call 9
    refine (made_c a l c _ (H.out.mod0 m1) hl150).mono ?_
    rintro e w2 ⟨p, b, rfl, hp, hb, hT, m2⟩
    have HLen : Hid ((madeM l).length ≤ 150) := Lib.hid (Nat.le_trans (madeM_len l) hl150)
    have HN := Lib.hid (madeM_nodup l)
    have HZ := Lib.hid (fun p => @made_notzero l p)
    have HT := Lib.hid hT
    have HPB := Lib.hid (And.intro hp hb)
    have M2 := Lib.hid (m1.then0 m2)
    have K3 := Lib.hid (m2.at0 K3.out)
    have S1 := Lib.hid m2.size
    clear hT hp hb m1 m2 H hnl
    generalize madeM l = m at *
    go_wp2_with fail
    go_at_call 11
    refine (list_c p b m _ (sortOkS m (by have := HLen.out; omega)) _ HT.out (by have := HLen.out; omega)).mono ?_
    rintro e w4 ⟨a4, l4, rfl, hp4, hS4, hs4, hf4, hn4, m4⟩
    have HP4 := Lib.hid hp4
    have hl4 : l4.length ≤ 150 := by
      rw [hp4.length_eq, List.length_map]
      exact HLen.out
    have HSL := Lib.hid hs4
    have M4 := Lib.hid m4
    clear hp4 hS4 hs4 hf4 hn4 m4
    go_wp2_with fail
    go_at_call 14
    refine (newS_c _).mono ?_
    rintro e w5 ⟨q, cc, rfl, hq, hc, hO, m5⟩
    have HQC : Hid (p ≠ q ∧ p ≠ cc ∧ b ≠ q ∧ b ≠ cc ∧ w4.heap.size ≤ q ∧ w4.heap.size ≤ cc) := Lib.hid (by
      have h1 := HT.out.lt
      have h2 := M4.out.size
      omega)
    have HT := Lib.hid (HT.out.mod0 (M4.out.then0 m5))
    have HSL := Lib.hid (HSL.out.mod0 m5)
    have K3 := Lib.hid (K3.out)
    have M5 := Lib.hid m5
    have HO := Lib.hid hO
    clear hq hc hO m5
    have hpm := puts_perm HP4.out HN.out HZ.out
    have HPM := Lib.hid hpm
    clear hpm
    have hw0 : IntKind.i64.wrap ((l4.length : Int) - 1) = (l4.length : Int) - 1 := by
      rw [IntKind.wrap_i64]
      omega
    go_wp2_with fail
    clear hw0
    go_loopw [8] (fun s8 ws => ((∃ t : Nat, t < l4.length ∧ s8 = .int .i64 (t : Int) ∧ StAt ws q cc (putsM (l4.drop (t + 1)))) ∨ (s8 = .int .i64 (-1) ∧ StAt ws q cc (putsM l4))) ∧ Mod (fun i => i = cc) w5 ws) (fun s8 _ => (intOf s8 + 1).toNat)
    case atStart =>
      refine ⟨?_, Mod.refl _ _⟩
      rcases Nat.eq_zero_or_pos l4.length with h0 | h0
      · right
        have hnil : l4 = [] := List.length_eq_zero_iff.1 h0
        refine ⟨by rw [h0]; rfl, ?_⟩
        rw [hnil]
        exact HO.out
      · left
        refine ⟨l4.length - 1, by omega, by congr 1; omega, ?_⟩
        rw [show l4.length - 1 + 1 = l4.length by omega, List.drop_length]
        exact HO.out
    case round =>
      obtain ⟨hst, hm⟩ := hrel
      rcases hst with ⟨t, ht, rfl, hO2⟩ | ⟨rfl, hO2⟩
      · obtain ⟨y, hy⟩ : ∃ y, l4[t]? = some y := ⟨_, List.getElem?_eq_getElem ht⟩
        have hsl : SlAt hd 66 wr a4 l4 := HSL.out.modM hm (fun j e C U fr hcell => by
          subst e
          obtain ⟨_, es, ck, kb, _⟩ := HO.out
          rw [kb] at hcell
          cases hcell)
        obtain ⟨g, o, C, U, fr, rfl, kl, he, hle⟩ := hsl.block hy
        obtain ⟨e1, e2⟩ := hd_part he
        have d1 : o + t * 66 + 32 ≤ C.size := by omega
        have d2 : o + t * 66 + 32 + 34 ≤ C.size := by omega
        have HY := Lib.hid hy
        have HO2 := Lib.hid hO2
        clear he hle hsl hO2 hy
        obtain ⟨yk, ya⟩ := y
        dsimp only at e1 e2
        go_upto_region 9 with fail
        have Lkl := lt_size kl
        refine wp_pass (C := fun _ _ _ => False) (κ := fun i => [0, 0, 0, 0, 0, 1, 0, 0, 0, 0, 1, 5].getD i 0) [0, 1, 2, 3, 4, 5, 6, 7, 8, 9, 10, 11] (by kernel_rfl) (by kernel_rfl) (fun _ _ d _ _ h => by cases d <;> exact h) ?_
        (refine TD.val0 (v := ?v3) (by simp only [List.getElem?_toArray, List.getElem?_cons_succ, List.getElem?_cons_zero]; rfl) rfl ?hw3 (fun w1 => ?hy3) ?hn3; (case hw3 => rfl); (case hy3 => (go_simp; (try with_reducible rfl))); (try simp only [Act.put, List.setIfInBounds_toArray, List.set_cons_zero, List.set_cons_succ]))
        (refine TD.val0 (v := ?v4) (by simp only [List.getElem?_toArray, List.getElem?_cons_succ, List.getElem?_cons_zero]; rfl) rfl ?hw4 (fun w1 => ?hy4) ?hn4; (case hw4 => rfl); (case hy4 => (go_simp; (try with_reducible rfl))); (try simp only [Act.put, List.setIfInBounds_toArray, List.set_cons_zero, List.set_cons_succ]))
        (refine TD.val0 (v := ?v5) (by simp only [List.getElem?_toArray, List.getElem?_cons_succ, List.getElem?_cons_zero]; rfl) rfl ?hw5 (fun w1 => ?hy5) ?hn5; (case hw5 => rfl); (case hy5 => (go_simp; (try with_reducible rfl))); (try simp only [Act.put, List.setIfInBounds_toArray, List.set_cons_zero, List.set_cons_succ]))
        (refine TD.val0 (v := ?v6) (by simp only [List.getElem?_toArray, List.getElem?_cons_succ, List.getElem?_cons_zero]; rfl) rfl ?hw6 (fun w1 => ?hy6) ?hn6; (case hw6 => rfl); (case hy6 => (go_simp; (try with_reducible rfl))); (try simp only [Act.put, List.setIfInBounds_toArray, List.set_cons_zero, List.set_cons_succ]))
        (refine TD.val0 (v := ?v7) (by simp only [List.getElem?_toArray, List.getElem?_cons_succ, List.getElem?_cons_zero]; rfl) rfl ?hw7 (fun w1 => ?hy7) ?hn7; (case hw7 => rfl); (case hy7 => (go_simp; (try with_reducible rfl))); (try simp only [Act.put, List.setIfInBounds_toArray, List.set_cons_zero, List.set_cons_succ]))
        (refine TD.load (v := ?v8) (p := ?p8) (Mod.refl _ _) (by simp only [List.getElem?_toArray, List.getElem?_cons_succ, List.getElem?_cons_zero]; rfl) rfl ?hw8 rfl ?hx8 (fun wq hSq => ?hy8) ?hn8; (case hw8 => rfl); (case hx8 => (simp only [Act.eval, Array.getD_eq_getD_getElem?, List.getElem?_toArray, List.getElem?_cons_succ, List.getElem?_cons_zero, Option.getD_some]; (try rfl))); (case hy8 => (have klq := hSq.at kl (fun h => h); go_simp; (try with_reducible rfl))); (try simp only [Act.put, List.setIfInBounds_toArray, List.set_cons_zero, List.set_cons_succ]))
        (refine TD.val0 (v := ?v9) (by simp only [List.getElem?_toArray, List.getElem?_cons_succ, List.getElem?_cons_zero]; rfl) rfl ?hw9 (fun w1 => ?hy9) ?hn9; (case hw9 => rfl); (case hy9 => (go_simp; (try with_reducible rfl))); (try simp only [Act.put, List.setIfInBounds_toArray, List.set_cons_zero, List.set_cons_succ]))
        (refine TD.val0 (v := ?v10) (by simp only [List.getElem?_toArray, List.getElem?_cons_succ, List.getElem?_cons_zero]; rfl) rfl ?hw10 (fun w1 => ?hy10) ?hn10; (case hw10 => rfl); (case hy10 => (go_simp; (try with_reducible rfl))); (try simp only [Act.put, List.setIfInBounds_toArray, List.set_cons_zero, List.set_cons_succ]))
        (refine TD.val0 (v := ?v11) (by simp only [List.getElem?_toArray, List.getElem?_cons_succ, List.getElem?_cons_zero]; rfl) rfl ?hw11 (fun w1 => ?hy11) ?hn11; (case hw11 => rfl); (case hy11 => (go_simp; (try with_reducible rfl))); (try simp only [Act.put, List.setIfInBounds_toArray, List.set_cons_zero, List.set_cons_succ]))
        (refine TD.val0 (v := ?v12) (by simp only [List.getElem?_toArray, List.getElem?_cons_succ, List.getElem?_cons_zero]; rfl) rfl ?hw12 (fun w1 => ?hy12) ?hn12; (case hw12 => rfl); (case hy12 => (go_simp; (try with_reducible rfl))); (try simp only [Act.put, List.setIfInBounds_toArray, List.set_cons_zero, List.set_cons_succ]))
        (refine TD.load (v := ?v13) (p := ?p13) (Mod.refl _ _) (by simp only [List.getElem?_toArray, List.getElem?_cons_succ, List.getElem?_cons_zero]; rfl) rfl ?hw13 rfl ?hx13 (fun wq hSq => ?hy13) ?hn13; (case hw13 => rfl); (case hx13 => (simp only [Act.eval, Array.getD_eq_getD_getElem?, List.getElem?_toArray, List.getElem?_cons_succ, List.getElem?_cons_zero, Option.getD_some]; (try rfl))); (case hy13 => (have klq := hSq.at kl (fun h => h); go_simp; (try with_reducible rfl))); (try simp only [Act.put, List.setIfInBounds_toArray, List.set_cons_zero, List.set_cons_succ]))
        refine TD.eff (by simp only [List.getElem?_toArray, List.getElem?_cons_succ, List.getElem?_cons_zero]; rfl) rfl (fun w6 hr => ?_)
        have kl := hr.mod.at kl (fun h => h)
        have hput := put_c q cc _ yk ya w6 (HO2.out.mod0 hr.mod)
        have hm6 := hm.then0 hr.mod
        clear hm
        (refine eff_callP (by simp only [List.getElem?_toArray, List.getElem?_cons_succ, List.getElem?_cons_zero]; rfl) ?hw15 ?hy15 hput (fun wn hP => ?hn15); (case hw15 => rfl); (case hy15 => (go_simp; (try (first | with_reducible rfl | (constructor <;> with_reducible rfl))))); (try simp only [Act.put, List.setIfInBounds_toArray, List.set_cons_zero, List.set_cons_succ]))
        refine TE.nil ?_
        obtain ⟨hO3, m3⟩ := hP
        rw [puts_snoc HY.out] at hO3
        have hm3 := hm6.then m3 (fun j hj e => e)
        have HO3 := Lib.hid hO3
        clear hput hO3
        have hw1 : IntKind.i64.wrap ((t : Int) - 1) = (t : Int) - 1 := by
          rw [IntKind.wrap_i64]
          omega
        go_wp2_with fail
        go_roundw
        case rel =>
          refine ⟨?_, hm3⟩
          rcases Nat.eq_zero_or_pos t with h0 | h0
          · right
            subst h0
            refine ⟨rfl, ?_⟩
            have := HO3.out
            rwa [List.drop_zero] at this
          · left
            refine ⟨t - 1, by omega, by congr 1; omega, ?_⟩
            rw [show t - 1 + 1 = t by omega]
            exact HO3.out
        case measure => simp [intOf]
      · have HO2 := Lib.hid hO2
        have HT := Lib.hid (HT.out.mod hm (fun e => HQC.out.2.1 e) (fun e => HQC.out.2.2.2.1 e))
        clear hO2
        have k3 : wr.heap[p3]? = some (.cells (ac x) 33 (0, 0)) := hm.at (M5.out.at0 (M4.out.at0 K3.out)) (fun e => by
          subst e
          obtain ⟨_, es, ck, kb, _⟩ := HO.out
          rw [M5.out.at0 (M4.out.at0 K3.out)] at kb
          cases kb)
        have mm : Mod (fun _ => False) w wr := ((M2.out.then0 M4.out).then0 M5.out).then hm (fun i hi e => by
          have h1 := M2.out.size
          have h2 := M4.out.size
          have h3 := HQC.out
          omega)
        have HQ2 := Lib.hid (And.intro HT.out.lt HO2.out.lt)
        clear hm
        go_wp2_with fail
        go_at_call 15
        refine (copy_c p b m _ HT.out).mono ?_
        rintro e w6 ⟨q2, c2, rfl, hq2, hc2, hC, m6⟩
        have HQ3 : Hid (q2 ≠ cc ∧ c2 ≠ cc) := Lib.hid (by have := HQ2.out; omega)
        have HT := Lib.hid (HT.out.mod0 m6)
        have HO2 := Lib.hid (HO2.out.mod0 m6)
        have HC := Lib.hid hC
        have mm := mm.then0 m6
        replace k3 := m6.at0 k3
        have s1 : sameB m (putsM l4) = true := same_perm HPM.out.symm HN.out
        have s2 : sameB (putsM l4) m = true := same_perm HPM.out ((HPM.out.map Prod.fst).nodup_iff.2 HN.out)
        have s3 : sameB m m = true := same_perm (.refl _) HN.out
        have S1 := Lib.hid s1
        have S2 := Lib.hid s2
        have S3 := Lib.hid s3
        have AL := Lib.hid (again_law HPM.out HN.out HZ.out x.k x.a)
        have GP := Lib.hid (getA_perm HPM.out HN.out x.k)
        clear hq2 hc2 hC m6 s1 s2 s3
        generalize putsM l4 = n at *
        have hc1 : Calls Try.prog 19 #[.pointer (some ⟨p, 0, none⟩), .pointer (some ⟨q, 0, none⟩)] w6 fun e w' => e = .returned (.bool true) ∧ Mod (fun _ => False) w6 w' := (same2_c p b q cc m n w6 HT.out HO2.out).mono (fun e w' h => ⟨by rw [h.1, S1.out], h.2⟩)
        go_wp2_with fail
        go_at_call 19
        refine hc1.mono ?_
        rintro e w7 ⟨rfl, m7⟩
        clear hc1
        have HT := Lib.hid (HT.out.mod0 m7)
        have HO2 := Lib.hid (HO2.out.mod0 m7)
        have HC := Lib.hid (HC.out.mod0 m7)
        have mm := mm.then0 m7
        replace k3 := m7.at0 k3
        clear m7
        have hc1 : Calls Try.prog 19 #[.pointer (some ⟨q, 0, none⟩), .pointer (some ⟨p, 0, none⟩)] w7 fun e w' => e = .returned (.bool true) ∧ Mod (fun _ => False) w7 w' := (same2_c q cc p b n m w7 HO2.out HT.out).mono (fun e w' h => ⟨by rw [h.1, S2.out], h.2⟩)
        go_wp2_with fail
        go_at_call 19
        refine hc1.mono ?_
        rintro e w8 ⟨rfl, m8⟩
        clear hc1
        have HT := Lib.hid (HT.out.mod0 m8)
        have HO2 := Lib.hid (HO2.out.mod0 m8)
        have HC := Lib.hid (HC.out.mod0 m8)
        have mm := mm.then0 m8
        replace k3 := m8.at0 k3
        clear m8
        have hc1 : Calls Try.prog 19 #[.pointer (some ⟨p, 0, none⟩), .pointer (some ⟨q2, 0, none⟩)] w8 fun e w' => e = .returned (.bool true) ∧ Mod (fun _ => False) w8 w' := (same2_c p b q2 c2 m m w8 HT.out HC.out).mono (fun e w' h => ⟨by rw [h.1, S3.out], h.2⟩)
        go_wp2_with fail
        go_at_call 19
        refine hc1.mono ?_
        rintro e w9 ⟨rfl, m9⟩
        clear hc1
        have HT := Lib.hid (HT.out.mod0 m9)
        have HO2 := Lib.hid (HO2.out.mod0 m9)
        have HC := Lib.hid (HC.out.mod0 m9)
        have mm := mm.then0 m9
        replace k3 := m9.at0 k3
        clear m9
        have e1 := ac_k2 (x := x)
        have e2 := ac_a2 (x := x)
        have hn3 : p3 ≠ cc := by
          obtain ⟨_, es, ck, kb, _⟩ := HO2.out
          exact ne_of_obj k3 kb (by simp)
        obtain ⟨y, hy⟩ : ∃ y, getA n x.k = y := ⟨_, rfl⟩
        have HYY := Lib.hid hy
        clear hy
        go_upto_region 13 with fail
        have Lk3 := lt_size k3
        refine wp_pass0 (C := fun _ _ v => v = .agg (av y)) (κ := fun i => [0, 0, 1, 2, 3, 4].getD i 0) [0, 1, 2, 3, 4, 5] (by kernel_rfl) (by kernel_rfl) (fun _ _ d _ _ h => by cases d <;> exact h) ?_
        (refine TD.val0 (v := ?v16) (by simp only [List.getElem?_toArray, List.getElem?_cons_succ, List.getElem?_cons_zero]; rfl) rfl ?hw16 (fun w1 => ?hy16) ?hn16; (case hw16 => rfl); (case hy16 => (go_simp; (try with_reducible rfl))); (try simp only [Act.put, List.setIfInBounds_toArray, List.set_cons_zero, List.set_cons_succ]))
        (refine TD.val0 (v := ?v17) (by simp only [List.getElem?_toArray, List.getElem?_cons_succ, List.getElem?_cons_zero]; rfl) rfl ?hw17 (fun w1 => ?hy17) ?hn17; (case hw17 => rfl); (case hy17 => (go_simp; (try with_reducible rfl))); (try simp only [Act.put, List.setIfInBounds_toArray, List.set_cons_zero, List.set_cons_succ]))
        (refine TD.load (v := ?v18) (p := ?p18) (Mod.refl _ _) (by simp only [List.getElem?_toArray, List.getElem?_cons_succ, List.getElem?_cons_zero]; rfl) rfl ?hw18 rfl ?hx18 (fun wq hSq => ?hy18) ?hn18; (case hw18 => rfl); (case hx18 => (simp only [Act.eval, Array.getD_eq_getD_getElem?, List.getElem?_toArray, List.getElem?_cons_succ, List.getElem?_cons_zero, Option.getD_some]; (try rfl))); (case hy18 => (have k3q := hSq.at k3 (fun h => h); go_simp; (try with_reducible rfl))); (try simp only [Act.put, List.setIfInBounds_toArray, List.set_cons_zero, List.set_cons_succ]))
        (refine TD.call (f := ?f19) (args := ?r19) (Mod.refl _ _) (by simp only [List.getElem?_toArray, List.getElem?_cons_succ, List.getElem?_cons_zero]; rfl) rfl ?hw19 (fun w1 => ?hy19) ?hsp19 ?hn19; (case hw19 => rfl); (case hy19 => (go_simp; (first | with_reducible rfl | (constructor <;> with_reducible rfl)))); (case hsp19 => (intro wq hSq; have k3q := hSq.at k3 (fun h => h); exact (get_c q cc n x.k wq (HO2.out.mod0 hSq)).mono (fun e w' h => ⟨_, h.1, by rw [HYY.out], h.2⟩))); rintro _ rfl; (try simp only [Act.put, List.setIfInBounds_toArray, List.set_cons_zero, List.set_cons_succ]))
        (refine TD.allocB (by simp only [List.getElem?_toArray, List.getElem?_cons_succ, List.getElem?_cons_zero]; rfl) rfl ?hw20 rfl rfl alAcct (fun p10 hp10 => ?hn20); (case hw20 => rfl); (try simp only [Act.put, List.setIfInBounds_toArray, List.set_cons_zero, List.set_cons_succ]))
        (refine TD.storeB (d := ?d21) (T := ?T21) (y := ?y21) (p := ?p21) (b := ?b21) (v := ?v21) (by simp only [List.getElem?_toArray, List.getElem?_cons_succ, List.getElem?_cons_zero]; rfl) rfl ?hw21 ?hd21 ?hop21 ?hev21 ?hx21 ?hb21 ?htag21 (fun w1 hb1 => ?hy21) ?hn21; (case hw21 => rfl); (case hd21 => rfl); (case hop21 => rfl); (case hev21 => (simp only [Act.eval, Array.getD_eq_getD_getElem?, List.getElem?_toArray, List.getElem?_cons_succ, List.getElem?_cons_zero, Option.getD_some]; (try rfl))); (case hx21 => (simp only [Act.eval, Array.getD_eq_getD_getElem?, List.getElem?_toArray, List.getElem?_cons_succ, List.getElem?_cons_zero, Option.getD_some]; (try rfl))); (case hb21 => first | exact Bx.set_same _ _ _ | (simp only [Bx.set_same]; rfl)); (case hy21 => (go_simp; (try with_reducible rfl))); (try simp only [Act.put, List.setIfInBounds_toArray, List.set_cons_zero, List.set_cons_succ]))
        refine TD.nil (fun w10 hr => ?_)
        have k3 := hr.mod.at k3 (fun h => h)
        have kp10 := hr.box p10 _ (by first | exact Bx.set_same _ _ _ | (simp only [Bx.set_same]; rfl)); dsimp only [Value.cells] at kp10; obtain ⟨gp10, kp10⟩ := kp10
        have HT := Lib.hid (HT.out.mod0 hr.mod)
        have HO2 := Lib.hid (HO2.out.mod0 hr.mod)
        have HC := Lib.hid (HC.out.mod0 hr.mod)
        have mm := mm.then0 hr.mod
        have hn10 : p10 ≠ cc := by
          obtain ⟨_, es, ck, kb, _⟩ := HO2.out
          exact ne_of_obj kp10 kb (by simp)
        go_upto_region 14 with fail
        have Lk3 := lt_size k3
        have Lkp10 := lt_size kp10
        refine wp_pass0 (C := fun _ _ _ => False) (κ := fun i => [0, 0, 1, 0, 1, 5].getD i 0) [0, 1, 2, 3, 4, 5] (by kernel_rfl) (by kernel_rfl) (fun _ _ d _ _ h => by cases d <;> exact h) ?_
        (refine TD.val0 (v := ?v22) (by simp only [List.getElem?_toArray, List.getElem?_cons_succ, List.getElem?_cons_zero]; rfl) rfl ?hw22 (fun w1 => ?hy22) ?hn22; (case hw22 => rfl); (case hy22 => (go_simp; (try with_reducible rfl))); (try simp only [Act.put, List.setIfInBounds_toArray, List.set_cons_zero, List.set_cons_succ]))
        (refine TD.val0 (v := ?v23) (by simp only [List.getElem?_toArray, List.getElem?_cons_succ, List.getElem?_cons_zero]; rfl) rfl ?hw23 (fun w1 => ?hy23) ?hn23; (case hw23 => rfl); (case hy23 => (go_simp; (try with_reducible rfl))); (try simp only [Act.put, List.setIfInBounds_toArray, List.set_cons_zero, List.set_cons_succ]))
        (refine TD.load (v := ?v24) (p := ?p24) (Mod.refl _ _) (by simp only [List.getElem?_toArray, List.getElem?_cons_succ, List.getElem?_cons_zero]; rfl) rfl ?hw24 rfl ?hx24 (fun wq hSq => ?hy24) ?hn24; (case hw24 => rfl); (case hx24 => (simp only [Act.eval, Array.getD_eq_getD_getElem?, List.getElem?_toArray, List.getElem?_cons_succ, List.getElem?_cons_zero, Option.getD_some]; (try rfl))); (case hy24 => (have k3q := hSq.at k3 (fun h => h); have kp10q := hSq.at kp10 (fun h => h); go_simp; (try with_reducible rfl))); (try simp only [Act.put, List.setIfInBounds_toArray, List.set_cons_zero, List.set_cons_succ]))
        (refine TD.val0 (v := ?v25) (by simp only [List.getElem?_toArray, List.getElem?_cons_succ, List.getElem?_cons_zero]; rfl) rfl ?hw25 (fun w1 => ?hy25) ?hn25; (case hw25 => rfl); (case hy25 => (go_simp; (try with_reducible rfl))); (try simp only [Act.put, List.setIfInBounds_toArray, List.set_cons_zero, List.set_cons_succ]))
        (refine TD.load (v := ?v26) (p := ?p26) (Mod.refl _ _) (by simp only [List.getElem?_toArray, List.getElem?_cons_succ, List.getElem?_cons_zero]; rfl) rfl ?hw26 rfl ?hx26 (fun wq hSq => ?hy26) ?hn26; (case hw26 => rfl); (case hx26 => (simp only [Act.eval, Array.getD_eq_getD_getElem?, List.getElem?_toArray, List.getElem?_cons_succ, List.getElem?_cons_zero, Option.getD_some]; (try rfl))); (case hy26 => (have k3q := hSq.at k3 (fun h => h); have kp10q := hSq.at kp10 (fun h => h); go_simp; (try with_reducible rfl))); (try simp only [Act.put, List.setIfInBounds_toArray, List.set_cons_zero, List.set_cons_succ]))
        refine TD.eff (by simp only [List.getElem?_toArray, List.getElem?_cons_succ, List.getElem?_cons_zero]; rfl) rfl (fun w11 hr => ?_)
        have k3 := hr.mod.at k3 (fun h => h)
        have kp10 := hr.mod.at kp10 (fun h => h)
        have hput := put_c q cc n x.k x.a w11 (HO2.out.mod0 hr.mod)
        have mm := mm.then0 hr.mod
        have HT := Lib.hid (HT.out.mod0 hr.mod)
        have HC := Lib.hid (HC.out.mod0 hr.mod)
        have HB : Hid (w.heap.size ≤ cc) := Lib.hid (by
          have h1 := M2.out.size
          have h2 := M4.out.size
          have h3 := HQC.out
          omega)
        (refine eff_callP (by simp only [List.getElem?_toArray, List.getElem?_cons_succ, List.getElem?_cons_zero]; rfl) ?hw28 ?hy28 hput (fun wn hP => ?hn28); (case hw28 => rfl); (case hy28 => (go_simp; (try (first | with_reducible rfl | (constructor <;> with_reducible rfl))))); (try simp only [Act.put, List.setIfInBounds_toArray, List.set_cons_zero, List.set_cons_succ]))
        refine TE.nil ?_
        obtain ⟨hO3, m3⟩ := hP
        have HO3 := Lib.hid hO3
        have mm := mm.then m3 (fun i hi e => by have := HB.out; omega)
        have HT := Lib.hid (HT.out.mod m3 (fun e => HQC.out.2.1 e) (fun e => HQC.out.2.2.2.1 e))
        have HC := Lib.hid (HC.out.mod m3 (fun e => HQ3.out.1 e) (fun e => HQ3.out.2 e))
        replace k3 := m3.at k3 hn3
        replace kp10 := m3.at kp10 hn10
        have AL2 : Hid (sameB m (putA n x.k x.a) = decide (y = x.a)) := Lib.hid (by rw [AL.out, HYY.out])
        have GP2 : Hid (getA m x.k = y) := Lib.hid (by rw [← GP.out, HYY.out])
        clear hput hO3 m3 hn3 hn10
        go_upto_region 15 with fail
        have Lk3 := lt_size k3
        have Lkp10 := lt_size kp10
        refine wp_gpass (T0 := fun _ => False) (K := fun _ _ => True) (κ := fun i => [0, 0, 6, 0, 0, 0, 0, 0, 0, 0, 0, 6, 0, 0, 0, 0, 0, 6, 0, 0, 0, 0, 6, 0, 0].getD i 0) (υ := fun i => [[], [], [], [], [], [], [], [], [], [], [], [], [], [], [], [], [], [], [], [], [], [], [], [], []].getD i []) [0, 1, 2, 3, 4, 5, 6, 7, 8, 9, 10, 11, 12, 13, 14, 15, 16, 17, 18, 19, 20, 21, 22, 23, 24] (by kernel_rfl) (by kernel_rfl) (Good.true).cl (trivial) (fun _ h => h.elim) ?_
        have gK := Good.true
        (refine TG.v0 (v := ?v29) (by simp only [List.getElem?_toArray, List.getElem?_cons_succ, List.getElem?_cons_zero]; rfl) rfl ?hw29 (fun w1 => ?hy29) ?hn29; (case hw29 => rfl); (case hy29 => (go_simp; (try with_reducible rfl))); (try simp only [Act.put, List.setIfInBounds_toArray, List.set_cons_zero, List.set_cons_succ]))
        (refine TG.v0 (v := ?v30) (by simp only [List.getElem?_toArray, List.getElem?_cons_succ, List.getElem?_cons_zero]; rfl) rfl ?hw30 (fun w1 => ?hy30) ?hn30; (case hw30 => rfl); (case hy30 => (go_simp; (try with_reducible rfl))); (try simp only [Act.put, List.setIfInBounds_toArray, List.set_cons_zero, List.set_cons_succ]))
        (refine TG.callN (f := ?f31) (args := ?r31) (fun v => v = .bool (decide (y = x.a))) gK (by simp only [List.getElem?_toArray, List.getElem?_cons_succ, List.getElem?_cons_zero]; rfl) rfl ?hw31 (fun w1 => ?hy31) (fun T wq kq ltq hSq ub => ?hsp31) ?hn31; (case hw31 => rfl); (case hy31 => (go_simp; (first | with_reducible rfl | (constructor <;> with_reducible rfl)))); (case hsp31 => (have k3q := hSq.at k3 (by intro hT; first | exact hT | (simp only at hT; omega)); have kp10q := hSq.at kp10 (by intro hT; first | exact hT | (simp only at hT; omega)); exact (same2_c p b q cc m _ wq (HT.out.mod0 hSq) (HO3.out.mod0 hSq)).mono (fun e w' h => ⟨_, h.1, by rw [AL2.out], h.2⟩))); rintro v31 hC; subst hC; (try simp only [Act.put, List.setIfInBounds_toArray, List.set_cons_zero, List.set_cons_succ]))
        (refine TG.load (v := ?v32) (p := ?p32) (by simp only [List.getElem?_toArray, List.getElem?_cons_succ, List.getElem?_cons_zero]; rfl) rfl ?hw32 rfl ?hx32 (fun wq hSq => ?hy32) ?hn32; (case hw32 => rfl); (case hx32 => (simp only [Act.eval, Array.getD_eq_getD_getElem?, List.getElem?_toArray, List.getElem?_cons_succ, List.getElem?_cons_zero, Option.getD_some]; (try rfl))); (case hy32 => (have k3q := hSq.at k3 (by intro hT; first | exact hT | (simp only at hT; omega)); have kp10q := hSq.at kp10 (by intro hT; first | exact hT | (simp only at hT; omega)); go_simp; (try with_reducible rfl))); (try simp only [Act.put, List.setIfInBounds_toArray, List.set_cons_zero, List.set_cons_succ]))
        (refine TG.v0 (v := ?v33) (by simp only [List.getElem?_toArray, List.getElem?_cons_succ, List.getElem?_cons_zero]; rfl) rfl ?hw33 (fun w1 => ?hy33) ?hn33; (case hw33 => rfl); (case hy33 => (go_simp; (try with_reducible rfl))); (try simp only [Act.put, List.setIfInBounds_toArray, List.set_cons_zero, List.set_cons_succ]))
        (refine TG.load (v := ?v34) (p := ?p34) (by simp only [List.getElem?_toArray, List.getElem?_cons_succ, List.getElem?_cons_zero]; rfl) rfl ?hw34 rfl ?hx34 (fun wq hSq => ?hy34) ?hn34; (case hw34 => rfl); (case hx34 => (simp only [Act.eval, Array.getD_eq_getD_getElem?, List.getElem?_toArray, List.getElem?_cons_succ, List.getElem?_cons_zero, Option.getD_some]; (try rfl))); (case hy34 => (have k3q := hSq.at k3 (by intro hT; first | exact hT | (simp only at hT; omega)); have kp10q := hSq.at kp10 (by intro hT; first | exact hT | (simp only at hT; omega)); go_simp; (try with_reducible rfl))); (try simp only [Act.put, List.setIfInBounds_toArray, List.set_cons_zero, List.set_cons_succ]))
        (refine TG.v0 (v := ?v35) (by simp only [List.getElem?_toArray, List.getElem?_cons_succ, List.getElem?_cons_zero]; rfl) rfl ?hw35 (fun w1 => ?hy35) ?hn35; (case hw35 => rfl); (case hy35 => (go_simp; (try with_reducible rfl))); (try simp only [Act.put, List.setIfInBounds_toArray, List.set_cons_zero, List.set_cons_succ]))
        (refine TG.v0 (v := ?v36) (by simp only [List.getElem?_toArray, List.getElem?_cons_succ, List.getElem?_cons_zero]; rfl) rfl ?hw36 (fun w1 => ?hy36) ?hn36; (case hw36 => rfl); (case hy36 => (go_simp; (try with_reducible rfl))); (try simp only [Act.put, List.setIfInBounds_toArray, List.set_cons_zero, List.set_cons_succ]))
        (refine TG.v0 (v := ?v37) (by simp only [List.getElem?_toArray, List.getElem?_cons_succ, List.getElem?_cons_zero]; rfl) rfl ?hw37 (fun w1 => ?hy37) ?hn37; (case hw37 => rfl); (case hy37 => (go_simp; (try with_reducible rfl))); (try simp only [Act.put, List.setIfInBounds_toArray, List.set_cons_zero, List.set_cons_succ]))
        (refine TG.v0 (v := ?v38) (by simp only [List.getElem?_toArray, List.getElem?_cons_succ, List.getElem?_cons_zero]; rfl) rfl ?hw38 (fun w1 => ?hy38) ?hn38; (case hw38 => rfl); (case hy38 => (go_simp; (try with_reducible rfl))); (try simp only [Act.put, List.setIfInBounds_toArray, List.set_cons_zero, List.set_cons_succ]))
        (refine TG.v0 (v := ?v39) (by simp only [List.getElem?_toArray, List.getElem?_cons_succ, List.getElem?_cons_zero]; rfl) rfl ?hw39 (fun w1 => ?hy39) ?hn39; (case hw39 => rfl); (case hy39 => (go_simp; (try with_reducible rfl))); (try simp only [Act.put, List.setIfInBounds_toArray, List.set_cons_zero, List.set_cons_succ]))
        (refine TG.callN (f := ?f40) (args := ?r40) (fun v => v = .bool true) gK (by simp only [List.getElem?_toArray, List.getElem?_cons_succ, List.getElem?_cons_zero]; rfl) rfl ?hw40 (fun w1 => ?hy40) (fun T wq kq ltq hSq ub => ?hsp40) ?hn40; (case hw40 => rfl); (case hy40 => (go_simp; (first | with_reducible rfl | (constructor <;> with_reducible rfl)))); (case hsp40 => (have k3q := hSq.at k3 (by intro hT; first | exact hT | (simp only at hT; omega)); have kp10q := hSq.at kp10 (by intro hT; first | exact hT | (simp only at hT; omega)); exact (same2_c p b q2 c2 m m wq (HT.out.mod0 hSq) (HC.out.mod0 hSq)).mono (fun e w' h => ⟨_, h.1, by rw [S3.out], h.2⟩))); rintro v40 hC; subst hC; (try simp only [Act.put, List.setIfInBounds_toArray, List.set_cons_zero, List.set_cons_succ]))
        (refine TG.v0 (v := ?v41) (by simp only [List.getElem?_toArray, List.getElem?_cons_succ, List.getElem?_cons_zero]; rfl) rfl ?hw41 (fun w1 => ?hy41) ?hn41; (case hw41 => rfl); (case hy41 => (go_simp; (try with_reducible rfl))); (try simp only [Act.put, List.setIfInBounds_toArray, List.set_cons_zero, List.set_cons_succ]))
        (refine TG.v0 (v := ?v42) (by simp only [List.getElem?_toArray, List.getElem?_cons_succ, List.getElem?_cons_zero]; rfl) rfl ?hw42 (fun w1 => ?hy42) ?hn42; (case hw42 => rfl); (case hy42 => (go_simp; (try with_reducible rfl))); (try simp only [Act.put, List.setIfInBounds_toArray, List.set_cons_zero, List.set_cons_succ]))
        (refine TG.v0 (v := ?v43) (by simp only [List.getElem?_toArray, List.getElem?_cons_succ, List.getElem?_cons_zero]; rfl) rfl ?hw43 (fun w1 => ?hy43) ?hn43; (case hw43 => rfl); (case hy43 => (go_simp; (try with_reducible rfl))); (try simp only [Act.put, List.setIfInBounds_toArray, List.set_cons_zero, List.set_cons_succ]))
        (refine TG.v0 (v := ?v44) (by simp only [List.getElem?_toArray, List.getElem?_cons_succ, List.getElem?_cons_zero]; rfl) rfl ?hw44 (fun w1 => ?hy44) ?hn44; (case hw44 => rfl); (case hy44 => (go_simp; (try with_reducible rfl))); (try simp only [Act.put, List.setIfInBounds_toArray, List.set_cons_zero, List.set_cons_succ]))
        (refine TG.load (v := ?v45) (p := ?p45) (by simp only [List.getElem?_toArray, List.getElem?_cons_succ, List.getElem?_cons_zero]; rfl) rfl ?hw45 rfl ?hx45 (fun wq hSq => ?hy45) ?hn45; (case hw45 => rfl); (case hx45 => (simp only [Act.eval, Array.getD_eq_getD_getElem?, List.getElem?_toArray, List.getElem?_cons_succ, List.getElem?_cons_zero, Option.getD_some]; (try rfl))); (case hy45 => (have k3q := hSq.at k3 (by intro hT; first | exact hT | (simp only at hT; omega)); have kp10q := hSq.at kp10 (by intro hT; first | exact hT | (simp only at hT; omega)); go_simp; (try with_reducible rfl))); (try simp only [Act.put, List.setIfInBounds_toArray, List.set_cons_zero, List.set_cons_succ]))
        (refine TG.callN (f := ?f46) (args := ?r46) (fun v => v = .agg (av y)) gK (by simp only [List.getElem?_toArray, List.getElem?_cons_succ, List.getElem?_cons_zero]; rfl) rfl ?hw46 (fun w1 => ?hy46) (fun T wq kq ltq hSq ub => ?hsp46) ?hn46; (case hw46 => rfl); (case hy46 => (go_simp; (first | with_reducible rfl | (constructor <;> with_reducible rfl)))); (case hsp46 => (have k3q := hSq.at k3 (by intro hT; first | exact hT | (simp only at hT; omega)); have kp10q := hSq.at kp10 (by intro hT; first | exact hT | (simp only at hT; omega)); exact (get_c p b m x.k wq (HT.out.mod0 hSq)).mono (fun e w' h => ⟨_, h.1, by rw [GP2.out], h.2⟩))); rintro v46 hC; subst hC; (try simp only [Act.put, List.setIfInBounds_toArray, List.set_cons_zero, List.set_cons_succ]))
        (refine TG.load (v := ?v47) (p := ?p47) (by simp only [List.getElem?_toArray, List.getElem?_cons_succ, List.getElem?_cons_zero]; rfl) rfl ?hw47 rfl ?hx47 (fun wq hSq => ?hy47) ?hn47; (case hw47 => rfl); (case hx47 => (simp only [Act.eval, Array.getD_eq_getD_getElem?, List.getElem?_toArray, List.getElem?_cons_succ, List.getElem?_cons_zero, Option.getD_some]; (try rfl))); (case hy47 => (have k3q := hSq.at k3 (by intro hT; first | exact hT | (simp only at hT; omega)); have kp10q := hSq.at kp10 (by intro hT; first | exact hT | (simp only at hT; omega)); go_simp; (try with_reducible rfl))); (try simp only [Act.put, List.setIfInBounds_toArray, List.set_cons_zero, List.set_cons_succ]))
        (refine TG.v0 (v := ?v48) (by simp only [List.getElem?_toArray, List.getElem?_cons_succ, List.getElem?_cons_zero]; rfl) rfl ?hw48 (fun w1 => ?hy48) ?hn48; (case hw48 => rfl); (case hy48 => (go_simp; (try with_reducible rfl))); (try simp only [Act.put, List.setIfInBounds_toArray, List.set_cons_zero, List.set_cons_succ]))
        (refine TG.v0 (v := ?v49) (by simp only [List.getElem?_toArray, List.getElem?_cons_succ, List.getElem?_cons_zero]; rfl) rfl ?hw49 (fun w1 => ?hy49) ?hn49; (case hw49 => rfl); (case hy49 => (go_simp; (try with_reducible rfl))); (try simp only [Act.put, List.setIfInBounds_toArray, List.set_cons_zero, List.set_cons_succ]))
        (refine TG.v0 (v := ?v50) (by simp only [List.getElem?_toArray, List.getElem?_cons_succ, List.getElem?_cons_zero]; rfl) rfl ?hw50 (fun w1 => ?hy50) ?hn50; (case hw50 => rfl); (case hy50 => (go_simp; (try with_reducible rfl))); (try simp only [Act.put, List.setIfInBounds_toArray, List.set_cons_zero, List.set_cons_succ]))
        (refine TG.callN (f := ?f51) (args := ?r51) (fun v => v = .bool true) gK (by simp only [List.getElem?_toArray, List.getElem?_cons_succ, List.getElem?_cons_zero]; rfl) rfl ?hw51 (fun w1 => ?hy51) (fun T wq kq ltq hSq ub => ?hsp51) ?hn51; (case hw51 => rfl); (case hy51 => (go_simp; (first | with_reducible rfl | (constructor <;> with_reducible rfl)))); (case hsp51 => (have k3q := hSq.at k3 (by intro hT; first | exact hT | (simp only at hT; omega)); have kp10q := hSq.at kp10 (by intro hT; first | exact hT | (simp only at hT; omega)); exact (lives_c wq).mono (fun e w' h => ⟨_, h.1, rfl, h.2⟩))); rintro v51 hC; subst hC; (try simp only [Act.put, List.setIfInBounds_toArray, List.set_cons_zero, List.set_cons_succ]))
        (refine TG.v0 (v := ?v52) (by simp only [List.getElem?_toArray, List.getElem?_cons_succ, List.getElem?_cons_zero]; rfl) rfl ?hw52 (fun w1 => ?hy52) ?hn52; (case hw52 => rfl); (case hy52 => (go_simp; (try with_reducible rfl))); (try simp only [Act.put, List.setIfInBounds_toArray, List.set_cons_zero, List.set_cons_succ]))
        (refine TG.v0 (v := ?v53) (by simp only [List.getElem?_toArray, List.getElem?_cons_succ, List.getElem?_cons_zero]; rfl) rfl ?hw53 (fun w1 => ?hy53) ?hn53; (case hw53 => rfl); (case hy53 => (go_simp; (try with_reducible rfl))); (try simp only [Act.put, List.setIfInBounds_toArray, List.set_cons_zero, List.set_cons_succ]))
        refine TG.nil (fun w12 ⟨TR, hr⟩ => ?_)
        have k3 := hr.mod.at k3 (by intro hT; first | exact hT | (simp only at hT; omega))
        have kp10 := hr.mod.at kp10 (by intro hT; first | exact hT | (simp only at hT; omega))
        clear gK
        have mm := mm.then0 hr.mod
        go_wp2_with fail
        go_ret
        exact ⟨rfl, mm⟩
end Go.Proofs.Ytknmiojegnbakaa
