/- LocksOne: one worker may take whatever it has already; readers go together. -/
import Derived.Test.YtleenmldlbccmaaLives
import Derived.Test.YtleenmldlbccmaaRd
namespace Go.Proofs.Ytleenmldlbccmaa
open Go.RowKit
open Go.ChangeMaps (setBlock)
set_option linter.unusedSimpArgs false
set_option linter.unusedVariables false
attribute [local go_sem ↓] wlKey wlRole wlSpot wlCounts wlBits ldKey ldRole ldSpot ldCounts ldBits stKey stRole stSpot stCounts stBits eqCounts eqBits
attribute [local go_sem] zKey_size zRole_size eqHeld cell_blk frozen_blk kc_ext rc_size rc_key rc_all rc_s rc_w rc_s' rc_w' rc_one sc_size sc_key sc_all sc_n sc_n' sc_one one_int one_bool one_ptr one_slice one_map zSpot_size kc_one kc_one0 Value.cells
def rdR (r : Role) : Role := ⟨r.k, r.s, false⟩
set_option maxHeartbeats 1600000 in
theorem one_c (a : Option Addr) (l : List Role) (c : Nat) (m : Int) (w : World) (hl : RolesAt w a l) (hlt : ∀ y, a = some y → y.block < w.heap.size ∨ l = []) (hlm : l.length ≤ maxLen) (hm0 : 0 ≤ m) (hm1 : m ≤ 255) :
    Calls Try.prog 7 #[.slice a l.length c, .int .u8 m] w fun e w' => e = .returned (.bool true) ∧ Mod (fun _ => False) w w' := by
  by_cases hbig : 100 < l.length
  · have hbg : (100 : Int) < (l.length : Int) := by omega
    go_enter Try.func7, Try.ntmps7
    go_wp2_with (go_at_call 10; refine (lives_c _).mono ?_; rintro e w' ⟨rfl, hm2⟩)
    go_ret
    exact ⟨rfl, hm2⟩
  · have hbg : ¬ (100 : Int) < (l.length : Int) := by omega
    go_enter Try.func7, Try.ntmps7
    go_wp2_with (go_at_call 11; refine (new_c 4 _ (by omega) (by omega)).mono ?_; rintro e w1 ⟨t, hb, wb, rfl, ht, hhb, hwb, hT, hm⟩)
    obtain ⟨Lt, Lh, Lw⟩ := hT.lt
    have hl1 := hl.mod0 hm
    have HT := Lib.hid hT
    clear hT
    go_loopw [7, 8] (fun s7 s8 wr => ∃ j : Nat, j ≤ l.length ∧ s8 = .int .i64 j ∧ RoleOwn wr w1.heap.size s7 ((l.take j).map rdR) ∧ Mod (fun _ => False) w1 wr) (fun _ s8 _ => l.length - (intOf s8).toNat)
    case atStart => exact ⟨0, by omega, rfl, RoleOwn.nil _ _, Mod.refl _ _⟩
    case round =>
      obtain ⟨j, hj, rfl, hown, hm1⟩ := hrel
      have hl2 := hl1.mod0 hm1
      by_cases hlt2 : j < l.length
      · obtain ⟨r, hr⟩ : ∃ r, l[j]? = some r := ⟨_, List.getElem?_eq_getElem hlt2⟩
        obtain ⟨b, o, C, U, fr, rfl, kl, hc⟩ : ∃ b o C U fr, a = some ⟨b, o, none⟩ ∧ wr.heap[b]? = some (.cells C U fr) ∧
            ∀ i r, l[i]? = some r → C.extract (o + i * 34) (o + i * 34 + 34) = rc r.k r.s r.w ∧ o + i * 34 + 34 ≤ C.size := by
          rcases hl2 with rfl | h
          · simp at hr
          · exact h
        obtain ⟨hx, hle⟩ := hc j r hr
        have htake : (l.take (j + 1)).map rdR = (l.take j).map rdR ++ [rdR r] := by
          rw [List.take_add_one, hr]
          simp
        obtain ⟨k, s, b1⟩ := r
        dsimp only at hx
        have HTK := Lib.hid htake
        have HO := Lib.hid hown
        clear hc hr htake hown hl2
        have mm := hm1
        go_upto_region 10 with fail
        have Lkl := lt_size kl
        refine wp_pass0 (C := fun _ _ _ => False) (κ := fun i => [0, 0, 0, 1, 3, 4].getD i 0) [0, 1, 2, 3, 4, 5] (by kernel_rfl) (by kernel_rfl) (fun _ _ d _ _ h => by cases d <;> exact h) ?_
        (refine TD.val0 (v := ?v1) (by simp only [List.getElem?_toArray, List.getElem?_cons_succ, List.getElem?_cons_zero]; rfl) rfl ?hw1 (fun w1 => ?hy1) ?hn1; (case hw1 => rfl); (case hy1 => (go_simp; (try with_reducible rfl))); (try simp only [Act.put, List.setIfInBounds_toArray, List.set_cons_zero, List.set_cons_succ]))
        (refine TD.val0 (v := ?v2) (by simp only [List.getElem?_toArray, List.getElem?_cons_succ, List.getElem?_cons_zero]; rfl) rfl ?hw2 (fun w1 => ?hy2) ?hn2; (case hw2 => rfl); (case hy2 => (go_simp; (try with_reducible rfl))); (try simp only [Act.put, List.setIfInBounds_toArray, List.set_cons_zero, List.set_cons_succ]))
        (refine TD.val0 (v := ?v3) (by simp only [List.getElem?_toArray, List.getElem?_cons_succ, List.getElem?_cons_zero]; rfl) rfl ?hw3 (fun w1 => ?hy3) ?hn3; (case hw3 => rfl); (case hy3 => (go_simp; (try with_reducible rfl))); (try simp only [Act.put, List.setIfInBounds_toArray, List.set_cons_zero, List.set_cons_succ]))
        (refine TD.load (v := ?v4) (p := ?p4) (Mod.refl _ _) (by simp only [List.getElem?_toArray, List.getElem?_cons_succ, List.getElem?_cons_zero]; rfl) rfl ?hw4 rfl ?hx4 (fun wq hSq => ?hy4) ?hn4; (case hw4 => rfl); (case hx4 => (simp only [Act.eval, Array.getD_eq_getD_getElem?, List.getElem?_toArray, List.getElem?_cons_succ, List.getElem?_cons_zero, Option.getD_some]; (try rfl))); (case hy4 => (have klq := hSq.at kl (fun h => h); go_simp; (try with_reducible rfl))); (try simp only [Act.put, List.setIfInBounds_toArray, List.set_cons_zero, List.set_cons_succ]))
        (refine TD.allocB (by simp only [List.getElem?_toArray, List.getElem?_cons_succ, List.getElem?_cons_zero]; rfl) rfl ?hw5 rfl rfl alRole (fun p9 hp9 => ?hn5); (case hw5 => rfl); (try simp only [Act.put, List.setIfInBounds_toArray, List.set_cons_zero, List.set_cons_succ]))
        (refine TD.storeB (d := ?d6) (T := ?T6) (y := ?y6) (p := ?p6) (b := ?b6) (v := ?v6) (by simp only [List.getElem?_toArray, List.getElem?_cons_succ, List.getElem?_cons_zero]; rfl) rfl ?hw6 ?hd6 ?hop6 ?hev6 ?hx6 ?hb6 ?htag6 (fun w1 hb1 => ?hy6) ?hn6; (case hw6 => rfl); (case hd6 => rfl); (case hop6 => rfl); (case hev6 => (simp only [Act.eval, Array.getD_eq_getD_getElem?, List.getElem?_toArray, List.getElem?_cons_succ, List.getElem?_cons_zero, Option.getD_some]; (try rfl))); (case hx6 => (simp only [Act.eval, Array.getD_eq_getD_getElem?, List.getElem?_toArray, List.getElem?_cons_succ, List.getElem?_cons_zero, Option.getD_some]; (try rfl))); (case hb6 => first | exact Bx.set_same _ _ _ | (simp only [Bx.set_same]; rfl)); (case hy6 => (go_simp; (try with_reducible rfl))); (try simp only [Act.put, List.setIfInBounds_toArray, List.set_cons_zero, List.set_cons_succ]))
        refine TD.nil (fun w2 hr => ?_)
        have kl := hr.mod.at kl (fun h => h)
        have kp9 := hr.box p9 _ (by first | exact Bx.set_same _ _ _ | (simp only [Bx.set_same]; rfl)); dsimp only [Value.cells] at kp9; obtain ⟨gp9, kp9⟩ := kp9
        have mm := mm.then0 hr.mod
        have hO2 := HO.out.mod hr.mod (fun _ _ h => h)
        go_upto_region 11 with fail
        have Lkl := lt_size kl
        have Lkp9 := lt_size kp9
        refine wp_pass0 (C := fun _ _ _ => False) (κ := fun i => [0, 5].getD i 0) [0, 1] (by kernel_rfl) (by kernel_rfl) (fun _ _ d _ _ h => by cases d <;> exact h) ?_
        (refine TD.val0 (v := ?v7) (by simp only [List.getElem?_toArray, List.getElem?_cons_succ, List.getElem?_cons_zero]; rfl) rfl ?hw7 (fun w1 => ?hy7) ?hn7; (case hw7 => rfl); (case hy7 => (go_simp; (try with_reducible rfl))); (try simp only [Act.put, List.setIfInBounds_toArray, List.set_cons_zero, List.set_cons_succ]))
        refine TD.eff (by simp only [List.getElem?_toArray, List.getElem?_cons_succ, List.getElem?_cons_zero]; rfl) rfl (fun wE hr => ?_)
        have kl := hr.mod.at0 kl
        have kp9 := hr.mod.at0 kp9
        have mE := hr.mod
        (refine eff_store (X := ?X8) (Y := ?Y8) (w' := ?w8) (by simp only [List.getElem?_toArray, List.getElem?_cons_succ, List.getElem?_cons_zero]; rfl) ?hw8 rfl ?hx8 ?hz8 ?hy8 ?hn8; (case hw8 => rfl); (case hx8 => (simp only [Act.eval, Array.getD_eq_getD_getElem?, List.getElem?_toArray, List.getElem?_cons_succ, List.getElem?_cons_zero, Option.getD_some]; (try rfl))); (case hz8 => (simp only [Act.eval, Array.getD_eq_getD_getElem?, List.getElem?_toArray, List.getElem?_cons_succ, List.getElem?_cons_zero, Option.getD_some]; (try rfl))); (case hy8 => (go_simp; (try with_reducible rfl))))
        (first | refine TE.nil_set kp9 (fun w3 kp9 mS => ?_) | refine TE.nil_setCell kp9 (fun w3 kp9 mS => ?_))
        (try simp only [Array.setIfInBounds, List.setIfInBounds_toArray, List.set_cons_zero, List.set_cons_succ] at kp9)
        have kl := mS.at_ne kl (by omega)
        replace kp9 : w3.heap[p9]? = some (.cells (rc k s false) 44 (0, 0)) := by
          rw [← rc_setw k s b1 false]
          exact kp9
        have hsz := mm.size
        have hsz1 := hm1.size
        have mm := (mm.then0 mE).thenB mS (.inl (by omega))
        have hol := World.ownsRow.lt HO.out
        have hO3 := (hO2.mod mE (fun _ _ h => h)).mod mS (fun x hx e => by have := hol x hx; omega)
        have hbs := bsRole k s false w3
        have mal := (Mod.refl (fun _ => False) w3).alloc (.cells (rc k s false) 44)
        have hO4 := hO3.mod mal (fun _ _ h => h)
        obtain ⟨v', w5, hap, hO5, mA, hat⟩ := hO4.append ⟨k, s, false⟩ (heap_alloc_new _ _) (by rw [List.length_map, List.length_take]; omega) (Nat.le_trans mm.size mal.size) 23
        have mm := (mm.then0 mal).then mA (fun i hi e => by have := hol i e; omega)
        have HO5 := Lib.hid hO5
        have hst : wE.heap.size ≤ w3.heap.size := mS.size
        clear hO5 hO4 hO3 hO2
        go_upto_region 12 with fail
        refine region_seq 5 rfl ?_
        simp only [List.range, List.range.loop]
        (refine sq_val (v := ?v9) (by simp only [List.getElem?_toArray, List.getElem?_cons_succ, List.getElem?_cons_zero]; rfl) ?hw9 ?hy9 ?hn9; (case hw9 => rfl); (case hy9 => (go_simp; (try with_reducible rfl))); (try simp only [Act.put, List.setIfInBounds_toArray, List.set_cons_zero, List.set_cons_succ]))
        (refine sq_load (v := ?v10) (p := ?p10) (by simp only [List.getElem?_toArray, List.getElem?_cons_succ, List.getElem?_cons_zero]; rfl) ?hw10 rfl ?hx10 ?hy10 ?hn10; (case hw10 => rfl); (case hx10 => (simp only [Act.eval, Array.getD_eq_getD_getElem?, List.getElem?_toArray, List.getElem?_cons_succ, List.getElem?_cons_zero, Option.getD_some]; (try rfl))); (case hy10 => (go_simp; (try with_reducible rfl))); (try simp only [Act.put, List.setIfInBounds_toArray, List.set_cons_zero, List.set_cons_succ]))
        (refine sq_build (by simp only [List.getElem?_toArray, List.getElem?_cons_succ, List.getElem?_cons_zero]; rfl) ?hw11 rfl ?hx11 hbs ?hn11; (case hw11 => rfl); (case hx11 => (simp only [List.map_toArray, List.map_cons, List.map_nil, Act.eval, Array.getD_eq_getD_getElem?, List.getElem?_toArray, List.getElem?_cons_succ, List.getElem?_cons_zero, Option.getD_some]; (try rfl))); (try simp only [Act.put, List.setIfInBounds_toArray, List.set_cons_zero, List.set_cons_succ]))
        (refine sq_append (by simp only [List.getElem?_toArray, List.getElem?_cons_succ, List.getElem?_cons_zero]; rfl) ?hw12 rfl ?hx12 ?hz12 hap ?hn12; (case hw12 => rfl); (case hx12 => (simp only [Act.eval, Array.getD_eq_getD_getElem?, List.getElem?_toArray, List.getElem?_cons_succ, List.getElem?_cons_zero, Option.getD_some]; (try rfl))); (case hz12 => (simp only [Act.eval, Array.getD_eq_getD_getElem?, List.getElem?_toArray, List.getElem?_cons_succ, List.getElem?_cons_zero, Option.getD_some]; (try rfl))); (try simp only [Act.put, List.setIfInBounds_toArray, List.set_cons_zero, List.set_cons_succ]))
        (refine sq_val (v := ?v13) (by simp only [List.getElem?_toArray, List.getElem?_cons_succ, List.getElem?_cons_zero]; rfl) ?hw13 ?hy13 ?hn13; (case hw13 => rfl); (case hy13 => (go_simp; (try with_reducible rfl))); (try simp only [Act.put, List.setIfInBounds_toArray, List.set_cons_zero, List.set_cons_succ]))
        refine sq_nil ?_
        clear hol hat hap hbs
        go_wp2_with fail
        go_roundw
        case rel => exact ⟨j + 1, by omega, by go_num, by rw [HTK.out]; exact HO5.out, mm⟩
        case measure => simp [intOf]; omega
      · obtain rfl : j = l.length := by omega
        rw [List.take_length] at hown
        have HO := Lib.hid hown
        have hT1 := HT.out.mod0 hm1
        have HT1 := Lib.hid hT1
        clear hown hT1
        obtain ⟨kn, hkn, hkn1, hkn2⟩ : ∃ kn : Nat, (kn : Int) = 1 + m % 5 ∧ 1 ≤ kn ∧ kn ≤ 10 := ⟨(1 + m % 5).toNat, by omega, by omega, by omega⟩
        obtain ⟨aq, cq, rfl, hq, haq, _⟩ := HO.out.roles
        have hqr : ∀ r ∈ l.map rdR, r.w = false := fun r hr => by
          obtain ⟨x, _, rfl⟩ := List.mem_map.1 hr
          rfl
        have hql : (l.map rdR).length ≤ 1000 := by rw [List.length_map]; omega
        have hqn : (l.map rdR).length = l.length := List.length_map _
        have hmw := hm.trans hm1
        go_wp2_with fail
        generalize l.map rdR = q at *
        rw [hqn, ← hkn]
        clear hkn
        have HQ := Lib.hid hqr
        clear hqr
        go_loopw [11] (fun s11 wr => ∃ i : Nat, i ≤ kn ∧ s11 = .int .i64 i ∧ TabAt wr t hb wb 4 (LL q 0 i) ∧ RolesAt wr aq q ∧ RolesAt wr a l ∧ Mod (fun _ => False) w wr) (fun s11 _ => kn - (intOf s11).toNat)
        case atStart => exact ⟨0, by omega, rfl, by rw [LL_nil]; exact HT1.out, hq, hl2, hmw⟩
        case round =>
          clear hq hl2 hmw
          obtain ⟨i, hi, rfl, hT, hq, hl2, hmw⟩ := hrel
          have HT2 := Lib.hid hT
          by_cases hik : i < kn
          · have htk := take_rd t hb wb q i aq cq wr HQ.out hT hq hql (by omega)
            rw [hqn] at htk
            have HK := Lib.hid htk
            clear htk hT
            go_wp2_with (first
              | (go_at_call 17; refine HK.out.mono ?_; clear HK; rintro e w2 ⟨rfl, hT3, hm3⟩; have htr := threads_rd t hb wb q 0 (i + 1) aq cq w2 HQ.out hT3 (hq.modT HT2.out hm3) hql; rw [hqn] at htr; have HK2 := Lib.hid htr; have HT3 := Lib.hid hT3; clear htr hT3)
              | (go_at_call 13; refine HK2.out.mono ?_; clear HK2; rintro e w4 ⟨rfl, hm4⟩))
            have hmm := (hm3.trans (hm4.mono (fun _ _ h => h.elim)))
            go_roundw
            case rel => exact ⟨i + 1, by omega, by go_num, HT3.out.mod0 hm4, hq.modT HT2.out hmm, hl2.modT HT2.out hmm, hmw.gone hmm hhb hwb⟩
            case measure => simp [intOf]; omega
          · obtain rfl : kn = i := by omega
            go_wp2_with fail
            go_loopw [12] (fun s12 wr => ∃ i : Nat, i ≤ kn ∧ s12 = .int .i64 i ∧ TabAt wr t hb wb 4 (LL q i kn) ∧ RolesAt wr aq q ∧ RolesAt wr a l ∧ Mod (fun _ => False) w wr) (fun s12 _ => kn - (intOf s12).toNat)
            case atStart => exact ⟨0, by omega, rfl, HT2.out, hq, hl2, hmw⟩
            case round =>
              clear hq hl2 hmw HT2 hT hi hik
              obtain ⟨i, hi, rfl, hT, hq, hl2, hmw⟩ := hrel
              have HT2 := Lib.hid hT
              by_cases hik : i < kn
              · have htk := release_rd t hb wb q i kn aq cq wr hT hq hql hik (by omega)
                rw [hqn] at htk
                have HK := Lib.hid htk
                clear htk hT
                go_wp2_with (go_at_call 15; refine HK.out.mono ?_; clear HK; rintro e w2 ⟨rfl, hT3, hm3⟩)
                go_roundw
                case rel => exact ⟨i + 1, by omega, by go_num, hT3, hq.modT HT2.out hm3, hl2.modT HT2.out hm3, hmw.gone hm3 hhb hwb⟩
                case measure => simp [intOf]; omega
              · obtain rfl : kn = i := by omega
                rw [LL_nil] at hT
                have HT4 := Lib.hid hT
                clear hT HT2
                go_wp2_with fail
                go_loopw [13] (fun s13 wr => ∃ i : Nat, i ≤ kn ∧ s13 = .int .i64 i ∧ TabAt wr t hb wb 4 (RR l i) ∧ RolesAt wr a l ∧ Mod (fun _ => False) w wr) (fun s13 _ => kn - (intOf s13).toNat)
                case atStart => exact ⟨0, by omega, rfl, HT4.out, hl2, hmw⟩
                case round =>
                  clear hq hl2 hmw HT4 hi hik
                  obtain ⟨i, hi, rfl, hT, hl2, hmw⟩ := hrel
                  have HT2 := Lib.hid hT
                  by_cases hik : i < kn
                  · have htk := take_rr t hb wb l i a c wr hT hl2 (by omega) (by omega)
                    have HK := Lib.hid htk
                    clear htk hT
                    go_wp2_with (first
                      | (go_at_call 17; refine HK.out.mono ?_; clear HK; rintro e w2 ⟨rfl, hT3, hm3⟩; obtain ⟨x, hx1, hx2, htr⟩ := threads_rr t hb wb l (i + 1) a c w2 hT3 (hl2.modT HT2.out hm3) (by omega); have HK2 := Lib.hid htr; have HT3 := Lib.hid hT3; clear htr hT3)
                      | (go_at_call 13; refine HK2.out.mono ?_; clear HK2; rintro e w4 ⟨rfl, hm4⟩))
                    have hmm := (hm3.trans (hm4.mono (fun _ _ h => h.elim)))
                    go_roundw
                    case rel => exact ⟨i + 1, by omega, by go_num, HT3.out.mod0 hm4, hl2.modT HT2.out hmm, hmw.gone hmm hhb hwb⟩
                    case measure => simp [intOf]; omega
                  · obtain rfl : kn = i := by omega
                    have hfr := free_T t hb wb 4 (RR l kn) wr hT
                    rw [RR_empty l kn hkn1] at hfr
                    have HK := Lib.hid hfr
                    clear hfr hT HT2
                    cases l with
                    | nil =>
                      go_wp2_with (first
                        | (go_at_call 19; refine HK.out.mono ?_; clear HK; rintro e w2 ⟨rfl, rfl⟩)
                        | (go_at_call 10; refine (lives_c _).mono ?_; rintro e w' ⟨rfl, hm2⟩))
                      go_ret
                      exact ⟨rfl, hmw.trans hm2⟩
                    | cons r l' =>
                      have hp : (0 : Int) < ((r :: l').length : Int) := by simp only [List.length_cons]; omega
                      go_wp2_with (first
                        | (go_at_call 19; refine HK.out.mono ?_; clear HK; rintro e w2 ⟨rfl, rfl⟩)
                        | (go_at_call 10; refine (lives_c _).mono ?_; rintro e w' ⟨rfl, hm2⟩))
                      go_ret
                      exact ⟨rfl, hmw.trans hm2⟩
end Go.Proofs.Ytleenmldlbccmaa
