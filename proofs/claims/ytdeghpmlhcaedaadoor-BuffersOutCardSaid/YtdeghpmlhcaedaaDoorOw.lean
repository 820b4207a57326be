/- Buffers: the walk of BuffersOut. -/
import Derived.Test.YtdeghpmlhcaedaaDoorBo4
import Derived.IntWalk
namespace Go.Proofs.YtdeghpmlhcaedaaDoor
open Go.RowKit
open Go.ChangeMaps (setBlock)
set_option linter.unusedSimpArgs false
set_option linter.unusedVariables false
attribute [local go_sem ↓] wlItem ldItem stItem wlRk ldRk stRk
attribute [local go_sem] cell_blk frozen_blk one_int one_bool one_ptr one_slice one_map Value.cells rkc_size rkc_all1 itr_size itr_all itr_one itr_one' itr_n itr_prio itr_pl itr_sent itr_n' itr_prio' itr_pl' itr_sent' itr_r zItem_size zItem_all zItem_one zRk_sz
theorem mkInts (W : Nat) (hW : W ≤ 1000) (w : World) : (Instr.makeSlice 51 (.int .i64 (W : Int)) (.int .i64 (W : Int))).run Tryd.prog w = .ok (.slice (some ⟨w.heap.size, 0, none⟩) W W) (w.alloc (.cells (List.replicate W (Value.int .i64 0)).toArray 3)) := by
  obtain ⟨i0, hi, hz0, hz1, hz2⟩ := info_parts (show (Tryd.prog.info? 3).map (fun i => (i.zero, i.size, i.bytes)) = some (some (.int .i64 0), 1, 8) by kernel_rfl)
  have := run_make (P := Tryd.prog) w 51 3 i0 _ Tryd.underlying51 hi hz0 .i64 .i64 (W : Int) (W : Int) (by omega) (by omega) (by rw [hz2]; omega) (by omega)
  rw [hz1, Nat.mul_one] at this
  have hc : madeCells #[Value.int .i64 0] W = (List.replicate W (Value.int .i64 0)).toArray := by
    apply Array.toList_inj.1
    rw [toList_madeCells_one]
  simpa [Value.cells, hc] using this
set_option maxRecDepth 20000 in
set_option maxHeartbeats 25600000 in
theorem outLaw_c {a0 : Option Addr} {l : List UInt64} {c0 : Nat} (room : UInt8) (w : World) (hl : SlAt nc 1 w a0 l) (ht : TabW w) : Calls Tryd.prog 3 #[u8v room, .slice a0 l.length c0] w fun e w' => e = .returned (.bool true) ∧ Mod (fun _ => False) w w' := by
  have HT := Lib.hid ht
  have HA := Lib.hid hl
  have m0 := Mod.refl (fun _ => False) w
  clear ht hl
  have hr256 := room.toNat_lt
  obtain ⟨r, hr⟩ : ∃ r, r = room.toNat % 40 := ⟨_, rfl⟩
  have hr40 : r < 40 := by omega
  obtain ⟨n, hn⟩ : ∃ n, n = 1 + r := ⟨_, rfl⟩
  have e1 : IntKind.i64.wrap (room.toNat : Int) = (room.toNat : Int) := by
    rw [IntKind.wrap_i64]
    omega
  have e2 : (room.toNat : Int).tmod 40 = (r : Int) := by
    rw [Int.tmod_eq_emod_of_nonneg (by omega)]
    omega
  have e3 : IntKind.i64.wrap (1 + (r : Int)) = (n : Int) := by
    rw [IntKind.wrap_i64]
    omega
  have hn1 : 1 ≤ n := by omega
  have hn40 : n ≤ 40 := by omega
  clear hr hn hr256
  go_enter Tryd.func3, Tryd.ntmps3
  by_cases h1 : 80 < l.length
  · have hd := decide_eq_true (show (80 : Int) < (l.length : Int) by omega)
    clear h1
    go_wp2_with fail
    go_at_call 7
    refine (lives_c _ (HT.out.mod0 m0)).mono ?_
    rintro e w4 ⟨rfl, m4⟩
    go_wp2_with fail
    go_ret
    exact ⟨rfl, m0.then0 m4⟩
  have hd1 := decide_eq_false (show ¬ (80 : Int) < (l.length : Int) by omega)
  have hl80 : l.length ≤ 80 := by omega
  clear h1
  go_wp2_with fail
  go_at_call 8
  refine (bnewY_c w (n := n) hn1 (by omega)).mono ?_
  rintro e w1 ⟨b, rfl, H1⟩
  obtain ⟨T1, L1⟩ := LS.start H1 HT.out
  have HL1 := Lib.hid L1
  clear H1 L1 hd1 m0 e1 e2 e3
  go_wp2_with fail
  go_loopw [8, 9, 10, 11, 12] (fun s8 s9 _ _ _ ws => ∃ (i lf : Nat) (M : List (Option Nat)) (T : Nat → Prop), i ≤ l.length ∧ s9 = .int .i64 (i : Int) ∧ s8 = .int .i64 (lf : Int) ∧ lf ≤ n ∧ Hid (lf = min i n) ∧ Hid (LS w b (sM l M) T ws ∧ OM l n i M)) (fun _ s9 _ _ _ _ => l.length - (intOf s9).toNat)
  case atStart => exact ⟨0, 0, List.replicate n none, T1, by omega, rfl, rfl, by omega, Lib.hid (by omega), Lib.hid ⟨by rw [sM_zero]; exact HL1.out, OM.zero⟩⟩
  case round =>
    obtain ⟨i, lf, M, T, hi, rfl, rfl, hlf, HF, HI⟩ := hrel
    by_cases hlt : i < l.length
    · obtain ⟨x, hx⟩ : ∃ x, l[i]? = some x := ⟨_, List.getElem?_eq_getElem hlt⟩
      obtain ⟨g1, o1, C1, U1, fr1, rfl, k1, he1, _⟩ := (HA.out.mod0 HI.out.1.m).block hx
      have q1 : C1[o1 + i]? = some (u64v x) := by have h0 := cellC he1 (j := 0) (v := u64v x) rfl; simpa using h0
      have hw := u64_k (k := i) (by omega)
      have HX := Lib.hid (show l.getD i 0 = x by rw [List.getD_eq_getElem?_getD, hx]; rfl)
      clear he1 hx
      go_wp2_with fail
      go_at_call 10
      refine (ready_c x 0 _).mono ?_
      rintro e w2 ⟨rr, rfl, hrc, hok, hsm, m2⟩
      have HR := Lib.hid (And.intro hrc (And.intro hok hsm))
      have HL2 := Lib.hid (HI.out.1.mod0 m2)
      have HIT : Hid ((⟨UInt64.ofNat i, rr.con, 0, false⟩ : It) = itN l i) := Lib.hid (by rw [hrc, ← HX.out]; rfl)
      clear hrc hok hsm m2
      go_wp2_with fail
      go_at_call 9
      by_cases hin : i < n
      · refine (addR_c HL2.out.bh HL2.out.bo.h0 HL2.out.tab (HI.out.2.free hin) HR.out.2.1 HR.out.2.2 (UInt64.ofNat i)).mono ?_
        rintro e w3 ⟨rfl, H3⟩
        rw [HIT.out, sM_set] at H3
        obtain ⟨T3, L3, _⟩ := HL2.out.then H3
        have HL3 := Lib.hid L3
        have HO3 := Lib.hid (HI.out.2.room hin)
        have hlfi : lf = i := by have := HF.out; omega
        have hd := decide_eq_true (show (i : Int) < (n : Int) by omega)
        have hd2 := decide_eq_false (show ¬ (n : Int) ≤ (i : Int) by omega)
        obtain ⟨lg, hlg⟩ : ∃ lg, lg = lf + 1 := ⟨_, rfl⟩
        have hw2 : IntKind.i64.wrap ((lf : Int) + 1) = (lg : Int) := by rw [IntKind.wrap_i64]; omega
        have hw3 : IntKind.i64.wrap (lg : Int) = (lg : Int) := by rw [IntKind.wrap_i64]; omega
        have hmin : min (i + 1) n = lg := by omega
        have hd3 := decide_eq_false (show ¬ (n : Int) < (lg : Int) by omega)
        have hlgn : lg ≤ n := by omega
        clear H3 L3 hw hlfi hlg
        go_wp2_with fail
        go_at_call 11
        refine (blen_c HL3.out.bh).mono ?_
        rintro e w4 ⟨rfl, m9⟩
        rw [HO3.out.count]
        have HL9 := Lib.hid (HL3.out.mod0 m9)
        clear m9
        rw [hmin]
        have HMI := Lib.hid hmin
        clear hmin
        go_wp2_with fail
        go_roundw
        case rel => exact ⟨i + 1, lg, M.set i (some i), T3, by omega, by go_num, rfl, hlgn, Lib.hid HMI.out.symm, Lib.hid ⟨HL9.out, HO3.out⟩⟩
        case measure => simp [intOf]; omega
      · obtain ⟨D, hD, hS⟩ := sM_sorted (l := l) (M := M) (by rw [HI.out.2.len]; omega)
        obtain ⟨j0, k0, hlast, hL⟩ := HI.out.2.last (by omega) (by omega) (by omega) hD hS
        have hx' : (sM l M)[j0]? = some (some (itN l k0)) := sM_at hL.1
        have hfull : (sM l M).countP Option.isSome = (sM l M).length := by rw [HI.out.2.count, sM_len, HI.out.2.len]; omega
        have hprio : (⟨rr.prio, UInt64.ofNat i⟩ : Rk) = rkN l i := congrArg It.rk HIT.out
        have hd := decide_eq_false (show ¬ (i : Int) < (n : Int) by omega)
        have hd2 := decide_eq_true (show (n : Int) ≤ (i : Int) by omega)
        have hlfn : lf = n := by have := HF.out; omega
        have hd3 := decide_eq_false (show ¬ (n : Int) < (lf : Int) by omega)
        have hmin : min (i + 1) n = lf := by omega
        have HLF := Lib.hid hlfn
        clear hlfn
        cases ha : Ahead (rkN l i) (rkN l k0) with
        | false =>
          have hadd := addL_c HL2.out.bh hfull hD hS hx' hlast HR.out.2.1 HR.out.2.2 (UInt64.ofNat i) (by rw [hprio]; exact ha)
          have HO3 := Lib.hid (HI.out.2.keep (by omega) (by omega) hL ha)
          clear hfull hD hS hx' hlast hL hprio ha
          refine hadd.mono ?_
          rintro e w3 ⟨rfl, m3⟩
          have HL3 := Lib.hid (HL2.out.mod0 m3)
          clear m3 hw hadd
          go_wp2_with fail
          go_at_call 11
          refine (blen_c HL3.out.bh).mono ?_
          rintro e w4 ⟨rfl, m9⟩
          rw [HO3.out.count]
          have HL9 := Lib.hid (HL3.out.mod0 m9)
          clear m9
          rw [hmin]
          have HMI := Lib.hid hmin
          clear hmin
          go_wp2_with fail
          go_roundw
          case rel => exact ⟨i + 1, lf, M, T, by omega, by go_num, rfl, hlf, Lib.hid HMI.out.symm, Lib.hid ⟨HL9.out, HO3.out⟩⟩
          case measure => simp [intOf]; omega
        | true =>
          have hadd := addO_c HL2.out.bh HL2.out.bo.h0 HL2.out.tab hfull hD hS hx' rfl hlast HR.out.2.1 HR.out.2.2 (UInt64.ofNat i) (by rw [hprio]; exact ha)
          have HO3 := Lib.hid (HI.out.2.swap (by omega) (by omega) hL ha)
          clear hfull hD hS hx' hlast hL hprio ha
          refine hadd.mono ?_
          rintro e w3 ⟨v, rfl, hv, T3, H3, _⟩
          rw [HIT.out, sM_set] at H3
          have HL3 : Hid (LS w b (sM l (M.set j0 (some i))) T3 w3) := Lib.hid (HL2.out.from1 (H3.bo HL2.out.bo.h0))
          obtain ⟨av, rfl, _⟩ := hv.at
          obtain ⟨lg, hlg⟩ : ∃ lg, lg = lf + 1 := ⟨_, rfl⟩
          have hw2 : IntKind.i64.wrap ((lf : Int) + 1) = (lg : Int) := by rw [IntKind.wrap_i64]; omega
          have hw3 : IntKind.i64.wrap ((lg : Int) - 1) = (lf : Int) := by rw [IntKind.wrap_i64]; omega
          clear H3 hv hw hadd hlg
          go_wp2_with fail
          go_at_call 11
          refine (blen_c HL3.out.bh).mono ?_
          rintro e w4 ⟨rfl, m9⟩
          rw [HO3.out.count]
          have HL9 := Lib.hid (HL3.out.mod0 m9)
          clear m9
          rw [hmin]
          have HMI := Lib.hid hmin
          clear hmin
          go_wp2_with fail
          go_roundw
          case rel => exact ⟨i + 1, lf, M.set j0 (some i), T3, by omega, by go_num, rfl, hlf, Lib.hid HMI.out.symm, Lib.hid ⟨HL9.out, HO3.out⟩⟩
          case measure => simp [intOf]; omega
    · obtain rfl : i = l.length := by omega
      obtain ⟨D, hD, hS⟩ := sM_sorted (l := l) (M := M) (by rw [HI.out.2.len]; omega)
      have HD := Lib.hid (And.intro hD hS)
      have hmk := mkInts l.length (by omega)
      clear hD hS hlt hi
      go_upto_region 18 with fail
      refine wp_pass0 (C := fun _ _ _ => False) (κ := fun i => [0, 0, 3, 0].getD i 0) [0, 1, 2, 3] (by kernel_rfl) (by kernel_rfl) (fun _ _ d _ _ h => by cases d <;> first | exact h | exact absurd h (hP _ _ _)) ?_
      (refine TD.val0 (v := ?v1) (by simp only [zA, zB, zC]; rfl) rfl ?hw1 (fun w1 => ?hy1) ?hn1; (case hw1 => rfl); (case hy1 => (go_simp; (try with_reducible rfl))); (try simp only [Act.put, zF, zG, zH]))
      (refine TD.val0 (v := ?v2) (by simp only [zA, zB, zC]; rfl) rfl ?hw2 (fun w1 => ?hy2) ?hn2; (case hw2 => rfl); (case hy2 => (go_simp; (try with_reducible rfl))); (try simp only [Act.put, zF, zG, zH]))
      (refine TD.mks (by simp only [zA, zB, zC]; rfl) rfl ?hw3 rfl rfl ?hx3 ?hz3 hmk (fun p106 hp106 => ?hn3); (case hw3 => rfl); (case hx3 => (simp only [Act.eval, zD, zA, zB, zC, zE]; (try rfl))); (case hz3 => (simp only [Act.eval, zD, zA, zB, zC, zE]; (try rfl))); (try simp only [Act.put, zF, zG, zH]))
      (refine TD.val0 (v := ?v4) (by simp only [zA, zB, zC]; rfl) rfl ?hw4 (fun w1 => ?hy4) ?hn4; (case hw4 => rfl); (case hy4 => (go_simp; (try with_reducible rfl))); (try simp only [Act.put, zF, zG, zH]))
      refine TD.nil (fun w18 hr => ?_)
      have kp106 := hr.box p106 _ (by first | exact Bx.set_same _ _ _ | (simp only [Bx.set_same]; rfl)); dsimp only [Value.cells] at kp106; obtain ⟨gp106, kp106⟩ := kp106
      have m18 := hr.mod
      have HL18 := Lib.hid (HI.out.1.mod0 m18)
      have HT18 : Hid (¬ T p106 ∧ wr.heap.size ≤ p106) := Lib.hid ⟨fun e => by have := HI.out.1.bo.lt _ e; omega, gp106⟩
      clear hr m18 hmk gp106
      go_wp2_with fail
      go_at_call 12
      refine (bwait_c HL18.out.bh HD.out.1 HD.out.2).mono ?_
      rintro e w19 ⟨v, rfl, hv, m19⟩
      obtain ⟨W, hW⟩ : ∃ W, W = D.map Nd.id := ⟨_, rfl⟩
      rw [← hW] at hv
      obtain ⟨a14, c14, rfl, hva, hvb, _⟩ := hv.at intT
      have hWl : W.length = D.length := by rw [hW, List.length_map]
      have hDl : D.length ≤ 4096 := by
        rw [HD.out.1.length_eq]
        have := wtg_len (S := sM l M) (k := 0)
        rw [sM_len, HI.out.2.len] at this
        omega
      rw [hWl]
      have HL19 := Lib.hid (HL18.out.mod0 m19)
      have HB14 : Hid (∀ x, a14 = some x → p106 < x.block) := Lib.hid (fun x hx => by have := (hvb x hx).1; have := lt_size kp106; omega)
      have HW0 := Lib.hid (And.intro hW hva)
      replace kp106 := m19.at0 kp106
      have HO := Lib.hid HI.out.2
      clear hv hva hvb m19 hW hWl
      obtain ⟨wa, hwa⟩ : ∃ wa : World, wa = wr := ⟨_, rfl⟩
      subst hwa
      go_wp2_with fail
      go_loopw [15, 16, 17] (fun s15 _ _ ws => ∃ (m : Nat) (C : Array Value), m ≤ D.length ∧ s15 = .int .i64 (m : Int) ∧ Hid (LS w b (sM l M) T ws ∧ SlAt ic 1 ws a14 W ∧ C.size = l.length ∧ ∀ k, k < l.length → C[k]? = some (.int .i64 (if UInt64.ofNat k ∈ (D.take m).map (fun z => z.r.n) then 1 else 0))) ∧ ws.heap[p106]? = some (.cells C 3 (0, 0))) (fun s15 _ _ _ => D.length - (intOf s15).toNat)
      case atStart =>
        refine ⟨0, _, by omega, rfl, Lib.hid ⟨HL19.out, HW0.out.2, by simp, fun k hk => ?_⟩, kp106⟩
        rw [if_neg (by simp)]
        simp [hk]
      case round =>
        clear kp106
        obtain ⟨m, C, hm, rfl, HJ, kp106⟩ := hrel
        by_cases hlt : m < D.length
        · obtain ⟨z0, hz0⟩ : ∃ z0, D[m]? = some z0 := ⟨_, List.getElem?_eq_getElem hlt⟩
          obtain ⟨j, k, hjk, rfl⟩ := sM_node (HD.out.1.mem_iff.1 (List.mem_of_getElem? hz0))
          have hkl := HO.out.lt j k hjk
          obtain ⟨g5, o5, C5, U5, fr5, rfl, k5, he5, _⟩ := HJ.out.2.1.block (show W[m]? = some (idn j) by rw [HW0.out.1, List.getElem?_map, hz0]; rfl)
          have hjn : j < n := by have := (List.getElem?_eq_some_iff.1 hjk).1; rw [HO.out.len] at this; exact this
          have q5 : C5[o5 + m]? = some (.int .i64 (j : Int)) := by
            have h0 := cellC he5 (j := 0) (v := .int .i64 (idn j).toInt) rfl
            rw [idn_toInt (by omega)] at h0
            simpa using h0
          have HZ0 := Lib.hid (And.intro hz0 hjk)
          clear he5 hz0 hjk
          go_upto_region 23 with fail
          have Lk5 := lt_size k5
          have Lkp106 := lt_size kp106
          refine wp_gpass0 (T0 := fun _ => False) (K := fun _ _ => True) (κ := fun i => [0, 0, 0, 0, 0, 6, 0, 0, 0, 3, 4, 0].getD i 0) (υ := fun i => [[], [], [], [], [], [], [], [], [], [], [], []].getD i []) [0, 1, 2, 3, 4, 5, 6, 7, 8, 9, 10, 11] (by kernel_rfl) (by kernel_rfl) (Good.true).cl (trivial) (fun _ h => h.elim) ?_
          have gK := Good.true
          (refine TG.v0 (v := ?v5) (by simp only [zA, zB, zC]; rfl) rfl ?hw5 (fun w1 => ?hy5) ?hn5; (case hw5 => rfl); (case hy5 => (go_simp; (try with_reducible rfl))); (try simp only [Act.put, zF, zG, zH]))
          (refine TG.v0 (v := ?v6) (by simp only [zA, zB, zC]; rfl) rfl ?hw6 (fun w1 => ?hy6) ?hn6; (case hw6 => rfl); (case hy6 => (go_simp; (try with_reducible rfl))); (try simp only [Act.put, zF, zG, zH]))
          (refine TG.v0 (v := ?v7) (by simp only [zA, zB, zC]; rfl) rfl ?hw7 (fun w1 => ?hy7) ?hn7; (case hw7 => rfl); (case hy7 => (go_simp; (try with_reducible rfl))); (try simp only [Act.put, zF, zG, zH]))
          (refine TG.v0 (v := ?v8) (by simp only [zA, zB, zC]; rfl) rfl ?hw8 (fun w1 => ?hy8) ?hn8; (case hw8 => rfl); (case hy8 => (go_simp; (try with_reducible rfl))); (try simp only [Act.put, zF, zG, zH]))
          (refine TG.load (v := ?v9) (p := ?p9) (by simp only [zA, zB, zC]; rfl) rfl ?hw9 rfl ?hx9 (fun wq hSq => ?hy9) ?hn9; (case hw9 => rfl); (case hx9 => (simp only [Act.eval, zD, zA, zB, zC, zE]; (try rfl))); (case hy9 => (have k5q := hSq.at k5 (by intro hT; first | exact hT | exact absurd hT (by assumption) | omega | (simp only at hT; omega)); have kp106q := hSq.at kp106 (by intro hT; first | exact hT | exact absurd hT (by assumption) | omega | (simp only at hT; omega)); go_simp; (try with_reducible rfl))); (try simp only [Act.put, zF, zG, zH]))
          (refine TG.callN (f := ?f10) (args := ?r10) (fun v => ∃ z : ItR, v = .tuple #[.agg (itr z), .int .i64 0] ∧ z.con = itN l k) gK (by simp only [zA, zB, zC]; rfl) rfl ?hw10 (fun w1 => ?hy10) (fun T wq kq ltq hSq ub => ?hsp10) ?hn10; (case hw10 => rfl); (case hy10 => (go_simp; (first | with_reducible rfl | (constructor <;> with_reducible rfl)))); (case hsp10 => (have k5q := hSq.at k5 (by intro hT; first | exact hT | exact absurd hT (by assumption) | omega | (simp only at hT; omega)); have kp106q := hSq.at kp106 (by intro hT; first | exact hT | exact absurd hT (by assumption) | omega | (simp only at hT; omega)); exact (bfindY_c (HJ.out.1.bh.mod0 hSq) (sM_at HZ0.out.2)).mono (fun e w' h => by obtain ⟨z, hz, _, h1, h2⟩ := h; exact ⟨_, h1, ⟨z, rfl, hz⟩, h2⟩))); rintro v10 hC; (obtain ⟨z, rfl, hz⟩ := hC); (try simp only [Act.put, zF, zG, zH]))
          (refine TG.v0 (v := ?v11) (by simp only [zA, zB, zC]; rfl) rfl ?hw11 (fun w1 => ?hy11) ?hn11; (case hw11 => rfl); (case hy11 => (go_simp; (try with_reducible rfl))); (try simp only [Act.put, zF, zG, zH]))
          (refine TG.v0 (v := ?v12) (by simp only [zA, zB, zC]; rfl) rfl ?hw12 (fun w1 => ?hy12) ?hn12; (case hw12 => rfl); (case hy12 => (go_simp; (try with_reducible rfl))); (try simp only [Act.put, zF, zG, zH]))
          (refine TG.v0 (v := ?v13) (by simp only [zA, zB, zC]; rfl) rfl ?hw13 (fun w1 => ?hy13) ?hn13; (case hw13 => rfl); (case hy13 => (go_simp; (try with_reducible rfl))); (try simp only [Act.put, zF, zG, zH]))
          (refine TG.allocB (by simp only [zA, zB, zC]; rfl) rfl ?hw14 rfl rfl alItem (fun p16 hp16 _ => ?hn14); (case hw14 => rfl); (try simp only [Act.put, zF, zG, zH]))
          (refine TG.storeB (d := ?d15) (T := ?T15) (y := ?y15) (p := ?p15) (b := ?b15) (v := ?v15) (by simp only [zA, zB, zC]; rfl) rfl ?hw15 ?hd15 ?hop15 ?hev15 ?hx15 ?hb15 ?htag15 (fun w1 hb1 => ?hy15) ?hn15; (case hw15 => rfl); (case hd15 => rfl); (case hop15 => rfl); (case hev15 => (simp only [Act.eval, zD, zA, zB, zC, zE]; (try rfl))); (case hx15 => (simp only [Act.eval, zD, zA, zB, zC, zE]; (try rfl))); (case hb15 => first | exact Bx.set_same _ _ _ | (simp only [Bx.set_same]; rfl)); (case htag15 => rfl); (case hy15 => (go_simp; (try first | with_reducible rfl | (rw [setCell_blk hb1]; rfl)))); (try simp only [Act.put, zF, zG, zH]))
          (refine TG.v0 (v := ?v16) (by simp only [zA, zB, zC]; rfl) rfl ?hw16 (fun w1 => ?hy16) ?hn16; (case hw16 => rfl); (case hy16 => (go_simp; (try with_reducible rfl))); (try simp only [Act.put, zF, zG, zH]))
          refine TG.nil (fun w23 ⟨TR, hr⟩ => ?_)
          have k5 := hr.mod.at k5 (by intro hT; first | exact hT | exact absurd hT (by assumption) | omega | (simp only at hT; omega))
          have kp106 := hr.mod.at kp106 (by intro hT; first | exact hT | exact absurd hT (by assumption) | omega | (simp only at hT; omega))
          have kp16 := hr.box p16 _ (by first | exact Bx.set_same _ _ _ | (simp only [Bx.set_same]; rfl)); dsimp only [Value.cells] at kp16; obtain ⟨gp16, nTp16, kp16⟩ := kp16
          clear gK
          obtain ⟨zn, zr, zpl, zs⟩ := z
          have hzn : zn = UInt64.ofNat k := congrArg It.n hz
          obtain ⟨x, hx⟩ : ∃ x, l[k]? = some x := ⟨_, List.getElem?_eq_getElem hkl⟩
          have hzp : zr.prio = x := by
            have h9 : zr.prio = l.getD k 0 := congrArg (fun y => y.r.prio) hz
            rw [h9, List.getD_eq_getElem?_getD, hx]
            rfl
          have HM23 := Lib.hid hr.mod
          obtain ⟨g1, o1, C1, U1, fr1, rfl, k1, he1, _⟩ := (HA.out.mod0 (HJ.out.1.m.then0 hr.mod)).block hx
          have q1 : C1[o1 + k]? = some (u64v x) := by have h0 := cellC he1 (j := 0) (v := u64v x) rfl; simpa using h0
          have ek : (zn.toNat : Int) = (k : Int) := by rw [hzn, UInt64.toNat_ofNat']; omega
          have HZN := Lib.hid hzn
          have el : IntKind.u64.wrap (l.length : Int) = (l.length : Int) := by rw [IntKind.wrap_u64]; omega
          have hge := decide_eq_false (show ¬ (l.length : Int) ≤ (k : Int) by omega)
          have hgeN := decide_eq_false (show ¬ l.length ≤ k by omega)
          have hpr : ((zr.prio.toNat : Int) != (x.toNat : Int)) = false := by rw [hzp]; simp
          have hkl2 : (k : Int) < (l.length : Int) := by omega
          clear hr he1 hz hzp hx hzn
          go_upto_region 24 with fail
          have Lkp16 := lt_size kp16
          have Lk1 := lt_size k1
          have Lkp106 := lt_size kp106
          refine wp_pass (C := fun _ _ _ => False) (κ := fun i => [0, 0, 0, 0, 1, 0, 0, 0, 0, 0, 0, 0, 0, 1, 0, 0, 1, 0, 1, 0, 0].getD i 0) [0, 1, 2, 3, 4, 5, 6, 7, 8, 9, 10, 11, 12, 13, 14, 15, 16, 17, 18, 19, 20] (by kernel_rfl) (by kernel_rfl) (fun _ _ d _ _ h => by cases d <;> first | exact h | exact absurd h (hP _ _ _)) ?_
          (refine TD.val0 (v := ?v17) (by simp only [zA, zB, zC]; rfl) rfl ?hw17 (fun w1 => ?hy17) ?hn17; (case hw17 => rfl); (case hy17 => (go_simp; (try with_reducible rfl))); (try simp only [Act.put, zF, zG, zH]))
          (refine TD.val0 (v := ?v18) (by simp only [zA, zB, zC]; rfl) rfl ?hw18 (fun w1 => ?hy18) ?hn18; (case hw18 => rfl); (case hy18 => (go_simp; (try with_reducible rfl))); (try simp only [Act.put, zF, zG, zH]))
          (refine TD.val0 (v := ?v19) (by simp only [zA, zB, zC]; rfl) rfl ?hw19 (fun w1 => ?hy19) ?hn19; (case hw19 => rfl); (case hy19 => (go_simp; (try with_reducible rfl))); (try simp only [Act.put, zF, zG, zH]))
          (refine TD.val0 (v := ?v20) (by simp only [zA, zB, zC]; rfl) rfl ?hw20 (fun w1 => ?hy20) ?hn20; (case hw20 => rfl); (case hy20 => (go_simp; (try with_reducible rfl))); (try simp only [Act.put, zF, zG, zH]))
          (refine TD.load (v := ?v21) (p := ?p21) (Mod.refl _ _) (by simp only [zA, zB, zC]; rfl) rfl ?hw21 rfl ?hx21 (fun wq hSq => ?hy21) ?hn21; (case hw21 => rfl); (case hx21 => (simp only [Act.eval, zD, zA, zB, zC, zE]; (try rfl))); (case hy21 => (have kp16q := hSq.at kp16 (fun h => h); have k1q := hSq.at k1 (fun h => h); have kp106q := hSq.at kp106 (fun h => h); go_simp; (try with_reducible rfl))); (try simp only [Act.put, zF, zG, zH]))
          (refine TD.val0 (v := ?v22) (by simp only [zA, zB, zC]; rfl) rfl ?hw22 (fun w1 => ?hy22) ?hn22; (case hw22 => rfl); (case hy22 => (go_simp; (try with_reducible rfl))); (try simp only [Act.put, zF, zG, zH]))
          (refine TD.val0 (v := ?v23) (by simp only [zA, zB, zC]; rfl) rfl ?hw23 (fun w1 => ?hy23) ?hn23; (case hw23 => rfl); (case hy23 => (go_simp; (try with_reducible rfl))); (try simp only [Act.put, zF, zG, zH]))
          (refine TD.val0 (v := ?v24) (by simp only [zA, zB, zC]; rfl) rfl ?hw24 (fun w1 => ?hy24) ?hn24; (case hw24 => rfl); (case hy24 => (go_simp; (try with_reducible rfl))); (try simp only [Act.put, zF, zG, zH]))
          (refine TD.val0 (v := ?v25) (by simp only [zA, zB, zC]; rfl) rfl ?hw25 (fun w1 => ?hy25) ?hn25; (case hw25 => rfl); (case hy25 => (go_simp; (try with_reducible rfl))); (try simp only [Act.put, zF, zG, zH]))
          (refine TD.val0 (v := ?v26) (by simp only [zA, zB, zC]; rfl) rfl ?hw26 (fun w1 => ?hy26) ?hn26; (case hw26 => rfl); (case hy26 => (go_simp; (try with_reducible rfl))); (try simp only [Act.put, zF, zG, zH]))
          (refine TD.val0 (v := ?v27) (by simp only [zA, zB, zC]; rfl) rfl ?hw27 (fun w1 => ?hy27) ?hn27; (case hw27 => rfl); (case hy27 => (go_simp; (try with_reducible rfl))); (try simp only [Act.put, zF, zG, zH]))
          (refine TD.val0 (v := ?v28) (by simp only [zA, zB, zC]; rfl) rfl ?hw28 (fun w1 => ?hy28) ?hn28; (case hw28 => rfl); (case hy28 => (go_simp; (try with_reducible rfl))); (try simp only [Act.put, zF, zG, zH]))
          (refine TD.val0 (v := ?v29) (by simp only [zA, zB, zC]; rfl) rfl ?hw29 (fun w1 => ?hy29) ?hn29; (case hw29 => rfl); (case hy29 => (go_simp; (try with_reducible rfl))); (try simp only [Act.put, zF, zG, zH]))
          (refine TD.load (v := ?v30) (p := ?p30) (Mod.refl _ _) (by simp only [zA, zB, zC]; rfl) rfl ?hw30 rfl ?hx30 (fun wq hSq => ?hy30) ?hn30; (case hw30 => rfl); (case hx30 => (simp only [Act.eval, zD, zA, zB, zC, zE]; (try rfl))); (case hy30 => (have kp16q := hSq.at kp16 (fun h => h); have k1q := hSq.at k1 (fun h => h); have kp106q := hSq.at kp106 (fun h => h); go_simp; (try with_reducible rfl))); (try simp only [Act.put, zF, zG, zH]))
          (refine TD.val0 (v := ?v31) (by simp only [zA, zB, zC]; rfl) rfl ?hw31 (fun w1 => ?hy31) ?hn31; (case hw31 => rfl); (case hy31 => (go_simp; (try with_reducible rfl))); (try simp only [Act.put, zF, zG, zH]))
          (refine TD.val0 (v := ?v32) (by simp only [zA, zB, zC]; rfl) rfl ?hw32 (fun w1 => ?hy32) ?hn32; (case hw32 => rfl); (case hy32 => (go_simp; (try with_reducible rfl))); (try simp only [Act.put, zF, zG, zH]))
          (refine TD.load (v := ?v33) (p := ?p33) (Mod.refl _ _) (by simp only [zA, zB, zC]; rfl) rfl ?hw33 rfl ?hx33 (fun wq hSq => ?hy33) ?hn33; (case hw33 => rfl); (case hx33 => (simp only [Act.eval, zD, zA, zB, zC, zE]; (try rfl))); (case hy33 => (have kp16q := hSq.at kp16 (fun h => h); have k1q := hSq.at k1 (fun h => h); have kp106q := hSq.at kp106 (fun h => h); go_simp; (try with_reducible rfl))); (try simp only [Act.put, zF, zG, zH]))
          (refine TD.val0 (v := ?v34) (by simp only [zA, zB, zC]; rfl) rfl ?hw34 (fun w1 => ?hy34) ?hn34; (case hw34 => rfl); (case hy34 => (go_simp; (try with_reducible rfl))); (try simp only [Act.put, zF, zG, zH]))
          (refine TD.load (v := ?v35) (p := ?p35) (Mod.refl _ _) (by simp only [zA, zB, zC]; rfl) rfl ?hw35 rfl ?hx35 (fun wq hSq => ?hy35) ?hn35; (case hw35 => rfl); (case hx35 => (simp only [Act.eval, zD, zA, zB, zC, zE]; (try rfl))); (case hy35 => (have kp16q := hSq.at kp16 (fun h => h); have k1q := hSq.at k1 (fun h => h); have kp106q := hSq.at kp106 (fun h => h); go_simp; (try with_reducible rfl))); (try simp only [Act.put, zF, zG, zH]))
          (refine TD.val0 (v := ?v36) (by simp only [zA, zB, zC]; rfl) rfl ?hw36 (fun w1 => ?hy36) ?hn36; (case hw36 => rfl); (case hy36 => (go_simp; (try with_reducible rfl))); (try simp only [Act.put, zF, zG, zH]))
          (refine TD.val0 (v := ?v37) (by simp only [zA, zB, zC]; rfl) rfl ?hw37 (fun w1 => ?hy37) ?hn37; (case hw37 => rfl); (case hy37 => (go_simp; (try with_reducible rfl))); (try simp only [Act.put, zF, zG, zH]))
          refine TD.nil (fun w24 hr => ?_)
          have kp16 := hr.mod.at kp16 (fun h => h)
          have k1 := hr.mod.at k1 (fun h => h)
          have kp106 := hr.mod.at kp106 (fun h => h)
          have m24 := HM23.out.then0 hr.mod
          clear hr k1 q1 el hge hgeN hpr
          have hno := num_notin HO.out (by omega) HD.out.1 HD.out.2 HZ0.out.1 HZ0.out.2
          have qc : C[k]? = some (.int .i64 0) := by
            have := HJ.out.2.2.2 k hkl
            rwa [if_neg hno] at this
          have hw1 : IntKind.i64.wrap 1 = 1 := by rw [IntKind.wrap_i64]; omega
          clear hno
          go_upto_region 26 with fail
          have Lkp106 := lt_size kp106
          have Lkp16 := lt_size kp16
          refine wp_pass0 (C := fun _ _ _ => False) (κ := fun i => [0, 0, 1, 0, 1, 0, 0, 5].getD i 0) [0, 1, 2, 3, 4, 5, 6, 7] (by kernel_rfl) (by kernel_rfl) (fun _ _ d _ _ h => by cases d <;> first | exact h | exact absurd h (hP _ _ _)) ?_
          (refine TD.val0 (v := ?v38) (by simp only [zA, zB, zC]; rfl) rfl ?hw38 (fun w1 => ?hy38) ?hn38; (case hw38 => rfl); (case hy38 => (go_simp; (try with_reducible rfl))); (try simp only [Act.put, zF, zG, zH]))
          (refine TD.val0 (v := ?v39) (by simp only [zA, zB, zC]; rfl) rfl ?hw39 (fun w1 => ?hy39) ?hn39; (case hw39 => rfl); (case hy39 => (go_simp; (try with_reducible rfl))); (try simp only [Act.put, zF, zG, zH]))
          (refine TD.load (v := ?v40) (p := ?p40) (Mod.refl _ _) (by simp only [zA, zB, zC]; rfl) rfl ?hw40 rfl ?hx40 (fun wq hSq => ?hy40) ?hn40; (case hw40 => rfl); (case hx40 => (simp only [Act.eval, zD, zA, zB, zC, zE]; (try rfl))); (case hy40 => (have kp106q := hSq.at kp106 (fun h => h); have kp16q := hSq.at kp16 (fun h => h); go_simp; (try with_reducible rfl))); (try simp only [Act.put, zF, zG, zH]))
          (refine TD.val0 (v := ?v41) (by simp only [zA, zB, zC]; rfl) rfl ?hw41 (fun w1 => ?hy41) ?hn41; (case hw41 => rfl); (case hy41 => (go_simp; (try with_reducible rfl))); (try simp only [Act.put, zF, zG, zH]))
          (refine TD.load (v := ?v42) (p := ?p42) (Mod.refl _ _) (by simp only [zA, zB, zC]; rfl) rfl ?hw42 rfl ?hx42 (fun wq hSq => ?hy42) ?hn42; (case hw42 => rfl); (case hx42 => (simp only [Act.eval, zD, zA, zB, zC, zE]; (try rfl))); (case hy42 => (have kp106q := hSq.at kp106 (fun h => h); have kp16q := hSq.at kp16 (fun h => h); go_simp; (try with_reducible rfl))); (try simp only [Act.put, zF, zG, zH]))
          (refine TD.val0 (v := ?v43) (by simp only [zA, zB, zC]; rfl) rfl ?hw43 (fun w1 => ?hy43) ?hn43; (case hw43 => rfl); (case hy43 => (go_simp; (try with_reducible rfl))); (try simp only [Act.put, zF, zG, zH]))
          (refine TD.val0 (v := ?v44) (by simp only [zA, zB, zC]; rfl) rfl ?hw44 (fun w1 => ?hy44) ?hn44; (case hw44 => rfl); (case hy44 => (go_simp; (try with_reducible rfl))); (try simp only [Act.put, zF, zG, zH]))
          refine TD.eff (by simp only [zA, zB, zC]; rfl) rfl (fun wE hr => ?_)
          have kp106 := hr.mod.at0 kp106
          have kp16 := hr.mod.at0 kp16
          have mE := hr.mod
          (refine eff_store (X := ?X45) (Y := ?Y45) (w' := ?w45) (by simp only [zA, zB, zC]; rfl) ?hw45 rfl ?hx45 ?hz45 ?hy45 ?hn45; (case hw45 => rfl); (case hx45 => (simp only [Act.eval, zD, zA, zB, zC, zE]; (try rfl))); (case hz45 => (simp only [Act.eval, zD, zA, zB, zC, zE]; (try rfl))); (case hy45 => (go_simp; (try with_reducible rfl))))
          (first | refine TE.nil_set kp106 (fun w26 kp106 mS => ?_) | refine TE.nil_setCell kp106 (fun w26 kp106 mS => ?_))
          (try simp only [Array.setIfInBounds, zF, zG, zH] at kp106)
          have kp16 := mS.at_ne kp16 (by omega)
          have m26 := m24.then0 mE
          have HL26 : Hid (LS w b (sM l M) T w26) := Lib.hid ((HJ.out.1.mod0 m26).modX mS (fun i hi e => HT18.out.1 (e ▸ hi)) (fun i e => by rw [e]; exact Nat.le_trans HI.out.1.m.size HT18.out.2) (fun e => by have := HI.out.1.bo.2.2; have := HT18.out.2; omega))
          have HW26 : Hid (SlAt ic 1 w26 (some ⟨g5, o5, none⟩) W) := Lib.hid ((HJ.out.2.1.mod0 m26).mod mS (fun g o e hg => by have h8 : p106 < g := HB14.out _ e; have h9 : g = p106 := hg; omega))
          have HC26 : Hid (∀ k', k' < l.length → (C.setIfInBounds k (.int .i64 1))[k']? = some (.int .i64 (if UInt64.ofNat k' ∈ (D.take (m + 1)).map (fun z => z.r.n) then 1 else 0))) := Lib.hid (fun k' hk' => by
            rw [num_step (k := k) (by omega) (by omega) HZ0.out.1 rfl]
            by_cases e : k' = k
            · subst e
              rw [if_pos rfl, Array.getElem?_setIfInBounds_self_of_lt (by rw [HJ.out.2.2.1]; exact hk')]
            · rw [if_neg e, Array.getElem?_setIfInBounds_ne (fun e2 => e e2.symm)]
              exact HJ.out.2.2.2 k' hk')
          clear mE mS m24 m26 hr
          go_wp2_with fail
          go_roundw
          case rel => exact ⟨m + 1, C.setIfInBounds k (.int .i64 1), by omega, by go_num, Lib.hid ⟨HL26.out, HW26.out, by rw [Array.size_setIfInBounds]; exact HJ.out.2.2.1, HC26.out⟩, kp106⟩
          case measure => simp [intOf]; omega
        · obtain rfl : m = D.length := by omega
          have HC : Hid (C.size = l.length ∧ ∀ k, k < l.length → (C[k]? = some (.int .i64 1) ∧ (ahN l l.length k).length < n) ∨ (C[k]? = some (.int .i64 0) ∧ n ≤ (ahN l l.length k).length)) := Lib.hid ⟨HJ.out.2.2.1, fun k hk => by
            have h1 := HJ.out.2.2.2 k hk
            rw [List.take_length] at h1
            rcases num_both HO.out (by omega) (by omega) HD.out.1 hk rfl with ⟨h2, h3⟩ | ⟨h2, h3⟩
            · rw [h2] at h1
              exact .inl ⟨h1, h3⟩
            · rw [h2] at h1
              exact .inr ⟨h1, h3⟩⟩
          have HM2 := Lib.hid HJ.out.1.m
          clear HJ HW0 HO HD HL18 HL19 hm hlt hDl HB14 HT18
          obtain ⟨wb, hwb⟩ : ∃ wb : World, wb = wr := ⟨_, rfl⟩
          subst hwb
          go_wp2_with fail
          go_loopw [18, 19, 20] (fun s18 _ _ ws => ∃ i : Nat, i ≤ l.length ∧ s18 = .int .i64 (i : Int) ∧ Hid (Mod (fun _ => False) w ws) ∧ ws.heap[p106]? = some (.cells C 3 (0, 0))) (fun s18 _ _ _ => l.length - (intOf s18).toNat)
          case atStart => exact ⟨0, by omega, rfl, HM2, kp106⟩
          case round =>
            clear kp106
            obtain ⟨i, hi, rfl, HM3, kp106⟩ := hrel
            by_cases hlt : i < l.length
            · obtain ⟨xi, hxi⟩ : ∃ x, l[i]? = some x := ⟨_, List.getElem?_eq_getElem hlt⟩
              obtain ⟨zi, hzi⟩ : ∃ z, z = UInt64.ofNat i := ⟨_, rfl⟩
              have hwi : IntKind.u64.wrap (i : Int) = (zi.toNat : Int) := by rw [hzi]; exact u64_k (by omega)
              have HRI : Hid (rkN l i = ⟨xi, zi⟩) := Lib.hid (by rw [hzi]; unfold rkN; rw [List.getD_eq_getElem?_getD, hxi]; rfl)
              have HXI := Lib.hid hxi
              clear hxi hzi
              obtain ⟨wc, hwc⟩ : ∃ wc : World, wc = wr := ⟨_, rfl⟩
              subst hwc
              go_wp2_with fail
              go_loopw [19, 20] (fun s19 s20 ws => ∃ k c : Nat, k ≤ l.length ∧ s20 = .int .i64 (k : Int) ∧ s19 = .int .i64 (c : Int) ∧ c ≤ k ∧ Hid (c = (ahN l k i).length) ∧ Hid (Mod (fun _ => False) w ws) ∧ ws.heap[p106]? = some (.cells C 3 (0, 0))) (fun _ s20 _ => l.length - (intOf s20).toNat)
              case atStart => exact ⟨0, 0, by omega, rfl, rfl, by omega, Lib.hid rfl, HM3, kp106⟩
              case round =>
                clear kp106
                obtain ⟨k, c, hk, rfl, rfl, hck, HCT, HM4, kp106⟩ := hrel
                by_cases hklt : k < l.length
                · obtain ⟨xk, hxk⟩ : ∃ x, l[k]? = some x := ⟨_, List.getElem?_eq_getElem hklt⟩
                  obtain ⟨zk, hzk⟩ : ∃ z, z = UInt64.ofNat k := ⟨_, rfl⟩
                  have hwk : IntKind.u64.wrap (k : Int) = (zk.toNat : Int) := by rw [hzk]; exact u64_k (by omega)
                  have HRK : Hid (rkN l k = ⟨xk, zk⟩) := Lib.hid (by rw [hzk]; unfold rkN; rw [List.getD_eq_getElem?_getD, hxk]; rfl)
                  have hla := HA.out.mod0 HM4.out
                  obtain ⟨g1, o1, C1, U1, fr1, hae, k1, he1, _⟩ := hla.block hxk
                  obtain ⟨g2, o2, C2, U2, fr2, hae2, k2, he2, _⟩ := hla.block HXI.out
                  rw [hae] at hae2
                  cases hae2
                  rw [k1] at k2
                  cases k2
                  subst hae
                  have q1 : C1[o1 + k]? = some (u64v xk) := by have h0 := cellC he1 (j := 0) (v := u64v xk) rfl; simpa using h0
                  have q2 : C1[o1 + i]? = some (u64v xi) := by have h0 := cellC he2 (j := 0) (v := u64v xi) rfl; simpa using h0
                  have hb1 : ∀ w, (Instr.build 60 #[(0, u64v xk), (1, u64v zk)]).run Tryd.prog w = .ok (.agg (rkc ⟨xk, zk⟩)) w := fun w => by kernel_rfl
                  have hb2 : ∀ w, (Instr.build 60 #[(0, u64v xi), (1, u64v zi)]).run Tryd.prog w = .ok (.agg (rkc ⟨xi, zi⟩)) w := fun w => by kernel_rfl
                  obtain ⟨z, hA⟩ : ∃ z, Ahead ⟨xk, zk⟩ ⟨xi, zi⟩ = z := ⟨_, rfl⟩
                  have HAz := Lib.hid hA
                  obtain ⟨c', hc'⟩ : ∃ c', c' = c + 1 := ⟨_, rfl⟩
                  have hw2 : IntKind.i64.wrap ((c : Int) + 1) = (c' : Int) := by rw [IntKind.wrap_i64]; omega
                  have HST : Hid ((ahN l (k + 1) i).length = if z then c' else c) := Lib.hid (by
                    rw [ah_step, HRK.out, HRI.out, hA, ← HCT.out, hc']
                    cases z <;> rfl)
                  clear hla he1 he2 hxk hzk hA
                  go_upto_region 34 with fail
                  have Lk1 := lt_size k1
                  have Lkp106 := lt_size kp106
                  refine wp_gpass (T0 := fun _ => False) (K := fun _ _ => True) (κ := fun i => [0, 0, 0, 0, 0, 0, 0, 0, 0, 0, 0, 0, 0, 0, 6].getD i 0) (υ := fun i => [[], [], [], [], [], [], [], [], [], [], [], [], [], [], []].getD i []) [0, 1, 2, 3, 4, 5, 6, 7, 8, 9, 10, 11, 12, 13, 14] (by kernel_rfl) (by kernel_rfl) (Good.true).cl (trivial) (fun _ h => h.elim) ?_
                  have gK := Good.true
                  (refine TG.v0 (v := ?v46) (by simp only [zA, zB, zC]; rfl) rfl ?hw46 (fun w1 => ?hy46) ?hn46; (case hw46 => rfl); (case hy46 => (go_simp; (try with_reducible rfl))); (try simp only [Act.put, zF, zG, zH]))
                  (refine TG.v0 (v := ?v47) (by simp only [zA, zB, zC]; rfl) rfl ?hw47 (fun w1 => ?hy47) ?hn47; (case hw47 => rfl); (case hy47 => (go_simp; (try with_reducible rfl))); (try simp only [Act.put, zF, zG, zH]))
                  (refine TG.v0 (v := ?v48) (by simp only [zA, zB, zC]; rfl) rfl ?hw48 (fun w1 => ?hy48) ?hn48; (case hw48 => rfl); (case hy48 => (go_simp; (try with_reducible rfl))); (try simp only [Act.put, zF, zG, zH]))
                  (refine TG.load (v := ?v49) (p := ?p49) (by simp only [zA, zB, zC]; rfl) rfl ?hw49 rfl ?hx49 (fun wq hSq => ?hy49) ?hn49; (case hw49 => rfl); (case hx49 => (simp only [Act.eval, zD, zA, zB, zC, zE]; (try rfl))); (case hy49 => (have k1q := hSq.at k1 (by intro hT; first | exact hT | exact absurd hT (by assumption) | omega | (simp only at hT; omega)); have kp106q := hSq.at kp106 (by intro hT; first | exact hT | exact absurd hT (by assumption) | omega | (simp only at hT; omega)); go_simp; (try with_reducible rfl))); (try simp only [Act.put, zF, zG, zH]))
                  (refine TG.v0 (v := ?v50) (by simp only [zA, zB, zC]; rfl) rfl ?hw50 (fun w1 => ?hy50) ?hn50; (case hw50 => rfl); (case hy50 => (go_simp; (try with_reducible rfl))); (try simp only [Act.put, zF, zG, zH]))
                  (refine TG.v0 (v := ?v51) (by simp only [zA, zB, zC]; rfl) rfl ?hw51 (fun w1 => ?hy51) ?hn51; (case hw51 => rfl); (case hy51 => (go_simp; (try with_reducible rfl))); (try simp only [Act.put, zF, zG, zH]))
                  (refine TG.build (v := ?v52) (ps := ?p52) (by simp only [zA, zB, zC]; rfl) rfl ?hw52 rfl ?hx52 (fun w1 => ?hy52) ?hn52; (case hw52 => rfl); (case hx52 => (simp only [List.map_toArray, List.map_cons, List.map_nil, Act.eval, zD, zA, zB, zC, zE]; (try rfl))); (case hy52 => (rw [hb1]; (try with_reducible rfl))); (try simp only [Act.put, zF, zG, zH]))
                  (refine TG.v0 (v := ?v53) (by simp only [zA, zB, zC]; rfl) rfl ?hw53 (fun w1 => ?hy53) ?hn53; (case hw53 => rfl); (case hy53 => (go_simp; (try with_reducible rfl))); (try simp only [Act.put, zF, zG, zH]))
                  (refine TG.v0 (v := ?v54) (by simp only [zA, zB, zC]; rfl) rfl ?hw54 (fun w1 => ?hy54) ?hn54; (case hw54 => rfl); (case hy54 => (go_simp; (try with_reducible rfl))); (try simp only [Act.put, zF, zG, zH]))
                  (refine TG.v0 (v := ?v55) (by simp only [zA, zB, zC]; rfl) rfl ?hw55 (fun w1 => ?hy55) ?hn55; (case hw55 => rfl); (case hy55 => (go_simp; (try with_reducible rfl))); (try simp only [Act.put, zF, zG, zH]))
                  (refine TG.load (v := ?v56) (p := ?p56) (by simp only [zA, zB, zC]; rfl) rfl ?hw56 rfl ?hx56 (fun wq hSq => ?hy56) ?hn56; (case hw56 => rfl); (case hx56 => (simp only [Act.eval, zD, zA, zB, zC, zE]; (try rfl))); (case hy56 => (have k1q := hSq.at k1 (by intro hT; first | exact hT | exact absurd hT (by assumption) | omega | (simp only at hT; omega)); have kp106q := hSq.at kp106 (by intro hT; first | exact hT | exact absurd hT (by assumption) | omega | (simp only at hT; omega)); go_simp; (try with_reducible rfl))); (try simp only [Act.put, zF, zG, zH]))
                  (refine TG.v0 (v := ?v57) (by simp only [zA, zB, zC]; rfl) rfl ?hw57 (fun w1 => ?hy57) ?hn57; (case hw57 => rfl); (case hy57 => (go_simp; (try with_reducible rfl))); (try simp only [Act.put, zF, zG, zH]))
                  (refine TG.v0 (v := ?v58) (by simp only [zA, zB, zC]; rfl) rfl ?hw58 (fun w1 => ?hy58) ?hn58; (case hw58 => rfl); (case hy58 => (go_simp; (try with_reducible rfl))); (try simp only [Act.put, zF, zG, zH]))
                  (refine TG.build (v := ?v59) (ps := ?p59) (by simp only [zA, zB, zC]; rfl) rfl ?hw59 rfl ?hx59 (fun w1 => ?hy59) ?hn59; (case hw59 => rfl); (case hx59 => (simp only [List.map_toArray, List.map_cons, List.map_nil, Act.eval, zD, zA, zB, zC, zE]; (try rfl))); (case hy59 => (rw [hb2]; (try with_reducible rfl))); (try simp only [Act.put, zF, zG, zH]))
                  (refine TG.callN (f := ?f60) (args := ?r60) (fun v => v = .bool z) gK (by simp only [zA, zB, zC]; rfl) rfl ?hw60 (fun w1 => ?hy60) (fun T wq kq ltq hSq ub => ?hsp60) ?hn60; (case hw60 => rfl); (case hy60 => (go_simp; (first | with_reducible rfl | (constructor <;> with_reducible rfl)))); (case hsp60 => (have k1q := hSq.at k1 (by intro hT; first | exact hT | exact absurd hT (by assumption) | omega | (simp only at hT; omega)); have kp106q := hSq.at kp106 (by intro hT; first | exact hT | exact absurd hT (by assumption) | omega | (simp only at hT; omega)); exact (aheadC ⟨xk, zk⟩ ⟨xi, zi⟩ wq).mono (fun e w' h => by obtain ⟨v, h1, h2, h3⟩ := h; exact ⟨v, h1, by rw [h2, HAz.out], h3⟩))); rintro v60 hC; subst hC; (try simp only [Act.put, zF, zG, zH]))
                  refine TG.nil (fun w34 ⟨TR, hr⟩ => ?_)
                  have k1 := hr.mod.at k1 (by intro hT; first | exact hT | exact absurd hT (by assumption) | omega | (simp only at hT; omega))
                  have kp106 := hr.mod.at kp106 (by intro hT; first | exact hT | exact absurd hT (by assumption) | omega | (simp only at hT; omega))
                  clear gK
                  have HM5 := Lib.hid (HM4.out.then0 hr.mod)
                  clear hr hb1 hb2 k1 q1 q2 hwk
                  cases z with
                  | true =>
                    go_wp2_with fail
                    go_roundw
                    case rel => exact ⟨k + 1, c', by omega, by go_num, congrArg (Value.int .i64) (by omega), by omega, Lib.hid HST.out.symm, HM5, kp106⟩
                    case measure => simp [intOf]; omega
                  | false =>
                    go_wp2_with fail
                    go_roundw
                    case rel => exact ⟨k + 1, c, by omega, by go_num, rfl, by omega, Lib.hid HST.out.symm, HM5, kp106⟩
                    case measure => simp [intOf]; omega
                · obtain rfl : k = l.length := by omega
                  rcases HC.out.2 i hlt with ⟨qc, hc⟩ | ⟨qc, hc⟩
                  · rw [← HCT.out] at hc
                    have hg1 := decide_eq_false (show ¬ (n : Int) ≤ (c : Int) by omega)
                    have hg2 := decide_eq_false (show ¬ n ≤ c by omega)
                    clear hc
                    go_upto_region 36 with fail
                    have Lkp106 := lt_size kp106
                    refine wp_pass0 (C := fun _ _ _ => False) (κ := fun i => [0, 0, 0, 1, 0, 0, 0, 0, 0, 0, 0, 0, 0, 0, 1, 0, 0, 0, 0, 0, 0, 0, 0, 0, 0, 0, 1, 0, 0].getD i 0) [0, 1, 2, 3, 4, 5, 6, 7, 8, 9, 10, 11, 12, 13, 14, 15, 16, 17, 18, 19, 20, 21, 22, 23, 24, 25, 26, 27, 28] (by kernel_rfl) (by kernel_rfl) (fun _ _ d _ _ h => by cases d <;> first | exact h | exact absurd h (hP _ _ _)) ?_
                    (refine TD.val0 (v := ?v61) (by simp only [zA, zB, zC]; rfl) rfl ?hw61 (fun w1 => ?hy61) ?hn61; (case hw61 => rfl); (case hy61 => (go_simp; (try with_reducible rfl))); (try simp only [Act.put, zF, zG, zH]))
                    (refine TD.val0 (v := ?v62) (by simp only [zA, zB, zC]; rfl) rfl ?hw62 (fun w1 => ?hy62) ?hn62; (case hw62 => rfl); (case hy62 => (go_simp; (try with_reducible rfl))); (try simp only [Act.put, zF, zG, zH]))
                    (refine TD.val0 (v := ?v63) (by simp only [zA, zB, zC]; rfl) rfl ?hw63 (fun w1 => ?hy63) ?hn63; (case hw63 => rfl); (case hy63 => (go_simp; (try with_reducible rfl))); (try simp only [Act.put, zF, zG, zH]))
                    (refine TD.load (v := ?v64) (p := ?p64) (Mod.refl _ _) (by simp only [zA, zB, zC]; rfl) rfl ?hw64 rfl ?hx64 (fun wq hSq => ?hy64) ?hn64; (case hw64 => rfl); (case hx64 => (simp only [Act.eval, zD, zA, zB, zC, zE]; (try rfl))); (case hy64 => (have kp106q := hSq.at kp106 (fun h => h); go_simp; (try with_reducible rfl))); (try simp only [Act.put, zF, zG, zH]))
                    (refine TD.val0 (v := ?v65) (by simp only [zA, zB, zC]; rfl) rfl ?hw65 (fun w1 => ?hy65) ?hn65; (case hw65 => rfl); (case hy65 => (go_simp; (try with_reducible rfl))); (try simp only [Act.put, zF, zG, zH]))
                    (refine TD.val0 (v := ?v66) (by simp only [zA, zB, zC]; rfl) rfl ?hw66 (fun w1 => ?hy66) ?hn66; (case hw66 => rfl); (case hy66 => (go_simp; (try with_reducible rfl))); (try simp only [Act.put, zF, zG, zH]))
                    (refine TD.val0 (v := ?v67) (by simp only [zA, zB, zC]; rfl) rfl ?hw67 (fun w1 => ?hy67) ?hn67; (case hw67 => rfl); (case hy67 => (go_simp; (try with_reducible rfl))); (try simp only [Act.put, zF, zG, zH]))
                    (refine TD.val0 (v := ?v68) (by simp only [zA, zB, zC]; rfl) rfl ?hw68 (fun w1 => ?hy68) ?hn68; (case hw68 => rfl); (case hy68 => (go_simp; (try with_reducible rfl))); (try simp only [Act.put, zF, zG, zH]))
                    (refine TD.val0 (v := ?v69) (by simp only [zA, zB, zC]; rfl) rfl ?hw69 (fun w1 => ?hy69) ?hn69; (case hw69 => rfl); (case hy69 => (go_simp; (try with_reducible rfl))); (try simp only [Act.put, zF, zG, zH]))
                    (refine TD.val0 (v := ?v70) (by simp only [zA, zB, zC]; rfl) rfl ?hw70 (fun w1 => ?hy70) ?hn70; (case hw70 => rfl); (case hy70 => (go_simp; (try with_reducible rfl))); (try simp only [Act.put, zF, zG, zH]))
                    (refine TD.val0 (v := ?v71) (by simp only [zA, zB, zC]; rfl) rfl ?hw71 (fun w1 => ?hy71) ?hn71; (case hw71 => rfl); (case hy71 => (go_simp; (try with_reducible rfl))); (try simp only [Act.put, zF, zG, zH]))
                    (refine TD.val0 (v := ?v72) (by simp only [zA, zB, zC]; rfl) rfl ?hw72 (fun w1 => ?hy72) ?hn72; (case hw72 => rfl); (case hy72 => (go_simp; (try with_reducible rfl))); (try simp only [Act.put, zF, zG, zH]))
                    (refine TD.val0 (v := ?v73) (by simp only [zA, zB, zC]; rfl) rfl ?hw73 (fun w1 => ?hy73) ?hn73; (case hw73 => rfl); (case hy73 => (go_simp; (try with_reducible rfl))); (try simp only [Act.put, zF, zG, zH]))
                    (refine TD.val0 (v := ?v74) (by simp only [zA, zB, zC]; rfl) rfl ?hw74 (fun w1 => ?hy74) ?hn74; (case hw74 => rfl); (case hy74 => (go_simp; (try with_reducible rfl))); (try simp only [Act.put, zF, zG, zH]))
                    (refine TD.load (v := ?v75) (p := ?p75) (Mod.refl _ _) (by simp only [zA, zB, zC]; rfl) rfl ?hw75 rfl ?hx75 (fun wq hSq => ?hy75) ?hn75; (case hw75 => rfl); (case hx75 => (simp only [Act.eval, zD, zA, zB, zC, zE]; (try rfl))); (case hy75 => (have kp106q := hSq.at kp106 (fun h => h); go_simp; (try with_reducible rfl))); (try simp only [Act.put, zF, zG, zH]))
                    (refine TD.val0 (v := ?v76) (by simp only [zA, zB, zC]; rfl) rfl ?hw76 (fun w1 => ?hy76) ?hn76; (case hw76 => rfl); (case hy76 => (go_simp; (try with_reducible rfl))); (try simp only [Act.put, zF, zG, zH]))
                    (refine TD.val0 (v := ?v77) (by simp only [zA, zB, zC]; rfl) rfl ?hw77 (fun w1 => ?hy77) ?hn77; (case hw77 => rfl); (case hy77 => (go_simp; (try with_reducible rfl))); (try simp only [Act.put, zF, zG, zH]))
                    (refine TD.pass (by simp only [zA, zB, zC]; rfl) rfl ?hw78 ?hn78; (case hw78 => rfl); (try simp only [Act.put, zF, zG, zH]))
                    (refine TD.pass (by simp only [zA, zB, zC]; rfl) rfl ?hw79 ?hn79; (case hw79 => rfl); (try simp only [Act.put, zF, zG, zH]))
                    (refine TD.pass (by simp only [zA, zB, zC]; rfl) rfl ?hw80 ?hn80; (case hw80 => rfl); (try simp only [Act.put, zF, zG, zH]))
                    (refine TD.val0 (v := ?v81) (by simp only [zA, zB, zC]; rfl) rfl ?hw81 (fun w1 => ?hy81) ?hn81; (case hw81 => rfl); (case hy81 => (go_simp; (try with_reducible rfl))); (try simp only [Act.put, zF, zG, zH]))
                    (refine TD.val0 (v := ?v82) (by simp only [zA, zB, zC]; rfl) rfl ?hw82 (fun w1 => ?hy82) ?hn82; (case hw82 => rfl); (case hy82 => (go_simp; (try with_reducible rfl))); (try simp only [Act.put, zF, zG, zH]))
                    (refine TD.val0 (v := ?v83) (by simp only [zA, zB, zC]; rfl) rfl ?hw83 (fun w1 => ?hy83) ?hn83; (case hw83 => rfl); (case hy83 => (go_simp; (try with_reducible rfl))); (try simp only [Act.put, zF, zG, zH]))
                    (refine TD.val0 (v := ?v84) (by simp only [zA, zB, zC]; rfl) rfl ?hw84 (fun w1 => ?hy84) ?hn84; (case hw84 => rfl); (case hy84 => (go_simp; (try with_reducible rfl))); (try simp only [Act.put, zF, zG, zH]))
                    (refine TD.val0 (v := ?v85) (by simp only [zA, zB, zC]; rfl) rfl ?hw85 (fun w1 => ?hy85) ?hn85; (case hw85 => rfl); (case hy85 => (go_simp; (try with_reducible rfl))); (try simp only [Act.put, zF, zG, zH]))
                    (refine TD.val0 (v := ?v86) (by simp only [zA, zB, zC]; rfl) rfl ?hw86 (fun w1 => ?hy86) ?hn86; (case hw86 => rfl); (case hy86 => (go_simp; (try with_reducible rfl))); (try simp only [Act.put, zF, zG, zH]))
                    (refine TD.load (v := ?v87) (p := ?p87) (Mod.refl _ _) (by simp only [zA, zB, zC]; rfl) rfl ?hw87 rfl ?hx87 (fun wq hSq => ?hy87) ?hn87; (case hw87 => rfl); (case hx87 => (simp only [Act.eval, zD, zA, zB, zC, zE]; (try rfl))); (case hy87 => (have kp106q := hSq.at kp106 (fun h => h); go_simp; (try with_reducible rfl))); (try simp only [Act.put, zF, zG, zH]))
                    (refine TD.val0 (v := ?v88) (by simp only [zA, zB, zC]; rfl) rfl ?hw88 (fun w1 => ?hy88) ?hn88; (case hw88 => rfl); (case hy88 => (go_simp; (try with_reducible rfl))); (try simp only [Act.put, zF, zG, zH]))
                    (refine TD.val0 (v := ?v89) (by simp only [zA, zB, zC]; rfl) rfl ?hw89 (fun w1 => ?hy89) ?hn89; (case hw89 => rfl); (case hy89 => (go_simp; (try with_reducible rfl))); (try simp only [Act.put, zF, zG, zH]))
                    refine TD.nil (fun w36 hr => ?_)
                    have kp106 := hr.mod.at kp106 (fun h => h)
                    have HM6 := Lib.hid (HM4.out.then0 hr.mod)
                    clear hr
                    go_wp2_with fail
                    go_roundw
                    case rel => exact ⟨i + 1, by omega, by go_num, HM6, kp106⟩
                    case measure => simp [intOf]; omega
                  · rw [← HCT.out] at hc
                    have hg1 := decide_eq_false (show ¬ (c : Int) < (n : Int) by omega)
                    have hg2 := decide_eq_false (show ¬ c < n by omega)
                    clear hc
                    go_upto_region 36 with fail
                    have Lkp106 := lt_size kp106
                    refine wp_pass0 (C := fun _ _ _ => False) (κ := fun i => [0, 0, 0, 1, 0, 0, 0, 0, 0, 0, 0, 0, 0, 0, 1, 0, 0, 0, 0, 0, 0, 0, 0, 0, 0, 0, 1, 0, 0].getD i 0) [0, 1, 2, 3, 4, 5, 6, 7, 8, 9, 10, 11, 12, 13, 14, 15, 16, 17, 18, 19, 20, 21, 22, 23, 24, 25, 26, 27, 28] (by kernel_rfl) (by kernel_rfl) (fun _ _ d _ _ h => by cases d <;> first | exact h | exact absurd h (hP _ _ _)) ?_
                    (refine TD.val0 (v := ?v90) (by simp only [zA, zB, zC]; rfl) rfl ?hw90 (fun w1 => ?hy90) ?hn90; (case hw90 => rfl); (case hy90 => (go_simp; (try with_reducible rfl))); (try simp only [Act.put, zF, zG, zH]))
                    (refine TD.val0 (v := ?v91) (by simp only [zA, zB, zC]; rfl) rfl ?hw91 (fun w1 => ?hy91) ?hn91; (case hw91 => rfl); (case hy91 => (go_simp; (try with_reducible rfl))); (try simp only [Act.put, zF, zG, zH]))
                    (refine TD.val0 (v := ?v92) (by simp only [zA, zB, zC]; rfl) rfl ?hw92 (fun w1 => ?hy92) ?hn92; (case hw92 => rfl); (case hy92 => (go_simp; (try with_reducible rfl))); (try simp only [Act.put, zF, zG, zH]))
                    (refine TD.load (v := ?v93) (p := ?p93) (Mod.refl _ _) (by simp only [zA, zB, zC]; rfl) rfl ?hw93 rfl ?hx93 (fun wq hSq => ?hy93) ?hn93; (case hw93 => rfl); (case hx93 => (simp only [Act.eval, zD, zA, zB, zC, zE]; (try rfl))); (case hy93 => (have kp106q := hSq.at kp106 (fun h => h); go_simp; (try with_reducible rfl))); (try simp only [Act.put, zF, zG, zH]))
                    (refine TD.val0 (v := ?v94) (by simp only [zA, zB, zC]; rfl) rfl ?hw94 (fun w1 => ?hy94) ?hn94; (case hw94 => rfl); (case hy94 => (go_simp; (try with_reducible rfl))); (try simp only [Act.put, zF, zG, zH]))
                    (refine TD.val0 (v := ?v95) (by simp only [zA, zB, zC]; rfl) rfl ?hw95 (fun w1 => ?hy95) ?hn95; (case hw95 => rfl); (case hy95 => (go_simp; (try with_reducible rfl))); (try simp only [Act.put, zF, zG, zH]))
                    (refine TD.pass (by simp only [zA, zB, zC]; rfl) rfl ?hw96 ?hn96; (case hw96 => rfl); (try simp only [Act.put, zF, zG, zH]))
                    (refine TD.pass (by simp only [zA, zB, zC]; rfl) rfl ?hw97 ?hn97; (case hw97 => rfl); (try simp only [Act.put, zF, zG, zH]))
                    (refine TD.pass (by simp only [zA, zB, zC]; rfl) rfl ?hw98 ?hn98; (case hw98 => rfl); (try simp only [Act.put, zF, zG, zH]))
                    (refine TD.val0 (v := ?v99) (by simp only [zA, zB, zC]; rfl) rfl ?hw99 (fun w1 => ?hy99) ?hn99; (case hw99 => rfl); (case hy99 => (go_simp; (try with_reducible rfl))); (try simp only [Act.put, zF, zG, zH]))
                    (refine TD.val0 (v := ?v100) (by simp only [zA, zB, zC]; rfl) rfl ?hw100 (fun w1 => ?hy100) ?hn100; (case hw100 => rfl); (case hy100 => (go_simp; (try with_reducible rfl))); (try simp only [Act.put, zF, zG, zH]))
                    (refine TD.val0 (v := ?v101) (by simp only [zA, zB, zC]; rfl) rfl ?hw101 (fun w1 => ?hy101) ?hn101; (case hw101 => rfl); (case hy101 => (go_simp; (try with_reducible rfl))); (try simp only [Act.put, zF, zG, zH]))
                    (refine TD.val0 (v := ?v102) (by simp only [zA, zB, zC]; rfl) rfl ?hw102 (fun w1 => ?hy102) ?hn102; (case hw102 => rfl); (case hy102 => (go_simp; (try with_reducible rfl))); (try simp only [Act.put, zF, zG, zH]))
                    (refine TD.val0 (v := ?v103) (by simp only [zA, zB, zC]; rfl) rfl ?hw103 (fun w1 => ?hy103) ?hn103; (case hw103 => rfl); (case hy103 => (go_simp; (try with_reducible rfl))); (try simp only [Act.put, zF, zG, zH]))
                    (refine TD.load (v := ?v104) (p := ?p104) (Mod.refl _ _) (by simp only [zA, zB, zC]; rfl) rfl ?hw104 rfl ?hx104 (fun wq hSq => ?hy104) ?hn104; (case hw104 => rfl); (case hx104 => (simp only [Act.eval, zD, zA, zB, zC, zE]; (try rfl))); (case hy104 => (have kp106q := hSq.at kp106 (fun h => h); go_simp; (try with_reducible rfl))); (try simp only [Act.put, zF, zG, zH]))
                    (refine TD.val0 (v := ?v105) (by simp only [zA, zB, zC]; rfl) rfl ?hw105 (fun w1 => ?hy105) ?hn105; (case hw105 => rfl); (case hy105 => (go_simp; (try with_reducible rfl))); (try simp only [Act.put, zF, zG, zH]))
                    (refine TD.val0 (v := ?v106) (by simp only [zA, zB, zC]; rfl) rfl ?hw106 (fun w1 => ?hy106) ?hn106; (case hw106 => rfl); (case hy106 => (go_simp; (try with_reducible rfl))); (try simp only [Act.put, zF, zG, zH]))
                    (refine TD.val0 (v := ?v107) (by simp only [zA, zB, zC]; rfl) rfl ?hw107 (fun w1 => ?hy107) ?hn107; (case hw107 => rfl); (case hy107 => (go_simp; (try with_reducible rfl))); (try simp only [Act.put, zF, zG, zH]))
                    (refine TD.val0 (v := ?v108) (by simp only [zA, zB, zC]; rfl) rfl ?hw108 (fun w1 => ?hy108) ?hn108; (case hw108 => rfl); (case hy108 => (go_simp; (try with_reducible rfl))); (try simp only [Act.put, zF, zG, zH]))
                    (refine TD.val0 (v := ?v109) (by simp only [zA, zB, zC]; rfl) rfl ?hw109 (fun w1 => ?hy109) ?hn109; (case hw109 => rfl); (case hy109 => (go_simp; (try with_reducible rfl))); (try simp only [Act.put, zF, zG, zH]))
                    (refine TD.val0 (v := ?v110) (by simp only [zA, zB, zC]; rfl) rfl ?hw110 (fun w1 => ?hy110) ?hn110; (case hw110 => rfl); (case hy110 => (go_simp; (try with_reducible rfl))); (try simp only [Act.put, zF, zG, zH]))
                    (refine TD.val0 (v := ?v111) (by simp only [zA, zB, zC]; rfl) rfl ?hw111 (fun w1 => ?hy111) ?hn111; (case hw111 => rfl); (case hy111 => (go_simp; (try with_reducible rfl))); (try simp only [Act.put, zF, zG, zH]))
                    (refine TD.val0 (v := ?v112) (by simp only [zA, zB, zC]; rfl) rfl ?hw112 (fun w1 => ?hy112) ?hn112; (case hw112 => rfl); (case hy112 => (go_simp; (try with_reducible rfl))); (try simp only [Act.put, zF, zG, zH]))
                    (refine TD.val0 (v := ?v113) (by simp only [zA, zB, zC]; rfl) rfl ?hw113 (fun w1 => ?hy113) ?hn113; (case hw113 => rfl); (case hy113 => (go_simp; (try with_reducible rfl))); (try simp only [Act.put, zF, zG, zH]))
                    (refine TD.val0 (v := ?v114) (by simp only [zA, zB, zC]; rfl) rfl ?hw114 (fun w1 => ?hy114) ?hn114; (case hw114 => rfl); (case hy114 => (go_simp; (try with_reducible rfl))); (try simp only [Act.put, zF, zG, zH]))
                    (refine TD.val0 (v := ?v115) (by simp only [zA, zB, zC]; rfl) rfl ?hw115 (fun w1 => ?hy115) ?hn115; (case hw115 => rfl); (case hy115 => (go_simp; (try with_reducible rfl))); (try simp only [Act.put, zF, zG, zH]))
                    (refine TD.load (v := ?v116) (p := ?p116) (Mod.refl _ _) (by simp only [zA, zB, zC]; rfl) rfl ?hw116 rfl ?hx116 (fun wq hSq => ?hy116) ?hn116; (case hw116 => rfl); (case hx116 => (simp only [Act.eval, zD, zA, zB, zC, zE]; (try rfl))); (case hy116 => (have kp106q := hSq.at kp106 (fun h => h); go_simp; (try with_reducible rfl))); (try simp only [Act.put, zF, zG, zH]))
                    (refine TD.val0 (v := ?v117) (by simp only [zA, zB, zC]; rfl) rfl ?hw117 (fun w1 => ?hy117) ?hn117; (case hw117 => rfl); (case hy117 => (go_simp; (try with_reducible rfl))); (try simp only [Act.put, zF, zG, zH]))
                    (refine TD.val0 (v := ?v118) (by simp only [zA, zB, zC]; rfl) rfl ?hw118 (fun w1 => ?hy118) ?hn118; (case hw118 => rfl); (case hy118 => (go_simp; (try with_reducible rfl))); (try simp only [Act.put, zF, zG, zH]))
                    refine TD.nil (fun w36 hr => ?_)
                    have kp106 := hr.mod.at kp106 (fun h => h)
                    have HM6 := Lib.hid (HM4.out.then0 hr.mod)
                    clear hr
                    go_wp2_with fail
                    go_roundw
                    case rel => exact ⟨i + 1, by omega, by go_num, HM6, kp106⟩
                    case measure => simp [intOf]; omega
            · obtain rfl : i = l.length := by omega
              have m3 := HM3.out
              clear HM3
              go_wp2_with fail
              go_at_call 7
              refine (lives_c _ (HT.out.mod0 m3)).mono ?_
              rintro e w4 ⟨rfl, m4⟩
              go_wp2_with fail
              go_ret
              exact ⟨rfl, m3.then0 m4⟩
end Go.Proofs.YtdeghpmlhcaedaaDoor
