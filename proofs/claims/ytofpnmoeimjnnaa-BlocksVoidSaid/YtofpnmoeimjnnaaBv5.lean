/- Blocks: the verdict on a transaction, by what its three steps say. -/
import Derived.Test.YtofpnmoeimjnnaaBv3
namespace Go.Proofs.Ytofpnmoeimjnnaa
open Go.RowKit
open Go.ChangeMaps (setBlock)
set_option linter.unusedSimpArgs false
set_option linter.unusedVariables false
attribute [local go_sem ↓] wlKey ldKey stKey wlAcct ldAcct stAcct wlHold ldHold stHold wlHash ldHash stHash wlSig ldSig stSig wlLim ldLim stLim wlRdy ldRdy stRdy wlOut ldOut stOut wlTd ldTd stTd wlTx ldTx stTx eqKey1
attribute [local go_sem] eqMap neMap av_size av_all av_one hd_size hd_key hd_acct hd_all hd_one zKey_size zAcct_size zHold_size zHash_size zSg_size zLim_size zRdy_size zOut_size zTried_size zTx_size cell_blk frozen_blk kc_ext one_int one_bool one_ptr one_slice one_map kc_one kc_one0 kc_size sgc_size sgc_ext sgc_one0 sgc_one' rdr_size rdr_all rdr_one rdr_tx rdr_rec rdr0 rdr1 rdr41 rdr0' rdr1' rdr41' ocr_size ocr_all ocr_one ocr2 ocr3 ocr4 ocr5 ocr2' ocr3' ocr4' ocr5' tdr_size tdr_all tdr_one tdr_r tdr_o tdr_tx tdr_rec tdr0 tdr1 tdr41 tdr50 tdr51 tdr52 tdr53 tdr0' tdr1' tdr41' tdr50' tdr51' tdr52' tdr53' txr_size txr_all txr_one txr0 txr38 txr39 txr0' txr38' txr39' Value.cells

theorem hmf (fn : Fn) (first cap : Array Value) (w : World) : (Instr.makeFunc fn first cap).run Try.prog w = .ok (.func fn first cap) w := rfl
abbrev fn1 (p : Nat) : Value := .func (.func 63) #[] #[ptrV p]
abbrev fn2 (p q : Nat) : Value := .func (.func 64) #[] #[ptrV p, ptrV q]
abbrev fn3 (p q : Nat) : Value := .func (.func 65) #[] #[ptrV q, ptrV p]
theorem bsSteps (p q : Nat) (w : World) : (Instr.buildSlice 170 3 #[(0, fn1 p), (1, fn2 p q), (2, fn3 p q)]).run Try.prog w = .ok (.slice (some ⟨w.heap.size, 0, none⟩) 3 3) (w.alloc (.cells #[fn1 p, fn2 p q, fn3 p q] 87)) := by kernel_rfl
theorem step1_c {b s q n t : Nat} {e : Bool} {ea : Option Addr} {en ec : Nat} {oa : Option Addr} {on oc : Nat} {f : UInt64} {p : Nat} (w : World) (kb : w.heap[b]? = some (.cells (blkC s q n t e ea en ec oa on oc f) 80 (0, 0))) (kp : w.heap[p]? = some (.cells #[ptrV b] 36 (0, 0))) :
    Calls Try.prog 63 #[ptrV p] w fun r w' => r = .returned (.int .i64 (if e then 23 else 0)) ∧ w = w' := by
  unfold blkC at kb
  cases e
  all_goals
    go_enter Try.func63, Try.ntmps63
    go_wp2
    go_ret
    exact ⟨rfl, rfl⟩
set_option maxRecDepth 20000 in
set_option maxHeartbeats 3200000 in
theorem verdict_g {b : Nat} {x : TdR} {w : World} {v1 v2 : Nat} {R : Nat → World → World → Prop}
    (h1 : ∀ p w1, w1.heap[p]? = some (.cells #[ptrV b] 36 (0, 0)) → Mod (fun _ => False) w w1 → Calls Try.prog 63 #[ptrV p] w1 fun e w' => e = .returned (.int .i64 (v1 : Int)) ∧ Mod (fun _ => False) w1 w')
    (h2 : v1 = 0 → ∀ p q w1, w1.heap[p]? = some (.cells #[ptrV b] 36 (0, 0)) → w1.heap[q]? = some (.cells (tdr x) 66 (0, 0)) → Mod (fun _ => False) w w1 → Calls Try.prog 64 #[ptrV p, ptrV q] w1 fun e w' => e = .returned (.int .i64 (v2 : Int)) ∧ Mod (fun _ => False) w1 w')
    (h3 : v1 = 0 → v2 = 0 → ∀ p q w1, w1.heap[p]? = some (.cells #[ptrV b] 36 (0, 0)) → w1.heap[q]? = some (.cells (tdr x) 66 (0, 0)) → Mod (fun _ => False) w w1 → Calls Try.prog 65 #[ptrV q, ptrV p] w1 fun e w' => ∃ v : Nat, e = .returned (.int .i64 (v : Int)) ∧ R v w1 w') :
    Calls Try.prog 34 #[ptrV b, .agg (tdr x)] w fun e w' => (v1 ≠ 0 ∧ e = .returned (.int .i64 (v1 : Int)) ∧ Mod (fun _ => False) w w') ∨ (v1 = 0 ∧ v2 ≠ 0 ∧ e = .returned (.int .i64 (v2 : Int)) ∧ Mod (fun _ => False) w w') ∨ (v1 = 0 ∧ v2 = 0 ∧ ∃ (v : Nat) (w1 : World), e = .returned (.int .i64 (v : Int)) ∧ R v w1 w' ∧ Mod (fun _ => False) w w1) := by
  have HH := Lib.hid (And.intro h1 (And.intro h2 h3))
  clear h1 h2 h3
  have hmf := hmf
  go_enter Try.func34, Try.ntmps34
  go_upto_region 0 with fail
  refine wp_pass0 (C := fun _ _ _ => False) (κ := fun i => [3, 3, 0].getD i 0) [0, 1, 2] (by kernel_rfl) (by kernel_rfl) (fun _ _ d _ _ h => by cases d <;> first | exact h | exact absurd h (hP _ _ _)) ?_
  (refine TD.box (v := ?v1) (by simp only [zA, zB, zC]; rfl) rfl ?hw1 rfl rfl ?hx1 (fun p2 hp2 => ?hn1); (case hw1 => rfl); (case hx1 => (simp only [Act.eval, zD, zA, zB, zC, zE]; (try rfl))); (try simp only [Act.put, zF, zG, zH]))
  (refine TD.box (v := ?v2) (by simp only [zA, zB, zC]; rfl) rfl ?hw2 rfl rfl ?hx2 (fun p3 hp3 => ?hn2); (case hw2 => rfl); (case hx2 => (simp only [Act.eval, zD, zA, zB, zC, zE]; (try rfl))); (try simp only [Act.put, zF, zG, zH]))
  obtain ⟨ne_p3_p2, hp3⟩ := Bx.set_none hp3
  (refine TD.val0 (v := ?v3) (by simp only [zA, zB, zC]; rfl) rfl ?hw3 (fun w1 => ?hy3) ?hn3; (case hw3 => rfl); (case hy3 => (go_simp; (try with_reducible rfl))); (try simp only [Act.put, zF, zG, zH]))
  refine TD.nil (fun w1 hr => ?_)
  have kp2 := hr.box p2 _ (by first | exact Bx.set_same _ _ _ | (simp only [Bx.set_ne _ (Ne.symm ne_p3_p2), Bx.set_ne _ ne_p3_p2, Bx.set_same]; rfl)); dsimp only [Value.cells] at kp2; obtain ⟨gp2, kp2⟩ := kp2
  have kp3 := hr.box p3 _ (by first | exact Bx.set_same _ _ _ | (simp only [Bx.set_ne _ (Ne.symm ne_p3_p2), Bx.set_ne _ ne_p3_p2, Bx.set_same]; rfl)); dsimp only [Value.cells] at kp3; obtain ⟨gp3, kp3⟩ := kp3
  have m1 := hr.mod
  clear hr
  have hbs := bsSteps p2 p3
  go_upto_region 2 with fail
  obtain ⟨w2, g, hg, kg, m2, e2⟩ : ∃ w2 g, w1.heap.size = g ∧ w2.heap[g]? = some (.cells #[fn1 p2, fn2 p2 p3, fn3 p2 p3] 87 (0, 0)) ∧ Mod (fun _ => False) w1 w2 ∧ w2 = w1.alloc (.cells #[fn1 p2, fn2 p2 p3, fn3 p2 p3] 87) := ⟨_, _, rfl, heap_alloc_new _ _, (Mod.refl _ _).alloc _, rfl⟩
  rw [← e2, hg]
  have k2 := m2.at0 kp2
  have k3 := m2.at0 kp3
  have mm := m1.then0 m2
  clear e2 hg m2 kp2 kp3 hbs
  go_wp2_with fail
  go_loopw [15] (fun s15 ws => ∃ i : Nat, i ≤ 3 ∧ s15 = .int .i64 (i : Int) ∧ Hid (0 < i → v1 = 0) ∧ Hid (1 < i → v2 = 0) ∧ (i < 3 ∧ Mod (fun _ => False) w ws ∧ ws.heap[g]? = some (.cells #[fn1 p2, fn2 p2 p3, fn3 p2 p3] 87 (0, 0)) ∧ ws.heap[p2]? = some (.cells #[ptrV b] 36 (0, 0)) ∧ ws.heap[p3]? = some (.cells (tdr x) 66 (0, 0)) ∨ i = 3 ∧ Hid (∃ wx, R 0 wx ws ∧ Mod (fun _ => False) w wx))) (fun s15 _ => 3 - (intOf s15).toNat)
  case atStart => exact ⟨0, by omega, rfl, Lib.hid (by omega), Lib.hid (by omega), .inl ⟨by omega, mm, kg, k2, k3⟩⟩
  case round =>
    obtain ⟨i, hi, rfl, HV1, HV2, hcase⟩ := hrel
    clear kg k2 k3 mm
    rcases hcase with ⟨hi3, mm, kg, k2, k3⟩ | ⟨rfl, HR⟩
    · have hc : i = 0 ∨ i = 1 ∨ i = 2 := by omega
      rcases hc with rfl | rfl | rfl
      · go_wp2_with fail
        refine (HH.out.1 _ _ k2 mm).mono ?_
        rintro e w3 ⟨rfl, m3⟩
        have mm3 := mm.then0 m3
        have kg3 := m3.at0 kg
        have k23 := m3.at0 k2
        have k33 := m3.at0 k3
        by_cases hv : v1 = 0
        · have HV := Lib.hid hv
          have hne : ((v1 : Int) != 0) = false := by rw [hv]; rfl
          clear hv kg k2 k3 mm m3
          go_wp2_with fail
          go_roundw
          case rel => exact ⟨1, by omega, by go_num, Lib.hid (fun _ => HV.out), Lib.hid (by omega), .inl ⟨by omega, mm3, kg3, k23, k33⟩⟩
          case measure => simp [intOf]
        · have HV := Lib.hid hv
          have hne : ((v1 : Int) != 0) = true := by rw [bne_iff_ne]; omega
          clear hv kg k2 k3 mm m3
          go_wp2_with fail
          go_ret
          exact .inl ⟨HV.out, rfl, mm3⟩
      · have HV := Lib.hid (HV1.out (by omega))
        go_wp2_with fail
        refine (HH.out.2.1 HV.out _ _ _ k2 k3 mm).mono ?_
        rintro e w3 ⟨rfl, m3⟩
        have mm3 := mm.then0 m3
        have kg3 := m3.at0 kg
        have k23 := m3.at0 k2
        have k33 := m3.at0 k3
        by_cases hv : v2 = 0
        · have HVV := Lib.hid hv
          have hne : ((v2 : Int) != 0) = false := by rw [hv]; rfl
          clear hv kg k2 k3 mm m3
          go_wp2_with fail
          go_roundw
          case rel => exact ⟨2, by omega, by go_num, Lib.hid (fun _ => HV.out), Lib.hid (fun _ => HVV.out), .inl ⟨by omega, mm3, kg3, k23, k33⟩⟩
          case measure => simp [intOf]
        · have HVV := Lib.hid hv
          have hne : ((v2 : Int) != 0) = true := by rw [bne_iff_ne]; omega
          clear hv kg k2 k3 mm m3
          go_wp2_with fail
          go_ret
          exact .inr (.inl ⟨HV.out, HVV.out, rfl, mm3⟩)
      · have HV := Lib.hid (HV1.out (by omega))
        have HVV := Lib.hid (HV2.out (by omega))
        go_wp2_with fail
        refine (HH.out.2.2 HV.out HVV.out _ _ _ k2 k3 mm).mono ?_
        rintro e w3 ⟨v, rfl, hR⟩
        have HR := Lib.hid hR
        have HM := Lib.hid mm
        by_cases hv : v = 0
        · subst hv
          clear kg k2 k3 mm hR
          go_wp2_with fail
          go_roundw
          case rel => exact ⟨3, by omega, by go_num, Lib.hid (fun _ => HV.out), Lib.hid (fun _ => HVV.out), .inr ⟨rfl, Lib.hid ⟨_, HR.out, HM.out⟩⟩⟩
          case measure => simp [intOf]
        · have hne : ((v : Int) != 0) = true := by rw [bne_iff_ne]; omega
          clear hv kg k2 k3 mm hR
          go_wp2_with fail
          go_ret
          exact .inr (.inr ⟨HV.out, HVV.out, v, _, rfl, HR.out, HM.out⟩)
    · go_wp2_with fail
      go_ret
      obtain ⟨wx, hr, hm⟩ := HR.out
      exact .inr (.inr ⟨HV1.out (by omega), HV2.out (by omega), 0, wx, rfl, hr, hm⟩)
end Go.Proofs.Ytofpnmoeimjnnaa
