/- Graphs: the law GraphsBehind. -/
import Derived.Test.YtffcnnogkpdinaaGbw
import Derived.Test.YtffcnnogkpdinaaGcf
namespace Go.Proofs.Ytffcnnogkpdinaa
open Go.RowKit
open Go.ChangeMaps (setBlock)
set_option linter.unusedSimpArgs false
set_option linter.unusedVariables false
attribute [local go_sem ↓] wlKey wlRole ldKey ldRole stKey stRole
attribute [local go_sem] zKey_size zRole_size kc_ext rc_size rc_key rc_all rc_s rc_w rc_s' rc_w' rc_one one_int one_bool one_ptr one_slice one_map kc_one kc_one0 cell_blk frozen_blk Value.cells eqMap neMap
set_option maxRecDepth 20000 in
set_option maxHeartbeats 6400000 in
theorem behindLaw_c (a : Option Addr) (l : List Ac) (c : Nat) (a2 : Option Addr) (x : List Role) (c2 : Nat) (w : World) (hl : SlAt acv 3 w a l) (hb : ∀ y, a = some y → y.block < w.heap.size ∨ l = []) (hlm : l.length ≤ 140737488355328) (hok : ∀ y ∈ l, AcOk w y)
    (hx : RolesAt w a2 x) (hxb : ∀ y, a2 = some y → y.block < w.heap.size ∨ x = []) (hxm : x.length ≤ 140737488355328) :
    Calls Try.prog 7 #[.slice a l.length c, .slice a2 x.length c2] w fun e w' => e = .returned (.bool true) ∧ Mod (fun _ => False) w w' := by
  have HL := Lib.hid hl
  have HX := Lib.hid hx
  have HB := Lib.hid hb
  have HXB := Lib.hid hxb
  have HOK := Lib.hid hok
  clear hl hx hb hxb hok
  go_enter Try.func7, Try.ntmps7
  go_wp2_with fail
  go_at_call 14
  refine (great_c a l c _ HL.out (fun y hy => by have h1 := (HOK.out y hy).2.2.1; simp only [reachBytes] at h1; omega) hlm).mono ?_
  rintro e w1 ⟨gr, rfl, m1, HG⟩
  cases gr with
  | true =>
    go_wp2_with fail
    go_at_call 8
    refine (lives_c _).mono ?_
    rintro e w4 ⟨rfl, m4⟩
    go_wp2_with fail
    go_ret
    exact ⟨rfl, m1.then0 m4⟩
  | false =>
    by_cases h100 : 100 < x.length
    · have hd : decide ((100 : Int) < (x.length : Int)) = true := decide_eq_true (by omega)
      have hd2 : decide (100 < x.length) = true := decide_eq_true h100
      clear h100
      go_wp2_with fail
      go_at_call 8
      refine (lives_c _).mono ?_
      rintro e w4 ⟨rfl, m4⟩
      go_wp2_with fail
      go_ret
      exact ⟨rfl, m1.then0 m4⟩
    · have hd : decide ((100 : Int) < (x.length : Int)) = false := decide_eq_false (by omega)
      have hd2 : decide (100 < x.length) = false := decide_eq_false h100
      have hx100 : x.length ≤ 100 := by omega
      have h300 := HG.out rfl
      clear h100 HG hxm hlm
      have hl300 : l.length ≤ 300 := by omega
      have HR300 : Hid (rolesN l ≤ 300) := Lib.hid (by omega)
      clear h300
      go_wp2_with fail
      go_at_call 9
      refine (newR_c _).mono ?_
      rintro e w3 ⟨g, rfl, U, hA, m3, hT⟩
      have hU0 : ∀ i, U i → w.heap.size ≤ i := fun i hi => by have := hT i hi; have := m1.size; omega
      have mm := m1.then0 m3
      have HA := Lib.hid (And.intro hA hU0)
      clear hA hU0 hT m1 m3 hd hd2
      go_wp2_with fail
      go_loopw [6] (fun s6 ws => ∃ (i : Nat) (T : Nat → Prop), i ≤ l.length ∧ s6 = .int .i64 i ∧ Hid (RAt g i (KL l i) T ws ∧ (∀ j, T j → w.heap.size ≤ j)) ∧ Hid (Mod (fun _ => False) w ws)) (fun s6 _ => l.length - (intOf s6).toNat)
      case atStart => exact ⟨0, U, by omega, rfl, HA, Lib.hid mm⟩
      case round =>
        obtain ⟨i, T, hi, rfl, HR, HMm⟩ := hrel
        by_cases hlt : i < l.length
        · obtain ⟨y, hy⟩ : ∃ y, l[i]? = some y := ⟨_, List.getElem?_eq_getElem hlt⟩
          obtain ⟨bl, o, C, V, fr, rfl, kl, _, _, hx2⟩ := ac_at (HL.out.mod0 HMm.out) hy
          have hm := List.mem_of_getElem? hy
          have hO := HOK.out y hm
          have hn8 := rolesN_at hm
          have nTl : ¬ T bl := fun h => by
            have h1 := HR.out.2 _ h
            rcases HB.out _ rfl with h2 | h2
            · have h2 : bl < w.heap.size := h2
              omega
            · rw [h2] at hlt; cases hlt
          have hdi : decide ((i : Int) < (l.length : Int)) = true := decide_eq_true (by omega)
          have hro := rolesAt_of hy
          have HY : Hid (RolesAt w y.s.a y.s.l ∧ (y.s.l ≠ [] → ∀ b o, y.s.a = some ⟨b, o, none⟩ → b < w.heap.size) ∧ y.s.l.length ≤ 300 ∧ rolesAt l i = y.s.l) := Lib.hid ⟨hO.1, fun hne b o e => by
            rcases hO.2.2.2.1 _ e with h | h
            · exact h
            · exact absurd h hne, by have := HR300.out; omega, hro⟩
          clear hO hro hy hm hn8
          have hq9 : i < 900 := by omega
          go_wp2_with fail
          go_at_call 10
          refine (putA_c HR.out.1 hq9 (idn i) (i : Int) (idn_toInt (by omega)) y.s.a y.s.l _ y.s.c rfl (SlAt.mod0 HY.out.1 HMm.out) (by have := HY.out.2.2.1; omega) (fun hne b o e h => by have h1 := HY.out.2.1 hne b o e; have h2 := HR.out.2 _ h; omega) (KL_new (by omega)) (KL l (i + 1)) (by rw [KL_succ, HY.out.2.2.2])).mono ?_
          rintro e w4 ⟨rfl, TR, hA4, hm4, hT4⟩
          have h2 : ∀ j, TR j → w.heap.size ≤ j := fun j hj => by
            rcases hT4 j hj with h | h
            · exact HR.out.2 j h
            · have := HMm.out.size; omega
          have m4 : Mod (fun _ => False) w w4 := HMm.out.then hm4 (fun j hj h => by have := HR.out.2 j h; omega)
          have HR' := Lib.hid (And.intro hA4 h2)
          have HM' := Lib.hid m4
          clear hA4 hm4 hT4 m4 h2
          go_wp2_with fail
          go_roundw
          case rel => exact ⟨i + 1, TR, by omega, by go_num, HR', HM'⟩
          case measure => simp [intOf]; omega
        · have hE : i = l.length := by omega
          subst hE
          have hdi : decide ((l.length : Int) < (l.length : Int)) = false := decide_eq_false (by omega)
          clear hlt hi
          go_wp2_with fail
          go_at_call 13
          refine (readyR_c HR.out.1).mono ?_
          rintro e w5 ⟨aw, rfl, hw5, hfz, haw, m5⟩
          have hA5 := HR.out.1.mod0 m5
          have mm5 := HMm.out.then0 m5
          have hwl : (readyR (KL l l.length)).length ≤ 300 := by have := ready_len (KL l l.length); rw [KL_len] at this; omega
          have HT := Lib.hid HR.out.2
          have HAW : Hid (∀ b o, aw = some ⟨b, o, none⟩ → ¬ T b) := Lib.hid (fun b o e h => by
            have h1 := haw _ e
            have h1 : wr.heap.size ≤ b := h1
            have h2 := HR.out.1.2 _ h
            omega)
          have HW := Lib.hid hw5
          have HA5 := Lib.hid hA5
          have HM5 := Lib.hid mm5
          clear hw5 hfz haw hA5 mm5 m5 HR HMm
          generalize hwas : readyR (KL l l.length) = was at *
          have HWAS := Lib.hid hwas
          clear hwas
          go_wp2_with fail
          go_loopw [8] (fun s8 ws => ∃ i : Nat, i ≤ l.length ∧ s8 = .int .i64 i ∧ Mod (fun _ => False) w5 ws) (fun s8 _ => l.length - (intOf s8).toNat)
          case atStart => exact ⟨0, Nat.zero_le _, rfl, Mod.refl _ _⟩
          case round =>
            obtain ⟨i, hi, rfl, hm6⟩ := hrel
            by_cases hlt : i < l.length
            · have hdi : decide ((i : Int) < (l.length : Int)) = true := decide_eq_true (by omega)
              go_wp2_with fail
              go_loopw [9, 10] (fun s9 s10 ws => ∃ k : Nat, ∃ b : Bool, k ≤ was.length ∧ s10 = .int .i64 k ∧ s9 = .bool b ∧ Hid (b = (was.take k).any fun z => decide (z = idn i)) ∧ Mod (fun _ => False) w5 ws) (fun s9 s10 _ => was.length - (intOf s10).toNat)
              case atStart => exact ⟨0, false, Nat.zero_le _, rfl, rfl, Lib.hid (by simp), hm6⟩
              case round =>
                clear hm6
                obtain ⟨k, b, hk, rfl, rfl, HBk, hm6⟩ := hrel
                by_cases hkl : k < was.length
                · have hkd : decide ((k : Int) < (was.length : Int)) = true := decide_eq_true (by omega)
                  obtain ⟨z, hz⟩ : ∃ z, was[k]? = some z := ⟨_, List.getElem?_eq_getElem hkl⟩
                  have HAT := Lib.hid (any_take (fun z => decide (z = idn i)) was hz)
                  cases b with
                  | true =>
                    go_wp2_with fail
                    go_roundw
                    case rel => exact ⟨k + 1, true, by omega, by go_num, rfl, Lib.hid (by rw [HAT.out, ← HBk.out]; rfl), hm6⟩
                    case measure => simp [intOf]; omega
                  | false =>
                    obtain ⟨b1, o1, C1, U1, f1, rfl, k1, v1⟩ := int_at (HW.out.mod0 hm6) hz
                    have hzi := int_eqn (z := z) (i := i) (by omega)
                    by_cases hzz : z = idn i
                    · rw [decide_eq_true hzz] at hzi
                      have HZ := Lib.hid hzz
                      clear hzz hz
                      go_wp2_with fail
                      go_roundw
                      case rel => exact ⟨k + 1, true, by omega, by go_num, rfl, Lib.hid (by rw [HAT.out, decide_eq_true HZ.out, Bool.or_true]), hm6⟩
                      case measure => simp [intOf]; omega
                    · rw [decide_eq_false hzz] at hzi
                      have HZ := Lib.hid hzz
                      clear hzz hz
                      go_wp2_with fail
                      go_roundw
                      case rel => exact ⟨k + 1, false, by omega, by go_num, rfl, Lib.hid (by rw [HAT.out, decide_eq_false HZ.out, ← HBk.out]; rfl), hm6⟩
                      case measure => simp [intOf]; omega
                · obtain rfl : k = was.length := by omega
                  have hkd : decide ((was.length : Int) < (was.length : Int)) = false := decide_eq_false (by omega)
                  have HBw : Hid (b = was.any fun z => decide (z = idn i)) := Lib.hid (by have := HBk.out; rwa [List.take_length] at this)
                  cases b with
                  | true =>
                    go_wp2_with fail
                    go_roundw
                    case rel => exact ⟨i + 1, by omega, by go_num, hm6⟩
                    case measure => simp [intOf]; omega
                  | false =>
                    have hnot : idn i ∉ readyR (KL l l.length) := fun h => by
                      rw [HWAS.out] at h
                      have h1 := HBw.out
                      have h2 : (was.any fun z => decide (z = idn i)) = true := List.any_eq_true.2 ⟨_, h, by simp⟩
                      rw [h2] at h1
                      cases h1
                    have HBL := Lib.hid (behind_blocked hlt hnot)
                    clear hnot
                    go_wp2_with fail
                    go_at_call 16
                    refine (popB_c (HA5.out.mod0 hm6) HBL.out (i : Int) (idn_toInt (by omega))).mono ?_
                    rintro e w7 ⟨rfl, hm7⟩
                    go_wp2_with fail
                    go_at_call 19
                    refine (lenE_c ((HA5.out.mod0 hm6).mod0 hm7) l.length (KL_len l _)).mono ?_
                    rintro e w8 ⟨rfl, rfl⟩
                    have hm8 := hm6.then0 hm7
                    clear hm7
                    go_wp2_with fail
                    go_roundw
                    case rel => exact ⟨i + 1, by omega, by go_num, hm8⟩
                    case measure => simp [intOf]; omega
            · obtain rfl : i = l.length := by omega
              have hdi : decide ((l.length : Int) < (l.length : Int)) = false := decide_eq_false (by omega)
              clear hlt hi
              have hq9 : l.length < 900 := by omega
              have hA6 := HA5.out.mod0 hm6
              have HM6 := Lib.hid (HM5.out.then0 hm6)
              have hW6 := HW.out.mod0 hm6
              go_wp2_with fail
              go_at_call 10
              refine (putA_c hA6 hq9 (-1) (-1) rfl a2 x _ c2 rfl (SlAt.mod0 HX.out HM6.out) (by omega) (fun hne b o e h => by
                have h2 := HT.out _ h
                rcases HXB.out _ e with h3 | h3
                · have h3 : b < w.heap.size := h3
                  omega
                · exact hne h3) (KL_neg (by omega)) _ rfl).mono ?_
              rintro e w7 ⟨rfl, TR, hA7, hm7, hT7⟩
              have h2 : ∀ j, TR j → w.heap.size ≤ j := fun j hj => by
                rcases hT7 j hj with h | h
                · exact HT.out j h
                · have := HM6.out.size; omega
              have m7 : Mod (fun _ => False) w w7 := HM6.out.then hm7 (fun j hj h => by have := HT.out j h; omega)
              have hW7 := hW6.mod hm7 (fun b o e h => HAW.out b o e h)
              have HA7 := Lib.hid hA7
              have HM7 := Lib.hid m7
              have HW7 := Lib.hid hW7
              have HT7 := Lib.hid h2
              clear hA7 hA6 hm7 hT7 m7 h2 HM6 hm6 hW6 hW7
              go_wp2_with fail
              go_at_call 10
              refine (putT_c HA7.out ⟨-1, chainR (KL l l.length) (-1) x, x⟩ (by simp) _).mono ?_
              rintro e w8 ⟨rfl, rfl⟩
              go_wp2_with fail
              go_loopw [11, 12] (fun s11 s12 ws => ∃ i : Nat, ∃ f : Bool, i ≤ l.length ∧ s12 = .int .i64 i ∧ s11 = .bool f ∧ Hid (f = !((KL l i).any fun y => conf y.l x)) ∧ Mod (fun _ => False) w8 ws) (fun s11 s12 _ => l.length - (intOf s12).toNat)
              case atStart => exact ⟨0, true, Nat.zero_le _, rfl, rfl, Lib.hid rfl, Mod.refl _ _⟩
              case round =>
                obtain ⟨i, f, hi, rfl, rfl, HF, hm9⟩ := hrel
                by_cases hlt : i < l.length
                · have hdj : decide ((i : Int) < (l.length : Int)) = true := decide_eq_true (by omega)
                  have HKA := Lib.hid (KL_any l i x)
                  cases f with
                  | false =>
                    go_wp2_with fail
                    go_roundw
                    case rel => exact ⟨i + 1, false, by omega, by go_num, rfl, Lib.hid (by
                      have h1 := HF.out
                      rw [HKA.out]
                      cases hc : (KL l i).any fun y => conf y.l x with
                      | true => rfl
                      | false => rw [hc] at h1; cases h1), hm9⟩
                    case measure => simp [intOf]; omega
                  | true =>
                    obtain ⟨y, hy⟩ : ∃ y, l[i]? = some y := ⟨_, List.getElem?_eq_getElem hlt⟩
                    obtain ⟨bl, o, C, V, fr, rfl, kl, _, _, hx2⟩ := ac_at (HL.out.mod0 (HM7.out.then0 hm9)) hy
                    have hm := List.mem_of_getElem? hy
                    have hyr : Hid (RolesAt w y.s.a y.s.l ∧ y.s.l.length ≤ 300 ∧ rolesAt l i = y.s.l) := Lib.hid ⟨(HOK.out y hm).1, by have := rolesN_at hm; have := HR300.out; omega, rolesAt_of hy⟩
                    clear hm hy
                    go_wp2_with fail
                    go_at_call 22
                    refine (conflict_c y.s.a a2 y.s.l x _ _ _ (SlAt.mod0 hyr.out.1 (HM7.out.then0 hm9)) (SlAt.mod0 HX.out (HM7.out.then0 hm9)) (by have := hyr.out.2.1; omega) (by omega)).mono ?_
                    rintro e wc ⟨rfl, hmc⟩
                    have HC : Hid (∀ v, conf y.s.l x = v → (!v) = !((KL l (i + 1)).any fun y => conf y.l x)) := Lib.hid (fun v hv => by
                      have h1 := HF.out
                      rw [HKA.out, hyr.out.2.2, hv]
                      cases hc : (KL l i).any fun y => conf y.l x with
                      | true => rw [hc] at h1; cases h1
                      | false => rfl)
                    have hm9 := hm9.then0 hmc
                    clear hmc
                    cases hcv : conf y.s.l x with
                    | true =>
                      have HCV := Lib.hid (HC.out _ hcv)
                      clear hcv
                      go_wp2_with fail
                      go_roundw
                      case rel => exact ⟨i + 1, false, by omega, by go_num, rfl, HCV, hm9⟩
                      case measure => simp [intOf]; omega
                    | false =>
                      have HCV := Lib.hid (HC.out _ hcv)
                      clear hcv
                      go_wp2_with fail
                      go_roundw
                      case rel => exact ⟨i + 1, true, by omega, by go_num, rfl, HCV, hm9⟩
                      case measure => simp [intOf]; omega
                · obtain rfl : i = l.length := by omega
                  have hdj : decide ((l.length : Int) < (l.length : Int)) = false := decide_eq_false (by omega)
                  clear hlt hi
                  have hA9 := HA7.out.mod0 hm9
                  have hW9 := HW7.out.mod0 hm9
                  obtain ⟨v8, wa, hap, hO, hma, _⟩ := SlOwn.append intT (c := was.length) (SlOwn.nil wr wr.heap.size) hW9 (by simp; omega) (by decide) (Nat.le_refl _) 36
                  rw [List.nil_append] at hO
                  have ma : Mod (fun _ => False) wr wa := hma.mono (fun _ _ e => by cases e)
                  obtain ⟨ar, cr, rfl, hq, har, _⟩ := hO.at intT
                  have HO := Lib.hid hO
                  have HA9 := Lib.hid (hA9.mod0 ma)
                  have HM9 := Lib.hid ((HM7.out.then0 hm9).then0 ma)
                  have HQ9 := Lib.hid hq
                  have hce := chain_new (l := l) (n := l.length) (by omega) x
                  rw [← HF.out] at hce
                  have hrs := ready_snoc (KL l l.length) ⟨-1, chainR (KL l l.length) (-1) x, x⟩
                  rw [HWAS.out] at hrs
                  have HRS : Hid (readyR (KL l l.length ++ [⟨-1, chainR (KL l l.length) (-1) x, x⟩]) = was ++ (if f then [-1] else [])) := Lib.hid (by
                    rw [hrs]
                    have h1 := HF.out
                    dsimp only
                    rw [h1]
                    cases (KL l l.length).any fun y => conf y.l x <;> rfl)
                  have HSZ : Hid (w.heap.size ≤ wr.heap.size ∧ ∀ i, TR i → i < wr.heap.size) := Lib.hid ⟨(HM7.out.then0 hm9).size, hA9.2⟩
                  have hwrwa := ma.size
                  clear hO hA9 hW9 hma hq har hm9 hrs
                  go_upto_region 27 with fail
                  refine region_seq 3 rfl ?_
                  simp only [List.range, List.range.loop]
                  (refine sq_val (v := ?v1) (by simp only [List.getElem?_toArray, List.getElem?_cons_succ, List.getElem?_cons_zero]; rfl) ?hw1 ?hy1 ?hn1; (case hw1 => rfl); (case hy1 => (go_simp; (try with_reducible rfl))); (try simp only [Act.put, List.setIfInBounds_toArray, List.set_cons_zero, List.set_cons_succ]))
                  (refine sq_append (by simp only [List.getElem?_toArray, List.getElem?_cons_succ, List.getElem?_cons_zero]; rfl) ?hw2 rfl ?hx2 ?hz2 hap ?hn2; (case hw2 => rfl); (case hx2 => (simp only [Act.eval, Array.getD_eq_getD_getElem?, List.getElem?_toArray, List.getElem?_cons_succ, List.getElem?_cons_zero, Option.getD_some]; (try rfl))); (case hz2 => (simp only [Act.eval, Array.getD_eq_getD_getElem?, List.getElem?_toArray, List.getElem?_cons_succ, List.getElem?_cons_zero, Option.getD_some]; (try rfl))); (try simp only [Act.put, List.setIfInBounds_toArray, List.set_cons_zero, List.set_cons_succ]))
                  (refine sq_val (v := ?v3) (by simp only [List.getElem?_toArray, List.getElem?_cons_succ, List.getElem?_cons_zero]; rfl) ?hw3 ?hy3 ?hn3; (case hw3 => rfl); (case hy3 => (go_simp; (try with_reducible rfl))); (try simp only [Act.put, List.setIfInBounds_toArray, List.set_cons_zero, List.set_cons_succ]))
                  refine sq_nil ?_
                  clear hap
                  cases f with
                  | false =>
                    go_wp2_with fail
                    go_at_call 11
                    refine (chainR_c HA9.out ⟨-1, chainR (KL l l.length) (-1) x, x⟩ (by simp)).mono ?_
                    rintro e wA ⟨rfl, rfl⟩
                    go_wp2_with fail
                    go_at_call 13
                    refine (readyE_c HA9.out was (by rw [HRS.out]; simp) _ rfl).mono ?_
                    rintro e wB ⟨ab, rfl, hqb, hmb⟩
                    go_wp2_with fail
                    go_at_call 12
                    refine (sameE_c _ _ _ rfl hqb (SlAt.mod0 HQ9.out hmb) (by omega)).mono ?_
                    rintro e wC ⟨rfl, hmc⟩
                    go_wp2_with fail
                    go_at_call 8
                    refine (lives_c _).mono ?_
                    rintro e wD ⟨rfl, hmd⟩
                    go_wp2_with fail
                    go_ret
                    exact ⟨rfl, ((HM9.out.then0 hmb).then0 hmc).then0 hmd⟩
                  | true =>
                    go_upto_region 29 with fail
                    have hbs := bsInt (-1) wa
                    have mal := (Mod.refl (fun _ => False) wa).alloc (.cells (ic (-1)) 3)
                    have hone := oneInt wa (-1)
                    obtain ⟨v9, wb, hap, hO, hma, _⟩ := SlOwn.append intT (q := [-1]) (c := 1) (HO.out.mod0 mal) hone (by simp only [List.length_singleton]; omega) (by decide) (by have := HO.out; have := ma.size; have := mal.size; omega) 36
                    have hap : (Builtin.append_ #[36, 36] 36 #[.slice ar was.length cr, .slice (some ⟨wa.heap.size, 0, none⟩) 1 1]).run Try.prog _ = _ := hap
                    have hol := HO.out.lt
                    have hA9 := (HA9.out.mod0 mal).mod hma (fun i hi e => by have h1 := HSZ.out.2 i hi; have h2 := (hol i e).1; omega)
                    have HM9 := Lib.hid ((HM9.out.then0 mal).then hma (fun z hz e => by have h1 := HSZ.out.1; have h2 := (hol z e).1; omega))
                    obtain ⟨ar2, cr2, rfl, hq2, _⟩ := hO.at intT
                    have HA9 := Lib.hid hA9
                    have HQ9 := Lib.hid hq2
                    have hwl2 : (was ++ [-1]).length ≤ 400 := by simp; omega
                    have HRS2 : Hid (readyR (KL l l.length ++ [⟨-1, chainR (KL l l.length) (-1) x, x⟩]) = was ++ [-1]) := Lib.hid (by rw [HRS.out]; simp)
                    clear hO hma hol mal hone hA9 hq2 HRS
                    generalize was ++ [-1] = want at *
                    generalize hn2 : want.length = n2 at *
                    refine region_seq 4 rfl ?_
                    simp only [List.range, List.range.loop]
                    (refine sq_val (v := ?v4) (by simp only [List.getElem?_toArray, List.getElem?_cons_succ, List.getElem?_cons_zero]; rfl) ?hw4 ?hy4 ?hn4; (case hw4 => rfl); (case hy4 => (go_simp; (try with_reducible rfl))); (try simp only [Act.put, List.setIfInBounds_toArray, List.set_cons_zero, List.set_cons_succ]))
                    (refine sq_build (by simp only [List.getElem?_toArray, List.getElem?_cons_succ, List.getElem?_cons_zero]; rfl) ?hw5 rfl ?hx5 hbs ?hn5; (case hw5 => rfl); (case hx5 => (simp only [List.map_toArray, List.map_cons, List.map_nil, Act.eval, Array.getD_eq_getD_getElem?, List.getElem?_toArray, List.getElem?_cons_succ, List.getElem?_cons_zero, Option.getD_some]; (try rfl))); (try simp only [Act.put, List.setIfInBounds_toArray, List.set_cons_zero, List.set_cons_succ]))
                    (refine sq_append (by simp only [List.getElem?_toArray, List.getElem?_cons_succ, List.getElem?_cons_zero]; rfl) ?hw6 rfl ?hx6 ?hz6 hap ?hn6; (case hw6 => rfl); (case hx6 => (simp only [Act.eval, Array.getD_eq_getD_getElem?, List.getElem?_toArray, List.getElem?_cons_succ, List.getElem?_cons_zero, Option.getD_some]; (try rfl))); (case hz6 => (simp only [Act.eval, Array.getD_eq_getD_getElem?, List.getElem?_toArray, List.getElem?_cons_succ, List.getElem?_cons_zero, Option.getD_some]; (try rfl))); (try simp only [Act.put, List.setIfInBounds_toArray, List.set_cons_zero, List.set_cons_succ]))
                    (refine sq_val (v := ?v7) (by simp only [List.getElem?_toArray, List.getElem?_cons_succ, List.getElem?_cons_zero]; rfl) ?hw7 ?hy7 ?hn7; (case hw7 => rfl); (case hy7 => (go_simp; (try with_reducible rfl))); (try simp only [Act.put, List.setIfInBounds_toArray, List.set_cons_zero, List.set_cons_succ]))
                    refine sq_nil ?_
                    clear hap hbs
                    go_wp2_with fail
                    go_at_call 11
                    refine (chainR_c HA9.out ⟨-1, chainR (KL l l.length) (-1) x, x⟩ (by simp)).mono ?_
                    rintro e wA ⟨rfl, rfl⟩
                    go_wp2_with fail
                    go_at_call 13
                    refine (readyE_c HA9.out want HRS2.out n2 hn2).mono ?_
                    rintro e wB ⟨ab, rfl, hqb, hmb⟩
                    go_wp2_with fail
                    go_at_call 12
                    refine (sameE_c n2 _ _ hn2 hqb (SlAt.mod0 HQ9.out hmb) (by omega)).mono ?_
                    rintro e wC ⟨rfl, hmc⟩
                    go_wp2_with fail
                    go_at_call 8
                    refine (lives_c _).mono ?_
                    rintro e wD ⟨rfl, hmd⟩
                    go_wp2_with fail
                    go_ret
                    exact ⟨rfl, ((HM9.out.then0 hmb).then0 hmc).then0 hmd⟩
theorem behindLaw_s (a : Option Addr) (l : List Ac) (c : Nat) (a2 : Option Addr) (x : List Role) (c2 : Nat) (w : World) (hl : SlAt acv 3 w a l) (ho : ∀ y ∈ l, AcOk w y) (hz : l.length * 40 ≤ reachBytes) (hb : ∀ y, a = some y → y.block < w.heap.size ∨ l = []) (hx : l.length ≤ maxLen)
    (hl2 : SlAt rcr 34 w a2 x) (ho2 : ∀ y ∈ x, True) (hz2 : x.length * 34 ≤ reachBytes) (hb2 : ∀ y, a2 = some y → y.block < w.heap.size ∨ x = []) (hx2 : x.length ≤ maxLen) :
    Calls Try.prog 7 #[.slice a l.length c, .slice a2 x.length c2] w fun e w' => e = .returned (.bool true) ∧ Mod (fun _ => False) w w' :=
  behindLaw_c a l c a2 x c2 w hl hb (by simp only [reachBytes] at hz; omega) ho hl2 hb2 (by simp only [reachBytes] at hz2; omega)
end Go.Proofs.Ytffcnnogkpdinaa
