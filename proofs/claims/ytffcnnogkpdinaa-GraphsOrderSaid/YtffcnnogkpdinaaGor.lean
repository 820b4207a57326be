/- Graphs: the law GraphsOrder. -/
import Derived.Test.YtffcnnogkpdinaaGow
import Derived.Test.YtffcnnogkpdinaaGcf
namespace Go.Proofs.Ytffcnnogkpdinaa
open Go.RowKit
open Go.ChangeMaps (setBlock)
set_option linter.unusedSimpArgs false
set_option linter.unusedVariables false
attribute [local go_sem ↓] wlKey wlRole ldKey ldRole stKey stRole
attribute [local go_sem] zKey_size zRole_size kc_ext rc_size rc_key rc_all rc_s rc_w rc_s' rc_w' rc_one one_int one_bool one_ptr one_slice one_map kc_one kc_one0 cell_blk frozen_blk Value.cells eqMap neMap
set_option maxRecDepth 20000 in
set_option maxHeartbeats 6400000 in
theorem orderLaw_c (a : Option Addr) (l : List Ac) (c : Nat) (a2 : Option Addr) (pk : List UInt8) (c2 : Nat) (w : World) (hl : SlAt acv 3 w a l) (hb : ∀ y, a = some y → y.block < w.heap.size ∨ l = []) (hlm : l.length ≤ 140737488355328) (hok : ∀ y ∈ l, AcOk w y)
    (hx : SlAt u8c 1 w a2 pk) (hxb : ∀ y, a2 = some y → y.block < w.heap.size ∨ pk = []) (hxm : pk.length ≤ 140737488355328) :
    Calls Try.prog 6 #[.slice a l.length c, .slice a2 pk.length c2] w fun e w' => e = .returned (.bool true) ∧ Mod (fun _ => False) w w' := by
  have HL := Lib.hid hl
  have HX := Lib.hid hx
  have HB := Lib.hid hb
  have HXB := Lib.hid hxb
  have HOK := Lib.hid hok
  clear hl hx hb hxb hok
  go_enter Try.func6, Try.ntmps6
  go_wp2_with fail
  go_at_call 14
  refine (great_c a l c _ HL.out (fun y hy => by have h1 := (HOK.out y hy).2.2.1; simp only [reachBytes] at h1; omega) hlm).mono ?_
  rintro e w1 ⟨gr, rfl, m1, HG⟩
  cases gr with
  | true =>
    go_wp2_with fail
    go_at_call 8
    refine (lives_c _).mono ?_
    rintro e w4 ⟨rfl, m4⟩
    go_wp2_with fail
    go_ret
    exact ⟨rfl, m1.then0 m4⟩
  | false =>
    by_cases h60 : 60 < l.length
    · have hd : decide ((60 : Int) < (l.length : Int)) = true := decide_eq_true (by omega)
      have hd2 : decide (60 < l.length) = true := decide_eq_true h60
      clear h60
      go_wp2_with fail
      go_at_call 8
      refine (lives_c _).mono ?_
      rintro e w4 ⟨rfl, m4⟩
      go_wp2_with fail
      go_ret
      exact ⟨rfl, m1.then0 m4⟩
    · have hd : decide ((60 : Int) < (l.length : Int)) = false := decide_eq_false (by omega)
      have hd2 : decide (60 < l.length) = false := decide_eq_false h60
      by_cases h100 : 100 < pk.length
      · have hd3 : decide ((100 : Int) < (pk.length : Int)) = true := decide_eq_true (by omega)
        have hd4 : decide (100 < pk.length) = true := decide_eq_true h100
        clear h60 h100
        go_wp2_with fail
        go_at_call 8
        refine (lives_c _).mono ?_
        rintro e w4 ⟨rfl, m4⟩
        go_wp2_with fail
        go_ret
        exact ⟨rfl, m1.then0 m4⟩
      · have hd3 : decide ((100 : Int) < (pk.length : Int)) = false := decide_eq_false (by omega)
        have hd4 : decide (100 < pk.length) = false := decide_eq_false h100
        have hp100 : pk.length ≤ 100 := by omega
        have hl60 : l.length ≤ 60 := by omega
        have h300 := HG.out rfl
        have HR300 : Hid (rolesN l ≤ 300) := Lib.hid (by omega)
        clear h60 h100 HG hxm hlm h300
        go_wp2_with fail
        go_at_call 9
        refine (newR_c _).mono ?_
        rintro e w3 ⟨g, rfl, U, hA, m3, hT⟩
        have hU0 : ∀ i, U i → w.heap.size ≤ i := fun i hi => by have := hT i hi; have := m1.size; omega
        have mm := m1.then0 m3
        have HA := Lib.hid (And.intro hA hU0)
        clear hA hU0 hT m1 m3 hd hd2 hd3 hd4
        go_wp2_with fail
        go_loopw [6] (fun s6 ws => ∃ (i : Nat) (T : Nat → Prop), i ≤ l.length ∧ s6 = .int .i64 i ∧ Hid (RAt g i (KL l i) T ws ∧ (∀ j, T j → w.heap.size ≤ j)) ∧ Hid (Mod (fun _ => False) w ws)) (fun s6 _ => l.length - (intOf s6).toNat)
        case atStart => exact ⟨0, U, by omega, rfl, HA, Lib.hid mm⟩
        case round =>
          obtain ⟨i, T, hi, rfl, HR, HMm⟩ := hrel
          by_cases hlt : i < l.length
          · obtain ⟨y, hy⟩ : ∃ y, l[i]? = some y := ⟨_, List.getElem?_eq_getElem hlt⟩
            obtain ⟨bl, o, C, V, fr, rfl, kl, _, _, hx2⟩ := ac_at (HL.out.mod0 HMm.out) hy
            have hm := List.mem_of_getElem? hy
            have hO := HOK.out y hm
            have hn8 := rolesN_at hm
            have hdi : decide ((i : Int) < (l.length : Int)) = true := decide_eq_true (by omega)
            have hro := rolesAt_of hy
            have HY : Hid (RolesAt w y.s.a y.s.l ∧ (y.s.l ≠ [] → ∀ b o, y.s.a = some ⟨b, o, none⟩ → b < w.heap.size) ∧ y.s.l.length ≤ 300 ∧ rolesAt l i = y.s.l) := Lib.hid ⟨hO.1, fun hne b o e => by
              rcases hO.2.2.2.1 _ e with h | h
              · exact h
              · exact absurd h hne, by have := HR300.out; omega, hro⟩
            clear hO hro hy hm hn8
            have hq9 : i < 900 := by omega
            go_wp2_with fail
            go_at_call 10
            refine (putA_c HR.out.1 hq9 (idn i) (i : Int) (idn_toInt (by omega)) y.s.a y.s.l _ y.s.c rfl (SlAt.mod0 HY.out.1 HMm.out) (by have := HY.out.2.2.1; omega) (fun hne b o e h => by have h1 := HY.out.2.1 hne b o e; have h2 := HR.out.2 _ h; omega) (KL_new (by omega)) (KL l (i + 1)) (by rw [KL_succ, HY.out.2.2.2])).mono ?_
            rintro e w4 ⟨rfl, TR, hA4, hm4, hT4⟩
            have h2 : ∀ j, TR j → w.heap.size ≤ j := fun j hj => by
              rcases hT4 j hj with h | h
              · exact HR.out.2 j h
              · have := HMm.out.size; omega
            have m4 : Mod (fun _ => False) w w4 := HMm.out.then hm4 (fun j hj h => by have := HR.out.2 j h; omega)
            have HR' := Lib.hid (And.intro hA4 h2)
            have HM' := Lib.hid m4
            clear hA4 hm4 hT4 m4 h2
            go_wp2_with fail
            go_roundw
            case rel => exact ⟨i + 1, TR, by omega, by go_num, HR', HM'⟩
            case measure => simp [intOf]; omega
          · have hE : i = l.length := by omega
            subst hE
            have hdi : decide ((l.length : Int) < (l.length : Int)) = false := decide_eq_false (by omega)
            clear hlt hi
            have HT := Lib.hid (And.intro HR.out.2 HR.out.1.2)
            have HO0 := Lib.hid (OInv.start l (n := l.length) (by omega))
            have HA0 := Lib.hid HR.out.1
            clear HR HA mm
            go_wp2_with fail
            generalize hws : wr.heap.size = base at *
            have HWS := Lib.hid (Nat.le_of_eq hws.symm)
            have HBW : Hid (w.heap.size ≤ base) := Lib.hid (by have := HMm.out.size; omega)
            go_loopw [7] (fun s7 ws => ∃ (out : List Nat) (K : List Rn), Hid (OInv l l.length out K) ∧ Hid (RAt g l.length K T ws) ∧ SlOwn ic 1 3 ws base s7 (out.map idn) ∧ base ≤ ws.heap.size ∧ Hid (Mod (fun _ => False) w ws)) (fun s7 _ => l.length - slLen s7)
            case atStart => exact ⟨[], _, HO0, HA0, SlOwn.nil _ _, HWS.out, HMm⟩
            case round =>
              clear HO0 HA0 HMm HWS hws
              obtain ⟨out, K, HO, HA, hO, hbs, HM⟩ := hrel
              obtain ⟨ao, co, rfl, hq, hao, _⟩ := hO.at intT
              have hol := hO.lt
              have HOO := Lib.hid (And.intro hO (And.intro hao hol))
              have hlen := HO.out.len
              clear hO hao hol hq
              simp only [List.length_map] at *
              by_cases hK : K.length = 0
              · have hK := List.eq_nil_of_length_eq_zero hK
                subst hK
                rw [List.length_nil, Nat.zero_add] at hlen
                have hne2 : ((out.length : Int) != (l.length : Int)) = false := by rw [hlen]; simp
                have hq := Lib.hid (HOO.out.1.at intT)
                have HLEN := Lib.hid hlen
                have ho60 : out.length ≤ 60 := by omega
                clear hlen
                go_wp2_with fail
                go_at_call 19
                refine (lenE_c HA.out 0 rfl).mono ?_
                rintro e w5 ⟨rfl, rfl⟩
                obtain ⟨a', c', e', hqs, _⟩ := hq.out
                injection e' with e1 e2 e3
                subst e1
                clear e2 e3
                have HQS := Lib.hid hqs
                clear hqs hbs HT HOO HA
                go_wp2_with fail
                go_loopw [12] (fun s12 ws => ∃ i : Nat, i ≤ out.length ∧ s12 = .int .i64 i ∧ Mod (fun _ => False) w5 ws) (fun s12 _ => out.length - (intOf s12).toNat)
                case atStart => exact ⟨0, Nat.zero_le _, rfl, Mod.refl _ _⟩
                case round =>
                  obtain ⟨i, hi, rfl, hm7⟩ := hrel
                  by_cases hlt : i < out.length
                  · have hdi : decide ((i : Int) < (out.length : Int)) = true := decide_eq_true (by omega)
                    go_wp2_with fail
                    go_loopw [13] (fun s13 ws => ∃ k : Nat, k ≤ i ∧ s13 = .int .i64 k ∧ Mod (fun _ => False) w5 ws) (fun s13 _ => i - (intOf s13).toNat)
                    case atStart => exact ⟨0, Nat.zero_le _, rfl, hm7⟩
                    case round =>
                      clear hm7
                      obtain ⟨k, hk, rfl, hm7⟩ := hrel
                      by_cases hki : k < i
                      · have hdk : decide ((k : Int) < (i : Int)) = true := decide_eq_true (by omega)
                        obtain ⟨ja, hja⟩ : ∃ x, out[i]? = some x := ⟨_, List.getElem?_eq_getElem hlt⟩
                        obtain ⟨jb, hjb⟩ : ∃ x, out[k]? = some x := ⟨_, List.getElem?_eq_getElem (by omega)⟩
                        have hkm : k < out.length := by omega
                        obtain ⟨q1, q2, q3, q4⟩ := HO.out.done hki hja hjb
                        have hx : (out.map idn)[i]? = some (idn ja) := by rw [List.getElem?_map, hja]; rfl
                        have hy : (out.map idn)[k]? = some (idn jb) := by rw [List.getElem?_map, hjb]; rfl
                        obtain ⟨xa, hxa⟩ : ∃ x, l[ja]? = some x := ⟨_, List.getElem?_eq_getElem q1⟩
                        obtain ⟨xb, hxb⟩ : ∃ x, l[jb]? = some x := ⟨_, List.getElem?_eq_getElem q2⟩
                        have hma := List.mem_of_getElem? hxa
                        have hmb := List.mem_of_getElem? hxb
                        have HC : Hid (RolesAt w xa.s.a xa.s.l ∧ xa.s.l.length ≤ 300 ∧ RolesAt w xb.s.a xb.s.l ∧ xb.s.l.length ≤ 300 ∧ (ja < jb → conf xa.s.l xb.s.l = false)) := Lib.hid ⟨(HOK.out _ hma).1, by have := rolesN_at hma; have := HR300.out; omega, (HOK.out _ hmb).1, by have := rolesN_at hmb; have := HR300.out; omega, by rw [← rolesAt_of hxa, ← rolesAt_of hxb]; exact q4⟩
                        obtain ⟨bw, ow, Cw, Vw, fw, rfl, kw, v1, v2⟩ := int_at2 (HQS.out.mod0 hm7) hx hy
                        rw [idn_toInt (by omega)] at v1 v2
                        obtain ⟨bl, o, C, V, fr, rfl, kl, hc1, hc2⟩ := ac_at2 (HL.out.mod0 (HM.out.then0 hm7)) hxa hxb
                        have g1 : decide ((ja : Int) < 0) = false := decide_eq_false (by omega)
                        have g3 : decide ((l.length : Int) ≤ (ja : Int)) = false := decide_eq_false (by omega)
                        have g3' : decide (l.length ≤ ja) = false := decide_eq_false (by omega)
                        have g5 : ((ja : Int) == (jb : Int)) = false := by
                          rw [beq_eq_false_iff_ne]
                          omega
                        clear hx hy hja hjb hxa hxb hma hmb q3 q4
                        by_cases hab : ja < jb
                        · have g6 : decide ((ja : Int) < (jb : Int)) = true := decide_eq_true (by omega)
                          have g6' : decide (ja < jb) = true := decide_eq_true hab
                          have HCC := Lib.hid (HC.out.2.2.2.2 hab)
                          clear hab
                          go_upto_region 36 with fail
                          have Lkw := lt_size kw
                          have Lkl := lt_size kl
                          refine wp_gpass (T0 := fun _ => False) (K := fun _ _ => True) (κ := fun i => [0, 0, 0, 0, 0, 0, 0, 0, 0, 0, 0, 0, 0, 0, 0, 0, 0, 0, 0, 0, 0, 0, 0, 0, 0, 0, 0, 0, 0, 0, 0, 0, 0, 0, 0, 0, 0, 0, 0, 0, 0, 0, 0, 0, 0, 0, 0, 0, 0, 0, 0, 0, 6, 0, 0].getD i 0) (υ := fun i => [[], [], [], [], [], [], [], [], [], [], [], [], [], [], [], [], [], [], [], [], [], [], [], [], [], [], [], [], [], [], [], [], [], [], [], [], [], [], [], [], [], [], [], [], [], [], [], [], [], [], [], [], [], [], []].getD i []) [0, 1, 2, 3, 4, 5, 6, 7, 8, 9, 10, 11, 12, 13, 14, 15, 16, 17, 18, 19, 20, 21, 22, 23, 24, 25, 26, 27, 28, 29, 30, 31, 32, 33, 34, 35, 36, 37, 38, 39, 40, 41, 42, 43, 44, 45, 46, 47, 48, 49, 50, 51, 52, 53, 54] (by kernel_rfl) (by kernel_rfl) (Good.true).cl (trivial) (fun _ h => h.elim) ?_
                          have gK := Good.true
                          (refine TG.v0 (v := ?v1) (by simp only [List.getElem?_toArray, List.getElem?_cons_succ, List.getElem?_cons_zero]; rfl) rfl ?hw1 (fun w1 => ?hy1) ?hn1; (case hw1 => rfl); (case hy1 => (go_simp; (try with_reducible rfl))); (try simp only [Act.put, List.setIfInBounds_toArray, List.set_cons_zero, List.set_cons_succ]))
                          (refine TG.v0 (v := ?v2) (by simp only [List.getElem?_toArray, List.getElem?_cons_succ, List.getElem?_cons_zero]; rfl) rfl ?hw2 (fun w1 => ?hy2) ?hn2; (case hw2 => rfl); (case hy2 => (go_simp; (try with_reducible rfl))); (try simp only [Act.put, List.setIfInBounds_toArray, List.set_cons_zero, List.set_cons_succ]))
                          (refine TG.v0 (v := ?v3) (by simp only [List.getElem?_toArray, List.getElem?_cons_succ, List.getElem?_cons_zero]; rfl) rfl ?hw3 (fun w1 => ?hy3) ?hn3; (case hw3 => rfl); (case hy3 => (go_simp; (try with_reducible rfl))); (try simp only [Act.put, List.setIfInBounds_toArray, List.set_cons_zero, List.set_cons_succ]))
                          (refine TG.load (v := ?v4) (p := ?p4) (by simp only [List.getElem?_toArray, List.getElem?_cons_succ, List.getElem?_cons_zero]; rfl) rfl ?hw4 rfl ?hx4 (fun wq hSq => ?hy4) ?hn4; (case hw4 => rfl); (case hx4 => (simp only [Act.eval, Array.getD_eq_getD_getElem?, List.getElem?_toArray, List.getElem?_cons_succ, List.getElem?_cons_zero, Option.getD_some]; (try rfl))); (case hy4 => (have kwq := hSq.at kw (by intro hT; first | exact hT | exact absurd hT (by assumption) | omega | (simp only at hT; omega)); have klq := hSq.at kl (by intro hT; first | exact hT | exact absurd hT (by assumption) | omega | (simp only at hT; omega)); go_simp; (try with_reducible rfl))); (try simp only [Act.put, List.setIfInBounds_toArray, List.set_cons_zero, List.set_cons_succ]))
                          (refine TG.v0 (v := ?v5) (by simp only [List.getElem?_toArray, List.getElem?_cons_succ, List.getElem?_cons_zero]; rfl) rfl ?hw5 (fun w1 => ?hy5) ?hn5; (case hw5 => rfl); (case hy5 => (go_simp; (try with_reducible rfl))); (try simp only [Act.put, List.setIfInBounds_toArray, List.set_cons_zero, List.set_cons_succ]))
                          (refine TG.v0 (v := ?v6) (by simp only [List.getElem?_toArray, List.getElem?_cons_succ, List.getElem?_cons_zero]; rfl) rfl ?hw6 (fun w1 => ?hy6) ?hn6; (case hw6 => rfl); (case hy6 => (go_simp; (try with_reducible rfl))); (try simp only [Act.put, List.setIfInBounds_toArray, List.set_cons_zero, List.set_cons_succ]))
                          (refine TG.v0 (v := ?v7) (by simp only [List.getElem?_toArray, List.getElem?_cons_succ, List.getElem?_cons_zero]; rfl) rfl ?hw7 (fun w1 => ?hy7) ?hn7; (case hw7 => rfl); (case hy7 => (go_simp; (try with_reducible rfl))); (try simp only [Act.put, List.setIfInBounds_toArray, List.set_cons_zero, List.set_cons_succ]))
                          (refine TG.v0 (v := ?v8) (by simp only [List.getElem?_toArray, List.getElem?_cons_succ, List.getElem?_cons_zero]; rfl) rfl ?hw8 (fun w1 => ?hy8) ?hn8; (case hw8 => rfl); (case hy8 => (go_simp; (try with_reducible rfl))); (try simp only [Act.put, List.setIfInBounds_toArray, List.set_cons_zero, List.set_cons_succ]))
                          (refine TG.v0 (v := ?v9) (by simp only [List.getElem?_toArray, List.getElem?_cons_succ, List.getElem?_cons_zero]; rfl) rfl ?hw9 (fun w1 => ?hy9) ?hn9; (case hw9 => rfl); (case hy9 => (go_simp; (try with_reducible rfl))); (try simp only [Act.put, List.setIfInBounds_toArray, List.set_cons_zero, List.set_cons_succ]))
                          (refine TG.load (v := ?v10) (p := ?p10) (by simp only [List.getElem?_toArray, List.getElem?_cons_succ, List.getElem?_cons_zero]; rfl) rfl ?hw10 rfl ?hx10 (fun wq hSq => ?hy10) ?hn10; (case hw10 => rfl); (case hx10 => (simp only [Act.eval, Array.getD_eq_getD_getElem?, List.getElem?_toArray, List.getElem?_cons_succ, List.getElem?_cons_zero, Option.getD_some]; (try rfl))); (case hy10 => (have kwq := hSq.at kw (by intro hT; first | exact hT | exact absurd hT (by assumption) | omega | (simp only at hT; omega)); have klq := hSq.at kl (by intro hT; first | exact hT | exact absurd hT (by assumption) | omega | (simp only at hT; omega)); go_simp; (try with_reducible rfl))); (try simp only [Act.put, List.setIfInBounds_toArray, List.set_cons_zero, List.set_cons_succ]))
                          (refine TG.v0 (v := ?v11) (by simp only [List.getElem?_toArray, List.getElem?_cons_succ, List.getElem?_cons_zero]; rfl) rfl ?hw11 (fun w1 => ?hy11) ?hn11; (case hw11 => rfl); (case hy11 => (go_simp; (try with_reducible rfl))); (try simp only [Act.put, List.setIfInBounds_toArray, List.set_cons_zero, List.set_cons_succ]))
                          (refine TG.v0 (v := ?v12) (by simp only [List.getElem?_toArray, List.getElem?_cons_succ, List.getElem?_cons_zero]; rfl) rfl ?hw12 (fun w1 => ?hy12) ?hn12; (case hw12 => rfl); (case hy12 => (go_simp; (try with_reducible rfl))); (try simp only [Act.put, List.setIfInBounds_toArray, List.set_cons_zero, List.set_cons_succ]))
                          (refine TG.v0 (v := ?v13) (by simp only [List.getElem?_toArray, List.getElem?_cons_succ, List.getElem?_cons_zero]; rfl) rfl ?hw13 (fun w1 => ?hy13) ?hn13; (case hw13 => rfl); (case hy13 => (go_simp; (try with_reducible rfl))); (try simp only [Act.put, List.setIfInBounds_toArray, List.set_cons_zero, List.set_cons_succ]))
                          (refine TG.v0 (v := ?v14) (by simp only [List.getElem?_toArray, List.getElem?_cons_succ, List.getElem?_cons_zero]; rfl) rfl ?hw14 (fun w1 => ?hy14) ?hn14; (case hw14 => rfl); (case hy14 => (go_simp; (try with_reducible rfl))); (try simp only [Act.put, List.setIfInBounds_toArray, List.set_cons_zero, List.set_cons_succ]))
                          (refine TG.v0 (v := ?v15) (by simp only [List.getElem?_toArray, List.getElem?_cons_succ, List.getElem?_cons_zero]; rfl) rfl ?hw15 (fun w1 => ?hy15) ?hn15; (case hw15 => rfl); (case hy15 => (go_simp; (try with_reducible rfl))); (try simp only [Act.put, List.setIfInBounds_toArray, List.set_cons_zero, List.set_cons_succ]))
                          (refine TG.v0 (v := ?v16) (by simp only [List.getElem?_toArray, List.getElem?_cons_succ, List.getElem?_cons_zero]; rfl) rfl ?hw16 (fun w1 => ?hy16) ?hn16; (case hw16 => rfl); (case hy16 => (go_simp; (try with_reducible rfl))); (try simp only [Act.put, List.setIfInBounds_toArray, List.set_cons_zero, List.set_cons_succ]))
                          (refine TG.v0 (v := ?v17) (by simp only [List.getElem?_toArray, List.getElem?_cons_succ, List.getElem?_cons_zero]; rfl) rfl ?hw17 (fun w1 => ?hy17) ?hn17; (case hw17 => rfl); (case hy17 => (go_simp; (try with_reducible rfl))); (try simp only [Act.put, List.setIfInBounds_toArray, List.set_cons_zero, List.set_cons_succ]))
                          (refine TG.v0 (v := ?v18) (by simp only [List.getElem?_toArray, List.getElem?_cons_succ, List.getElem?_cons_zero]; rfl) rfl ?hw18 (fun w1 => ?hy18) ?hn18; (case hw18 => rfl); (case hy18 => (go_simp; (try with_reducible rfl))); (try simp only [Act.put, List.setIfInBounds_toArray, List.set_cons_zero, List.set_cons_succ]))
                          (refine TG.load (v := ?v19) (p := ?p19) (by simp only [List.getElem?_toArray, List.getElem?_cons_succ, List.getElem?_cons_zero]; rfl) rfl ?hw19 rfl ?hx19 (fun wq hSq => ?hy19) ?hn19; (case hw19 => rfl); (case hx19 => (simp only [Act.eval, Array.getD_eq_getD_getElem?, List.getElem?_toArray, List.getElem?_cons_succ, List.getElem?_cons_zero, Option.getD_some]; (try rfl))); (case hy19 => (have kwq := hSq.at kw (by intro hT; first | exact hT | exact absurd hT (by assumption) | omega | (simp only at hT; omega)); have klq := hSq.at kl (by intro hT; first | exact hT | exact absurd hT (by assumption) | omega | (simp only at hT; omega)); go_simp; (try with_reducible rfl))); (try simp only [Act.put, List.setIfInBounds_toArray, List.set_cons_zero, List.set_cons_succ]))
                          (refine TG.v0 (v := ?v20) (by simp only [List.getElem?_toArray, List.getElem?_cons_succ, List.getElem?_cons_zero]; rfl) rfl ?hw20 (fun w1 => ?hy20) ?hn20; (case hw20 => rfl); (case hy20 => (go_simp; (try with_reducible rfl))); (try simp only [Act.put, List.setIfInBounds_toArray, List.set_cons_zero, List.set_cons_succ]))
                          (refine TG.v0 (v := ?v21) (by simp only [List.getElem?_toArray, List.getElem?_cons_succ, List.getElem?_cons_zero]; rfl) rfl ?hw21 (fun w1 => ?hy21) ?hn21; (case hw21 => rfl); (case hy21 => (go_simp; (try with_reducible rfl))); (try simp only [Act.put, List.setIfInBounds_toArray, List.set_cons_zero, List.set_cons_succ]))
                          (refine TG.v0 (v := ?v22) (by simp only [List.getElem?_toArray, List.getElem?_cons_succ, List.getElem?_cons_zero]; rfl) rfl ?hw22 (fun w1 => ?hy22) ?hn22; (case hw22 => rfl); (case hy22 => (go_simp; (try with_reducible rfl))); (try simp only [Act.put, List.setIfInBounds_toArray, List.set_cons_zero, List.set_cons_succ]))
                          (refine TG.load (v := ?v23) (p := ?p23) (by simp only [List.getElem?_toArray, List.getElem?_cons_succ, List.getElem?_cons_zero]; rfl) rfl ?hw23 rfl ?hx23 (fun wq hSq => ?hy23) ?hn23; (case hw23 => rfl); (case hx23 => (simp only [Act.eval, Array.getD_eq_getD_getElem?, List.getElem?_toArray, List.getElem?_cons_succ, List.getElem?_cons_zero, Option.getD_some]; (try rfl))); (case hy23 => (have kwq := hSq.at kw (by intro hT; first | exact hT | exact absurd hT (by assumption) | omega | (simp only at hT; omega)); have klq := hSq.at kl (by intro hT; first | exact hT | exact absurd hT (by assumption) | omega | (simp only at hT; omega)); go_simp; (try with_reducible rfl))); (try simp only [Act.put, List.setIfInBounds_toArray, List.set_cons_zero, List.set_cons_succ]))
                          (refine TG.v0 (v := ?v24) (by simp only [List.getElem?_toArray, List.getElem?_cons_succ, List.getElem?_cons_zero]; rfl) rfl ?hw24 (fun w1 => ?hy24) ?hn24; (case hw24 => rfl); (case hy24 => (go_simp; (try with_reducible rfl))); (try simp only [Act.put, List.setIfInBounds_toArray, List.set_cons_zero, List.set_cons_succ]))
                          (refine TG.v0 (v := ?v25) (by simp only [List.getElem?_toArray, List.getElem?_cons_succ, List.getElem?_cons_zero]; rfl) rfl ?hw25 (fun w1 => ?hy25) ?hn25; (case hw25 => rfl); (case hy25 => (go_simp; (try with_reducible rfl))); (try simp only [Act.put, List.setIfInBounds_toArray, List.set_cons_zero, List.set_cons_succ]))
                          (refine TG.v0 (v := ?v26) (by simp only [List.getElem?_toArray, List.getElem?_cons_succ, List.getElem?_cons_zero]; rfl) rfl ?hw26 (fun w1 => ?hy26) ?hn26; (case hw26 => rfl); (case hy26 => (go_simp; (try with_reducible rfl))); (try simp only [Act.put, List.setIfInBounds_toArray, List.set_cons_zero, List.set_cons_succ]))
                          (refine TG.v0 (v := ?v27) (by simp only [List.getElem?_toArray, List.getElem?_cons_succ, List.getElem?_cons_zero]; rfl) rfl ?hw27 (fun w1 => ?hy27) ?hn27; (case hw27 => rfl); (case hy27 => (go_simp; (try with_reducible rfl))); (try simp only [Act.put, List.setIfInBounds_toArray, List.set_cons_zero, List.set_cons_succ]))
                          (refine TG.v0 (v := ?v28) (by simp only [List.getElem?_toArray, List.getElem?_cons_succ, List.getElem?_cons_zero]; rfl) rfl ?hw28 (fun w1 => ?hy28) ?hn28; (case hw28 => rfl); (case hy28 => (go_simp; (try with_reducible rfl))); (try simp only [Act.put, List.setIfInBounds_toArray, List.set_cons_zero, List.set_cons_succ]))
                          (refine TG.v0 (v := ?v29) (by simp only [List.getElem?_toArray, List.getElem?_cons_succ, List.getElem?_cons_zero]; rfl) rfl ?hw29 (fun w1 => ?hy29) ?hn29; (case hw29 => rfl); (case hy29 => (go_simp; (try with_reducible rfl))); (try simp only [Act.put, List.setIfInBounds_toArray, List.set_cons_zero, List.set_cons_succ]))
                          (refine TG.load (v := ?v30) (p := ?p30) (by simp only [List.getElem?_toArray, List.getElem?_cons_succ, List.getElem?_cons_zero]; rfl) rfl ?hw30 rfl ?hx30 (fun wq hSq => ?hy30) ?hn30; (case hw30 => rfl); (case hx30 => (simp only [Act.eval, Array.getD_eq_getD_getElem?, List.getElem?_toArray, List.getElem?_cons_succ, List.getElem?_cons_zero, Option.getD_some]; (try rfl))); (case hy30 => (have kwq := hSq.at kw (by intro hT; first | exact hT | exact absurd hT (by assumption) | omega | (simp only at hT; omega)); have klq := hSq.at kl (by intro hT; first | exact hT | exact absurd hT (by assumption) | omega | (simp only at hT; omega)); go_simp; (try with_reducible rfl))); (try simp only [Act.put, List.setIfInBounds_toArray, List.set_cons_zero, List.set_cons_succ]))
                          (refine TG.v0 (v := ?v31) (by simp only [List.getElem?_toArray, List.getElem?_cons_succ, List.getElem?_cons_zero]; rfl) rfl ?hw31 (fun w1 => ?hy31) ?hn31; (case hw31 => rfl); (case hy31 => (go_simp; (try with_reducible rfl))); (try simp only [Act.put, List.setIfInBounds_toArray, List.set_cons_zero, List.set_cons_succ]))
                          (refine TG.v0 (v := ?v32) (by simp only [List.getElem?_toArray, List.getElem?_cons_succ, List.getElem?_cons_zero]; rfl) rfl ?hw32 (fun w1 => ?hy32) ?hn32; (case hw32 => rfl); (case hy32 => (go_simp; (try with_reducible rfl))); (try simp only [Act.put, List.setIfInBounds_toArray, List.set_cons_zero, List.set_cons_succ]))
                          (refine TG.v0 (v := ?v33) (by simp only [List.getElem?_toArray, List.getElem?_cons_succ, List.getElem?_cons_zero]; rfl) rfl ?hw33 (fun w1 => ?hy33) ?hn33; (case hw33 => rfl); (case hy33 => (go_simp; (try with_reducible rfl))); (try simp only [Act.put, List.setIfInBounds_toArray, List.set_cons_zero, List.set_cons_succ]))
                          (refine TG.load (v := ?v34) (p := ?p34) (by simp only [List.getElem?_toArray, List.getElem?_cons_succ, List.getElem?_cons_zero]; rfl) rfl ?hw34 rfl ?hx34 (fun wq hSq => ?hy34) ?hn34; (case hw34 => rfl); (case hx34 => (simp only [Act.eval, Array.getD_eq_getD_getElem?, List.getElem?_toArray, List.getElem?_cons_succ, List.getElem?_cons_zero, Option.getD_some]; (try rfl))); (case hy34 => (have kwq := hSq.at kw (by intro hT; first | exact hT | exact absurd hT (by assumption) | omega | (simp only at hT; omega)); have klq := hSq.at kl (by intro hT; first | exact hT | exact absurd hT (by assumption) | omega | (simp only at hT; omega)); go_simp; (try with_reducible rfl))); (try simp only [Act.put, List.setIfInBounds_toArray, List.set_cons_zero, List.set_cons_succ]))
                          (refine TG.v0 (v := ?v35) (by simp only [List.getElem?_toArray, List.getElem?_cons_succ, List.getElem?_cons_zero]; rfl) rfl ?hw35 (fun w1 => ?hy35) ?hn35; (case hw35 => rfl); (case hy35 => (go_simp; (try with_reducible rfl))); (try simp only [Act.put, List.setIfInBounds_toArray, List.set_cons_zero, List.set_cons_succ]))
                          (refine TG.v0 (v := ?v36) (by simp only [List.getElem?_toArray, List.getElem?_cons_succ, List.getElem?_cons_zero]; rfl) rfl ?hw36 (fun w1 => ?hy36) ?hn36; (case hw36 => rfl); (case hy36 => (go_simp; (try with_reducible rfl))); (try simp only [Act.put, List.setIfInBounds_toArray, List.set_cons_zero, List.set_cons_succ]))
                          (refine TG.v0 (v := ?v37) (by simp only [List.getElem?_toArray, List.getElem?_cons_succ, List.getElem?_cons_zero]; rfl) rfl ?hw37 (fun w1 => ?hy37) ?hn37; (case hw37 => rfl); (case hy37 => (go_simp; (try with_reducible rfl))); (try simp only [Act.put, List.setIfInBounds_toArray, List.set_cons_zero, List.set_cons_succ]))
                          (refine TG.v0 (v := ?v38) (by simp only [List.getElem?_toArray, List.getElem?_cons_succ, List.getElem?_cons_zero]; rfl) rfl ?hw38 (fun w1 => ?hy38) ?hn38; (case hw38 => rfl); (case hy38 => (go_simp; (try with_reducible rfl))); (try simp only [Act.put, List.setIfInBounds_toArray, List.set_cons_zero, List.set_cons_succ]))
                          (refine TG.v0 (v := ?v39) (by simp only [List.getElem?_toArray, List.getElem?_cons_succ, List.getElem?_cons_zero]; rfl) rfl ?hw39 (fun w1 => ?hy39) ?hn39; (case hw39 => rfl); (case hy39 => (go_simp; (try with_reducible rfl))); (try simp only [Act.put, List.setIfInBounds_toArray, List.set_cons_zero, List.set_cons_succ]))
                          (refine TG.v0 (v := ?v40) (by simp only [List.getElem?_toArray, List.getElem?_cons_succ, List.getElem?_cons_zero]; rfl) rfl ?hw40 (fun w1 => ?hy40) ?hn40; (case hw40 => rfl); (case hy40 => (go_simp; (try with_reducible rfl))); (try simp only [Act.put, List.setIfInBounds_toArray, List.set_cons_zero, List.set_cons_succ]))
                          (refine TG.load (v := ?v41) (p := ?p41) (by simp only [List.getElem?_toArray, List.getElem?_cons_succ, List.getElem?_cons_zero]; rfl) rfl ?hw41 rfl ?hx41 (fun wq hSq => ?hy41) ?hn41; (case hw41 => rfl); (case hx41 => (simp only [Act.eval, Array.getD_eq_getD_getElem?, List.getElem?_toArray, List.getElem?_cons_succ, List.getElem?_cons_zero, Option.getD_some]; (try rfl))); (case hy41 => (have kwq := hSq.at kw (by intro hT; first | exact hT | exact absurd hT (by assumption) | omega | (simp only at hT; omega)); have klq := hSq.at kl (by intro hT; first | exact hT | exact absurd hT (by assumption) | omega | (simp only at hT; omega)); go_simp; (try with_reducible rfl))); (try simp only [Act.put, List.setIfInBounds_toArray, List.set_cons_zero, List.set_cons_succ]))
                          (refine TG.v0 (v := ?v42) (by simp only [List.getElem?_toArray, List.getElem?_cons_succ, List.getElem?_cons_zero]; rfl) rfl ?hw42 (fun w1 => ?hy42) ?hn42; (case hw42 => rfl); (case hy42 => (go_simp; (try with_reducible rfl))); (try simp only [Act.put, List.setIfInBounds_toArray, List.set_cons_zero, List.set_cons_succ]))
                          (refine TG.v0 (v := ?v43) (by simp only [List.getElem?_toArray, List.getElem?_cons_succ, List.getElem?_cons_zero]; rfl) rfl ?hw43 (fun w1 => ?hy43) ?hn43; (case hw43 => rfl); (case hy43 => (go_simp; (try with_reducible rfl))); (try simp only [Act.put, List.setIfInBounds_toArray, List.set_cons_zero, List.set_cons_succ]))
                          (refine TG.load (v := ?v44) (p := ?p44) (by simp only [List.getElem?_toArray, List.getElem?_cons_succ, List.getElem?_cons_zero]; rfl) rfl ?hw44 rfl ?hx44 (fun wq hSq => ?hy44) ?hn44; (case hw44 => rfl); (case hx44 => (simp only [Act.eval, Array.getD_eq_getD_getElem?, List.getElem?_toArray, List.getElem?_cons_succ, List.getElem?_cons_zero, Option.getD_some]; (try rfl))); (case hy44 => (have kwq := hSq.at kw (by intro hT; first | exact hT | exact absurd hT (by assumption) | omega | (simp only at hT; omega)); have klq := hSq.at kl (by intro hT; first | exact hT | exact absurd hT (by assumption) | omega | (simp only at hT; omega)); go_simp; (try with_reducible rfl))); (try simp only [Act.put, List.setIfInBounds_toArray, List.set_cons_zero, List.set_cons_succ]))
                          (refine TG.v0 (v := ?v45) (by simp only [List.getElem?_toArray, List.getElem?_cons_succ, List.getElem?_cons_zero]; rfl) rfl ?hw45 (fun w1 => ?hy45) ?hn45; (case hw45 => rfl); (case hy45 => (go_simp; (try with_reducible rfl))); (try simp only [Act.put, List.setIfInBounds_toArray, List.set_cons_zero, List.set_cons_succ]))
                          (refine TG.v0 (v := ?v46) (by simp only [List.getElem?_toArray, List.getElem?_cons_succ, List.getElem?_cons_zero]; rfl) rfl ?hw46 (fun w1 => ?hy46) ?hn46; (case hw46 => rfl); (case hy46 => (go_simp; (try with_reducible rfl))); (try simp only [Act.put, List.setIfInBounds_toArray, List.set_cons_zero, List.set_cons_succ]))
                          (refine TG.v0 (v := ?v47) (by simp only [List.getElem?_toArray, List.getElem?_cons_succ, List.getElem?_cons_zero]; rfl) rfl ?hw47 (fun w1 => ?hy47) ?hn47; (case hw47 => rfl); (case hy47 => (go_simp; (try with_reducible rfl))); (try simp only [Act.put, List.setIfInBounds_toArray, List.set_cons_zero, List.set_cons_succ]))
                          (refine TG.v0 (v := ?v48) (by simp only [List.getElem?_toArray, List.getElem?_cons_succ, List.getElem?_cons_zero]; rfl) rfl ?hw48 (fun w1 => ?hy48) ?hn48; (case hw48 => rfl); (case hy48 => (go_simp; (try with_reducible rfl))); (try simp only [Act.put, List.setIfInBounds_toArray, List.set_cons_zero, List.set_cons_succ]))
                          (refine TG.load (v := ?v49) (p := ?p49) (by simp only [List.getElem?_toArray, List.getElem?_cons_succ, List.getElem?_cons_zero]; rfl) rfl ?hw49 rfl ?hx49 (fun wq hSq => ?hy49) ?hn49; (case hw49 => rfl); (case hx49 => (simp only [Act.eval, Array.getD_eq_getD_getElem?, List.getElem?_toArray, List.getElem?_cons_succ, List.getElem?_cons_zero, Option.getD_some]; (try rfl))); (case hy49 => (have kwq := hSq.at kw (by intro hT; first | exact hT | exact absurd hT (by assumption) | omega | (simp only at hT; omega)); have klq := hSq.at kl (by intro hT; first | exact hT | exact absurd hT (by assumption) | omega | (simp only at hT; omega)); go_simp; (try with_reducible rfl))); (try simp only [Act.put, List.setIfInBounds_toArray, List.set_cons_zero, List.set_cons_succ]))
                          (refine TG.v0 (v := ?v50) (by simp only [List.getElem?_toArray, List.getElem?_cons_succ, List.getElem?_cons_zero]; rfl) rfl ?hw50 (fun w1 => ?hy50) ?hn50; (case hw50 => rfl); (case hy50 => (go_simp; (try with_reducible rfl))); (try simp only [Act.put, List.setIfInBounds_toArray, List.set_cons_zero, List.set_cons_succ]))
                          (refine TG.v0 (v := ?v51) (by simp only [List.getElem?_toArray, List.getElem?_cons_succ, List.getElem?_cons_zero]; rfl) rfl ?hw51 (fun w1 => ?hy51) ?hn51; (case hw51 => rfl); (case hy51 => (go_simp; (try with_reducible rfl))); (try simp only [Act.put, List.setIfInBounds_toArray, List.set_cons_zero, List.set_cons_succ]))
                          (refine TG.load (v := ?v52) (p := ?p52) (by simp only [List.getElem?_toArray, List.getElem?_cons_succ, List.getElem?_cons_zero]; rfl) rfl ?hw52 rfl ?hx52 (fun wq hSq => ?hy52) ?hn52; (case hw52 => rfl); (case hx52 => (simp only [Act.eval, Array.getD_eq_getD_getElem?, List.getElem?_toArray, List.getElem?_cons_succ, List.getElem?_cons_zero, Option.getD_some]; (try rfl))); (case hy52 => (have kwq := hSq.at kw (by intro hT; first | exact hT | exact absurd hT (by assumption) | omega | (simp only at hT; omega)); have klq := hSq.at kl (by intro hT; first | exact hT | exact absurd hT (by assumption) | omega | (simp only at hT; omega)); go_simp; (try with_reducible rfl))); (try simp only [Act.put, List.setIfInBounds_toArray, List.set_cons_zero, List.set_cons_succ]))
                          (refine TG.callN (f := ?f53) (args := ?r53) (fun v => v = .bool false) gK (by simp only [List.getElem?_toArray, List.getElem?_cons_succ, List.getElem?_cons_zero]; rfl) rfl ?hw53 (fun w1 => ?hy53) (fun T wq kq ltq hSq ub => ?hsp53) ?hn53; (case hw53 => rfl); (case hy53 => (go_simp; (first | with_reducible rfl | (constructor <;> with_reducible rfl)))); (case hsp53 => (have kwq := hSq.at kw (by intro hT; first | exact hT | exact absurd hT (by assumption) | omega | (simp only at hT; omega)); have klq := hSq.at kl (by intro hT; first | exact hT | exact absurd hT (by assumption) | omega | (simp only at hT; omega)); exact (conflict_c xa.s.a xb.s.a xa.s.l xb.s.l _ _ wq (SlAt.mod0 HC.out.1 ((HM.out.then0 hm7).then0 (hSq.mono (fun _ _ h => h.elim)))) (SlAt.mod0 HC.out.2.2.1 ((HM.out.then0 hm7).then0 (hSq.mono (fun _ _ h => h.elim)))) (by have := HC.out.2.1; omega) (by have := HC.out.2.2.2.1; omega)).mono (fun e w' h => ⟨_, h.1, by rw [HCC.out], h.2⟩))); rintro v53 hC; obtain rfl := hC; (try simp only [Act.put, List.setIfInBounds_toArray, List.set_cons_zero, List.set_cons_succ]))
                          (refine TG.v0 (v := ?v54) (by simp only [List.getElem?_toArray, List.getElem?_cons_succ, List.getElem?_cons_zero]; rfl) rfl ?hw54 (fun w1 => ?hy54) ?hn54; (case hw54 => rfl); (case hy54 => (go_simp; (try with_reducible rfl))); (try simp only [Act.put, List.setIfInBounds_toArray, List.set_cons_zero, List.set_cons_succ]))
                          (refine TG.v0 (v := ?v55) (by simp only [List.getElem?_toArray, List.getElem?_cons_succ, List.getElem?_cons_zero]; rfl) rfl ?hw55 (fun w1 => ?hy55) ?hn55; (case hw55 => rfl); (case hy55 => (go_simp; (try with_reducible rfl))); (try simp only [Act.put, List.setIfInBounds_toArray, List.set_cons_zero, List.set_cons_succ]))
                          refine TG.nil (fun w7 ⟨TR, hr⟩ => ?_)
                          have kw := hr.mod.at kw (by intro hT; first | exact hT | exact absurd hT (by assumption) | omega | (simp only at hT; omega))
                          have kl := hr.mod.at kl (by intro hT; first | exact hT | exact absurd hT (by assumption) | omega | (simp only at hT; omega))
                          clear gK
                          have m7 := hm7.then0 hr.mod
                          clear hr
                          go_wp2_with fail
                          go_roundw
                          case rel => exact ⟨k + 1, by omega, by go_num, m7⟩
                          case measure => simp [intOf]; omega
                        · have g6 : decide ((ja : Int) < (jb : Int)) = false := decide_eq_false (by omega)
                          have g6' : decide (ja < jb) = false := decide_eq_false hab
                          clear hab
                          go_upto_region 36 with fail
                          have Lkw := lt_size kw
                          have Lkl := lt_size kl
                          refine wp_gpass (T0 := fun _ => False) (K := fun _ _ => True) (κ := fun i => [0, 0, 0, 0, 0, 0, 0, 0, 0, 0, 0, 0, 0, 0, 0, 0, 0, 0, 0, 0, 0, 0, 0, 0, 0, 0, 0, 0, 0, 0, 0, 0, 0, 0, 0, 0, 0, 0, 0, 0, 0, 0, 0, 0, 0, 0, 0, 0, 0, 0, 0, 0, 0, 0, 0].getD i 0) (υ := fun i => [[], [], [], [], [], [], [], [], [], [], [], [], [], [], [], [], [], [], [], [], [], [], [], [], [], [], [], [], [], [], [], [], [], [], [], [], [], [], [], [], [], [], [], [], [], [], [], [], [], [], [], [], [], [], []].getD i []) [0, 1, 2, 3, 4, 5, 6, 7, 8, 9, 10, 11, 12, 13, 14, 15, 16, 17, 18, 19, 20, 21, 22, 23, 24, 25, 26, 27, 28, 29, 30, 31, 32, 33, 34, 35, 36, 37, 38, 39, 40, 41, 42, 43, 44, 45, 46, 47, 48, 49, 50, 51, 52, 53, 54] (by kernel_rfl) (by kernel_rfl) (Good.true).cl (trivial) (fun _ h => h.elim) ?_
                          have gK := Good.true
                          (refine TG.v0 (v := ?v56) (by simp only [List.getElem?_toArray, List.getElem?_cons_succ, List.getElem?_cons_zero]; rfl) rfl ?hw56 (fun w1 => ?hy56) ?hn56; (case hw56 => rfl); (case hy56 => (go_simp; (try with_reducible rfl))); (try simp only [Act.put, List.setIfInBounds_toArray, List.set_cons_zero, List.set_cons_succ]))
                          (refine TG.v0 (v := ?v57) (by simp only [List.getElem?_toArray, List.getElem?_cons_succ, List.getElem?_cons_zero]; rfl) rfl ?hw57 (fun w1 => ?hy57) ?hn57; (case hw57 => rfl); (case hy57 => (go_simp; (try with_reducible rfl))); (try simp only [Act.put, List.setIfInBounds_toArray, List.set_cons_zero, List.set_cons_succ]))
                          (refine TG.v0 (v := ?v58) (by simp only [List.getElem?_toArray, List.getElem?_cons_succ, List.getElem?_cons_zero]; rfl) rfl ?hw58 (fun w1 => ?hy58) ?hn58; (case hw58 => rfl); (case hy58 => (go_simp; (try with_reducible rfl))); (try simp only [Act.put, List.setIfInBounds_toArray, List.set_cons_zero, List.set_cons_succ]))
                          (refine TG.load (v := ?v59) (p := ?p59) (by simp only [List.getElem?_toArray, List.getElem?_cons_succ, List.getElem?_cons_zero]; rfl) rfl ?hw59 rfl ?hx59 (fun wq hSq => ?hy59) ?hn59; (case hw59 => rfl); (case hx59 => (simp only [Act.eval, Array.getD_eq_getD_getElem?, List.getElem?_toArray, List.getElem?_cons_succ, List.getElem?_cons_zero, Option.getD_some]; (try rfl))); (case hy59 => (have kwq := hSq.at kw (by intro hT; first | exact hT | exact absurd hT (by assumption) | omega | (simp only at hT; omega)); have klq := hSq.at kl (by intro hT; first | exact hT | exact absurd hT (by assumption) | omega | (simp only at hT; omega)); go_simp; (try with_reducible rfl))); (try simp only [Act.put, List.setIfInBounds_toArray, List.set_cons_zero, List.set_cons_succ]))
                          (refine TG.v0 (v := ?v60) (by simp only [List.getElem?_toArray, List.getElem?_cons_succ, List.getElem?_cons_zero]; rfl) rfl ?hw60 (fun w1 => ?hy60) ?hn60; (case hw60 => rfl); (case hy60 => (go_simp; (try with_reducible rfl))); (try simp only [Act.put, List.setIfInBounds_toArray, List.set_cons_zero, List.set_cons_succ]))
                          (refine TG.v0 (v := ?v61) (by simp only [List.getElem?_toArray, List.getElem?_cons_succ, List.getElem?_cons_zero]; rfl) rfl ?hw61 (fun w1 => ?hy61) ?hn61; (case hw61 => rfl); (case hy61 => (go_simp; (try with_reducible rfl))); (try simp only [Act.put, List.setIfInBounds_toArray, List.set_cons_zero, List.set_cons_succ]))
                          (refine TG.v0 (v := ?v62) (by simp only [List.getElem?_toArray, List.getElem?_cons_succ, List.getElem?_cons_zero]; rfl) rfl ?hw62 (fun w1 => ?hy62) ?hn62; (case hw62 => rfl); (case hy62 => (go_simp; (try with_reducible rfl))); (try simp only [Act.put, List.setIfInBounds_toArray, List.set_cons_zero, List.set_cons_succ]))
                          (refine TG.v0 (v := ?v63) (by simp only [List.getElem?_toArray, List.getElem?_cons_succ, List.getElem?_cons_zero]; rfl) rfl ?hw63 (fun w1 => ?hy63) ?hn63; (case hw63 => rfl); (case hy63 => (go_simp; (try with_reducible rfl))); (try simp only [Act.put, List.setIfInBounds_toArray, List.set_cons_zero, List.set_cons_succ]))
                          (refine TG.v0 (v := ?v64) (by simp only [List.getElem?_toArray, List.getElem?_cons_succ, List.getElem?_cons_zero]; rfl) rfl ?hw64 (fun w1 => ?hy64) ?hn64; (case hw64 => rfl); (case hy64 => (go_simp; (try with_reducible rfl))); (try simp only [Act.put, List.setIfInBounds_toArray, List.set_cons_zero, List.set_cons_succ]))
                          (refine TG.load (v := ?v65) (p := ?p65) (by simp only [List.getElem?_toArray, List.getElem?_cons_succ, List.getElem?_cons_zero]; rfl) rfl ?hw65 rfl ?hx65 (fun wq hSq => ?hy65) ?hn65; (case hw65 => rfl); (case hx65 => (simp only [Act.eval, Array.getD_eq_getD_getElem?, List.getElem?_toArray, List.getElem?_cons_succ, List.getElem?_cons_zero, Option.getD_some]; (try rfl))); (case hy65 => (have kwq := hSq.at kw (by intro hT; first | exact hT | exact absurd hT (by assumption) | omega | (simp only at hT; omega)); have klq := hSq.at kl (by intro hT; first | exact hT | exact absurd hT (by assumption) | omega | (simp only at hT; omega)); go_simp; (try with_reducible rfl))); (try simp only [Act.put, List.setIfInBounds_toArray, List.set_cons_zero, List.set_cons_succ]))
                          (refine TG.v0 (v := ?v66) (by simp only [List.getElem?_toArray, List.getElem?_cons_succ, List.getElem?_cons_zero]; rfl) rfl ?hw66 (fun w1 => ?hy66) ?hn66; (case hw66 => rfl); (case hy66 => (go_simp; (try with_reducible rfl))); (try simp only [Act.put, List.setIfInBounds_toArray, List.set_cons_zero, List.set_cons_succ]))
                          (refine TG.v0 (v := ?v67) (by simp only [List.getElem?_toArray, List.getElem?_cons_succ, List.getElem?_cons_zero]; rfl) rfl ?hw67 (fun w1 => ?hy67) ?hn67; (case hw67 => rfl); (case hy67 => (go_simp; (try with_reducible rfl))); (try simp only [Act.put, List.setIfInBounds_toArray, List.set_cons_zero, List.set_cons_succ]))
                          (refine TG.v0 (v := ?v68) (by simp only [List.getElem?_toArray, List.getElem?_cons_succ, List.getElem?_cons_zero]; rfl) rfl ?hw68 (fun w1 => ?hy68) ?hn68; (case hw68 => rfl); (case hy68 => (go_simp; (try with_reducible rfl))); (try simp only [Act.put, List.setIfInBounds_toArray, List.set_cons_zero, List.set_cons_succ]))
                          (refine TG.v0 (v := ?v69) (by simp only [List.getElem?_toArray, List.getElem?_cons_succ, List.getElem?_cons_zero]; rfl) rfl ?hw69 (fun w1 => ?hy69) ?hn69; (case hw69 => rfl); (case hy69 => (go_simp; (try with_reducible rfl))); (try simp only [Act.put, List.setIfInBounds_toArray, List.set_cons_zero, List.set_cons_succ]))
                          (refine TG.v0 (v := ?v70) (by simp only [List.getElem?_toArray, List.getElem?_cons_succ, List.getElem?_cons_zero]; rfl) rfl ?hw70 (fun w1 => ?hy70) ?hn70; (case hw70 => rfl); (case hy70 => (go_simp; (try with_reducible rfl))); (try simp only [Act.put, List.setIfInBounds_toArray, List.set_cons_zero, List.set_cons_succ]))
                          (refine TG.v0 (v := ?v71) (by simp only [List.getElem?_toArray, List.getElem?_cons_succ, List.getElem?_cons_zero]; rfl) rfl ?hw71 (fun w1 => ?hy71) ?hn71; (case hw71 => rfl); (case hy71 => (go_simp; (try with_reducible rfl))); (try simp only [Act.put, List.setIfInBounds_toArray, List.set_cons_zero, List.set_cons_succ]))
                          (refine TG.v0 (v := ?v72) (by simp only [List.getElem?_toArray, List.getElem?_cons_succ, List.getElem?_cons_zero]; rfl) rfl ?hw72 (fun w1 => ?hy72) ?hn72; (case hw72 => rfl); (case hy72 => (go_simp; (try with_reducible rfl))); (try simp only [Act.put, List.setIfInBounds_toArray, List.set_cons_zero, List.set_cons_succ]))
                          (refine TG.v0 (v := ?v73) (by simp only [List.getElem?_toArray, List.getElem?_cons_succ, List.getElem?_cons_zero]; rfl) rfl ?hw73 (fun w1 => ?hy73) ?hn73; (case hw73 => rfl); (case hy73 => (go_simp; (try with_reducible rfl))); (try simp only [Act.put, List.setIfInBounds_toArray, List.set_cons_zero, List.set_cons_succ]))
                          (refine TG.load (v := ?v74) (p := ?p74) (by simp only [List.getElem?_toArray, List.getElem?_cons_succ, List.getElem?_cons_zero]; rfl) rfl ?hw74 rfl ?hx74 (fun wq hSq => ?hy74) ?hn74; (case hw74 => rfl); (case hx74 => (simp only [Act.eval, Array.getD_eq_getD_getElem?, List.getElem?_toArray, List.getElem?_cons_succ, List.getElem?_cons_zero, Option.getD_some]; (try rfl))); (case hy74 => (have kwq := hSq.at kw (by intro hT; first | exact hT | exact absurd hT (by assumption) | omega | (simp only at hT; omega)); have klq := hSq.at kl (by intro hT; first | exact hT | exact absurd hT (by assumption) | omega | (simp only at hT; omega)); go_simp; (try with_reducible rfl))); (try simp only [Act.put, List.setIfInBounds_toArray, List.set_cons_zero, List.set_cons_succ]))
                          (refine TG.v0 (v := ?v75) (by simp only [List.getElem?_toArray, List.getElem?_cons_succ, List.getElem?_cons_zero]; rfl) rfl ?hw75 (fun w1 => ?hy75) ?hn75; (case hw75 => rfl); (case hy75 => (go_simp; (try with_reducible rfl))); (try simp only [Act.put, List.setIfInBounds_toArray, List.set_cons_zero, List.set_cons_succ]))
                          (refine TG.v0 (v := ?v76) (by simp only [List.getElem?_toArray, List.getElem?_cons_succ, List.getElem?_cons_zero]; rfl) rfl ?hw76 (fun w1 => ?hy76) ?hn76; (case hw76 => rfl); (case hy76 => (go_simp; (try with_reducible rfl))); (try simp only [Act.put, List.setIfInBounds_toArray, List.set_cons_zero, List.set_cons_succ]))
                          (refine TG.v0 (v := ?v77) (by simp only [List.getElem?_toArray, List.getElem?_cons_succ, List.getElem?_cons_zero]; rfl) rfl ?hw77 (fun w1 => ?hy77) ?hn77; (case hw77 => rfl); (case hy77 => (go_simp; (try with_reducible rfl))); (try simp only [Act.put, List.setIfInBounds_toArray, List.set_cons_zero, List.set_cons_succ]))
                          (refine TG.load (v := ?v78) (p := ?p78) (by simp only [List.getElem?_toArray, List.getElem?_cons_succ, List.getElem?_cons_zero]; rfl) rfl ?hw78 rfl ?hx78 (fun wq hSq => ?hy78) ?hn78; (case hw78 => rfl); (case hx78 => (simp only [Act.eval, Array.getD_eq_getD_getElem?, List.getElem?_toArray, List.getElem?_cons_succ, List.getElem?_cons_zero, Option.getD_some]; (try rfl))); (case hy78 => (have kwq := hSq.at kw (by intro hT; first | exact hT | exact absurd hT (by assumption) | omega | (simp only at hT; omega)); have klq := hSq.at kl (by intro hT; first | exact hT | exact absurd hT (by assumption) | omega | (simp only at hT; omega)); go_simp; (try with_reducible rfl))); (try simp only [Act.put, List.setIfInBounds_toArray, List.set_cons_zero, List.set_cons_succ]))
                          (refine TG.v0 (v := ?v79) (by simp only [List.getElem?_toArray, List.getElem?_cons_succ, List.getElem?_cons_zero]; rfl) rfl ?hw79 (fun w1 => ?hy79) ?hn79; (case hw79 => rfl); (case hy79 => (go_simp; (try with_reducible rfl))); (try simp only [Act.put, List.setIfInBounds_toArray, List.set_cons_zero, List.set_cons_succ]))
                          (refine TG.v0 (v := ?v80) (by simp only [List.getElem?_toArray, List.getElem?_cons_succ, List.getElem?_cons_zero]; rfl) rfl ?hw80 (fun w1 => ?hy80) ?hn80; (case hw80 => rfl); (case hy80 => (go_simp; (try with_reducible rfl))); (try simp only [Act.put, List.setIfInBounds_toArray, List.set_cons_zero, List.set_cons_succ]))
                          (refine TG.v0 (v := ?v81) (by simp only [List.getElem?_toArray, List.getElem?_cons_succ, List.getElem?_cons_zero]; rfl) rfl ?hw81 (fun w1 => ?hy81) ?hn81; (case hw81 => rfl); (case hy81 => (go_simp; (try with_reducible rfl))); (try simp only [Act.put, List.setIfInBounds_toArray, List.set_cons_zero, List.set_cons_succ]))
                          (refine TG.v0 (v := ?v82) (by simp only [List.getElem?_toArray, List.getElem?_cons_succ, List.getElem?_cons_zero]; rfl) rfl ?hw82 (fun w1 => ?hy82) ?hn82; (case hw82 => rfl); (case hy82 => (go_simp; (try with_reducible rfl))); (try simp only [Act.put, List.setIfInBounds_toArray, List.set_cons_zero, List.set_cons_succ]))
                          (refine TG.v0 (v := ?v83) (by simp only [List.getElem?_toArray, List.getElem?_cons_succ, List.getElem?_cons_zero]; rfl) rfl ?hw83 (fun w1 => ?hy83) ?hn83; (case hw83 => rfl); (case hy83 => (go_simp; (try with_reducible rfl))); (try simp only [Act.put, List.setIfInBounds_toArray, List.set_cons_zero, List.set_cons_succ]))
                          (refine TG.v0 (v := ?v84) (by simp only [List.getElem?_toArray, List.getElem?_cons_succ, List.getElem?_cons_zero]; rfl) rfl ?hw84 (fun w1 => ?hy84) ?hn84; (case hw84 => rfl); (case hy84 => (go_simp; (try with_reducible rfl))); (try simp only [Act.put, List.setIfInBounds_toArray, List.set_cons_zero, List.set_cons_succ]))
                          (refine TG.load (v := ?v85) (p := ?p85) (by simp only [List.getElem?_toArray, List.getElem?_cons_succ, List.getElem?_cons_zero]; rfl) rfl ?hw85 rfl ?hx85 (fun wq hSq => ?hy85) ?hn85; (case hw85 => rfl); (case hx85 => (simp only [Act.eval, Array.getD_eq_getD_getElem?, List.getElem?_toArray, List.getElem?_cons_succ, List.getElem?_cons_zero, Option.getD_some]; (try rfl))); (case hy85 => (have kwq := hSq.at kw (by intro hT; first | exact hT | exact absurd hT (by assumption) | omega | (simp only at hT; omega)); have klq := hSq.at kl (by intro hT; first | exact hT | exact absurd hT (by assumption) | omega | (simp only at hT; omega)); go_simp; (try with_reducible rfl))); (try simp only [Act.put, List.setIfInBounds_toArray, List.set_cons_zero, List.set_cons_succ]))
                          (refine TG.v0 (v := ?v86) (by simp only [List.getElem?_toArray, List.getElem?_cons_succ, List.getElem?_cons_zero]; rfl) rfl ?hw86 (fun w1 => ?hy86) ?hn86; (case hw86 => rfl); (case hy86 => (go_simp; (try with_reducible rfl))); (try simp only [Act.put, List.setIfInBounds_toArray, List.set_cons_zero, List.set_cons_succ]))
                          (refine TG.v0 (v := ?v87) (by simp only [List.getElem?_toArray, List.getElem?_cons_succ, List.getElem?_cons_zero]; rfl) rfl ?hw87 (fun w1 => ?hy87) ?hn87; (case hw87 => rfl); (case hy87 => (go_simp; (try with_reducible rfl))); (try simp only [Act.put, List.setIfInBounds_toArray, List.set_cons_zero, List.set_cons_succ]))
                          (refine TG.v0 (v := ?v88) (by simp only [List.getElem?_toArray, List.getElem?_cons_succ, List.getElem?_cons_zero]; rfl) rfl ?hw88 (fun w1 => ?hy88) ?hn88; (case hw88 => rfl); (case hy88 => (go_simp; (try with_reducible rfl))); (try simp only [Act.put, List.setIfInBounds_toArray, List.set_cons_zero, List.set_cons_succ]))
                          (refine TG.load (v := ?v89) (p := ?p89) (by simp only [List.getElem?_toArray, List.getElem?_cons_succ, List.getElem?_cons_zero]; rfl) rfl ?hw89 rfl ?hx89 (fun wq hSq => ?hy89) ?hn89; (case hw89 => rfl); (case hx89 => (simp only [Act.eval, Array.getD_eq_getD_getElem?, List.getElem?_toArray, List.getElem?_cons_succ, List.getElem?_cons_zero, Option.getD_some]; (try rfl))); (case hy89 => (have kwq := hSq.at kw (by intro hT; first | exact hT | exact absurd hT (by assumption) | omega | (simp only at hT; omega)); have klq := hSq.at kl (by intro hT; first | exact hT | exact absurd hT (by assumption) | omega | (simp only at hT; omega)); go_simp; (try with_reducible rfl))); (try simp only [Act.put, List.setIfInBounds_toArray, List.set_cons_zero, List.set_cons_succ]))
                          (refine TG.v0 (v := ?v90) (by simp only [List.getElem?_toArray, List.getElem?_cons_succ, List.getElem?_cons_zero]; rfl) rfl ?hw90 (fun w1 => ?hy90) ?hn90; (case hw90 => rfl); (case hy90 => (go_simp; (try with_reducible rfl))); (try simp only [Act.put, List.setIfInBounds_toArray, List.set_cons_zero, List.set_cons_succ]))
                          (refine TG.v0 (v := ?v91) (by simp only [List.getElem?_toArray, List.getElem?_cons_succ, List.getElem?_cons_zero]; rfl) rfl ?hw91 (fun w1 => ?hy91) ?hn91; (case hw91 => rfl); (case hy91 => (go_simp; (try with_reducible rfl))); (try simp only [Act.put, List.setIfInBounds_toArray, List.set_cons_zero, List.set_cons_succ]))
                          (refine TG.pass (by simp only [List.getElem?_toArray, List.getElem?_cons_succ, List.getElem?_cons_zero]; rfl) rfl ?hw92 ?hn92; (case hw92 => rfl); (try simp only [Act.put, List.setIfInBounds_toArray, List.set_cons_zero, List.set_cons_succ]))
                          (refine TG.pass (by simp only [List.getElem?_toArray, List.getElem?_cons_succ, List.getElem?_cons_zero]; rfl) rfl ?hw93 ?hn93; (case hw93 => rfl); (try simp only [Act.put, List.setIfInBounds_toArray, List.set_cons_zero, List.set_cons_succ]))
                          (refine TG.pass (by simp only [List.getElem?_toArray, List.getElem?_cons_succ, List.getElem?_cons_zero]; rfl) rfl ?hw94 ?hn94; (case hw94 => rfl); (try simp only [Act.put, List.setIfInBounds_toArray, List.set_cons_zero, List.set_cons_succ]))
                          (refine TG.pass (by simp only [List.getElem?_toArray, List.getElem?_cons_succ, List.getElem?_cons_zero]; rfl) rfl ?hw95 ?hn95; (case hw95 => rfl); (try simp only [Act.put, List.setIfInBounds_toArray, List.set_cons_zero, List.set_cons_succ]))
                          (refine TG.pass (by simp only [List.getElem?_toArray, List.getElem?_cons_succ, List.getElem?_cons_zero]; rfl) rfl ?hw96 ?hn96; (case hw96 => rfl); (try simp only [Act.put, List.setIfInBounds_toArray, List.set_cons_zero, List.set_cons_succ]))
                          (refine TG.pass (by simp only [List.getElem?_toArray, List.getElem?_cons_succ, List.getElem?_cons_zero]; rfl) rfl ?hw97 ?hn97; (case hw97 => rfl); (try simp only [Act.put, List.setIfInBounds_toArray, List.set_cons_zero, List.set_cons_succ]))
                          (refine TG.pass (by simp only [List.getElem?_toArray, List.getElem?_cons_succ, List.getElem?_cons_zero]; rfl) rfl ?hw98 ?hn98; (case hw98 => rfl); (try simp only [Act.put, List.setIfInBounds_toArray, List.set_cons_zero, List.set_cons_succ]))
                          (refine TG.pass (by simp only [List.getElem?_toArray, List.getElem?_cons_succ, List.getElem?_cons_zero]; rfl) rfl ?hw99 ?hn99; (case hw99 => rfl); (try simp only [Act.put, List.setIfInBounds_toArray, List.set_cons_zero, List.set_cons_succ]))
                          (refine TG.pass (by simp only [List.getElem?_toArray, List.getElem?_cons_succ, List.getElem?_cons_zero]; rfl) rfl ?hw100 ?hn100; (case hw100 => rfl); (try simp only [Act.put, List.setIfInBounds_toArray, List.set_cons_zero, List.set_cons_succ]))
                          (refine TG.pass (by simp only [List.getElem?_toArray, List.getElem?_cons_succ, List.getElem?_cons_zero]; rfl) rfl ?hw101 ?hn101; (case hw101 => rfl); (try simp only [Act.put, List.setIfInBounds_toArray, List.set_cons_zero, List.set_cons_succ]))
                          (refine TG.pass (by simp only [List.getElem?_toArray, List.getElem?_cons_succ, List.getElem?_cons_zero]; rfl) rfl ?hw102 ?hn102; (case hw102 => rfl); (try simp only [Act.put, List.setIfInBounds_toArray, List.set_cons_zero, List.set_cons_succ]))
                          (refine TG.pass (by simp only [List.getElem?_toArray, List.getElem?_cons_succ, List.getElem?_cons_zero]; rfl) rfl ?hw103 ?hn103; (case hw103 => rfl); (try simp only [Act.put, List.setIfInBounds_toArray, List.set_cons_zero, List.set_cons_succ]))
                          (refine TG.pass (by simp only [List.getElem?_toArray, List.getElem?_cons_succ, List.getElem?_cons_zero]; rfl) rfl ?hw104 ?hn104; (case hw104 => rfl); (try simp only [Act.put, List.setIfInBounds_toArray, List.set_cons_zero, List.set_cons_succ]))
                          (refine TG.pass (by simp only [List.getElem?_toArray, List.getElem?_cons_succ, List.getElem?_cons_zero]; rfl) rfl ?hw105 ?hn105; (case hw105 => rfl); (try simp only [Act.put, List.setIfInBounds_toArray, List.set_cons_zero, List.set_cons_succ]))
                          (refine TG.pass (by simp only [List.getElem?_toArray, List.getElem?_cons_succ, List.getElem?_cons_zero]; rfl) rfl ?hw106 ?hn106; (case hw106 => rfl); (try simp only [Act.put, List.setIfInBounds_toArray, List.set_cons_zero, List.set_cons_succ]))
                          (refine TG.pass (by simp only [List.getElem?_toArray, List.getElem?_cons_succ, List.getElem?_cons_zero]; rfl) rfl ?hw107 ?hn107; (case hw107 => rfl); (try simp only [Act.put, List.setIfInBounds_toArray, List.set_cons_zero, List.set_cons_succ]))
                          (refine TG.pass (by simp only [List.getElem?_toArray, List.getElem?_cons_succ, List.getElem?_cons_zero]; rfl) rfl ?hw108 ?hn108; (case hw108 => rfl); (try simp only [Act.put, List.setIfInBounds_toArray, List.set_cons_zero, List.set_cons_succ]))
                          (refine TG.v0 (v := ?v109) (by simp only [List.getElem?_toArray, List.getElem?_cons_succ, List.getElem?_cons_zero]; rfl) rfl ?hw109 (fun w1 => ?hy109) ?hn109; (case hw109 => rfl); (case hy109 => (go_simp; (try with_reducible rfl))); (try simp only [Act.put, List.setIfInBounds_toArray, List.set_cons_zero, List.set_cons_succ]))
                          (refine TG.v0 (v := ?v110) (by simp only [List.getElem?_toArray, List.getElem?_cons_succ, List.getElem?_cons_zero]; rfl) rfl ?hw110 (fun w1 => ?hy110) ?hn110; (case hw110 => rfl); (case hy110 => (go_simp; (try with_reducible rfl))); (try simp only [Act.put, List.setIfInBounds_toArray, List.set_cons_zero, List.set_cons_succ]))
                          refine TG.nil (fun w7 ⟨TR, hr⟩ => ?_)
                          have kw := hr.mod.at kw (by intro hT; first | exact hT | exact absurd hT (by assumption) | omega | (simp only at hT; omega))
                          have kl := hr.mod.at kl (by intro hT; first | exact hT | exact absurd hT (by assumption) | omega | (simp only at hT; omega))
                          clear gK
                          have m7 := hm7.then0 hr.mod
                          clear hr
                          go_wp2_with fail
                          go_roundw
                          case rel => exact ⟨k + 1, by omega, by go_num, m7⟩
                          case measure => simp [intOf]; omega
                      · obtain rfl : i = k := by omega
                        have hdk : decide ((i : Int) < (i : Int)) = false := decide_eq_false (by omega)
                        clear hki
                        go_wp2_with fail
                        go_roundw
                        case rel => exact ⟨i + 1, by omega, by go_num, hm7⟩
                        case measure => simp [intOf]; omega
                  · obtain rfl : i = out.length := by omega
                    have hdi : decide ((out.length : Int) < (out.length : Int)) = false := decide_eq_false (by omega)
                    clear hlt
                    go_wp2_with fail
                    go_at_call 8
                    refine (lives_c _).mono ?_
                    rintro e w9 ⟨rfl, m9⟩
                    go_wp2_with fail
                    go_ret
                    exact ⟨rfl, (HM.out.then0 hm7).then0 m9⟩
              · have hdk : decide ((0 : Int) < (K.length : Int)) = true := decide_eq_true (by omega)
                have hdk2 : decide (0 < K.length) = true := decide_eq_true (by omega)
                have hne : K ≠ [] := fun e => hK (by rw [e]; rfl)
                have hr0 := ready_ne hne
                have hrl := ready_len K
                obtain ⟨m, hm⟩ : ∃ m, (readyR K).length = m := ⟨_, rfl⟩
                rw [hm] at hr0 hrl
                have HMM := Lib.hid hm
                have hz1 : ((m : Int) == 0) = false := by
                  rw [beq_eq_false_iff_ne]
                  omega
                have hz2 : decide ((l.length : Int) ≤ (out.length : Int)) = false := decide_eq_false (by omega)
                have hz3 : decide (l.length ≤ out.length) = false := decide_eq_false (by omega)
                clear hne hm hK
                go_wp2_with fail
                go_at_call 19
                refine (lenE_c HA.out K.length rfl).mono ?_
                rintro e w5 ⟨rfl, rfl⟩
                go_wp2_with fail
                go_at_call 13
                refine (readyF_c HA.out _ rfl m HMM.out).mono ?_
                rintro e w6 ⟨aw, rfl, hw6, haw, m6⟩
                have haw2 : Hid (∀ b o, aw = some ⟨b, o, none⟩ → ¬ T b) := Lib.hid (fun b o e h => by
                  have h1 := haw _ e
                  have h1 : w5.heap.size ≤ b := h1
                  have h2 := HT.out.2 b h
                  omega)
                have HA6 := Lib.hid (HA.out.mod0 m6)
                have HM6 := Lib.hid (HM.out.then0 m6)
                have HW6 := Lib.hid hw6
                have HOO6 := Lib.hid (And.intro (HOO.out.1.mod0 m6) HOO.out.2)
                have hbs6 : base ≤ w6.heap.size := Nat.le_trans hbs m6.size
                clear hw6 haw HA HM HOO m6 hbs
                go_wp2_with fail
                go_loopw [9] (fun s9 ws => ∃ i : Nat, i ≤ m ∧ s9 = .int .i64 i ∧ Mod (fun _ => False) w6 ws) (fun s9 _ => m - (intOf s9).toNat)
                case atStart => exact ⟨0, Nat.zero_le _, rfl, Mod.refl _ _⟩
                case round =>
                  obtain ⟨i, hi, rfl, hm7⟩ := hrel
                  by_cases hlt : i < m
                  · have hdi : decide ((i : Int) < (m : Int)) = true := decide_eq_true (by omega)
                    go_wp2_with fail
                    go_loopw [10] (fun s10 ws => ∃ k : Nat, k ≤ i ∧ s10 = .int .i64 k ∧ Mod (fun _ => False) w6 ws) (fun s10 _ => i - (intOf s10).toNat)
                    case atStart => exact ⟨0, Nat.zero_le _, rfl, hm7⟩
                    case round =>
                      clear hm7
                      obtain ⟨k, hk, rfl, hm7⟩ := hrel
                      by_cases hki : k < i
                      · have hdk : decide ((k : Int) < (i : Int)) = true := decide_eq_true (by omega)
                        obtain ⟨x, hx⟩ : ∃ x, (readyR K)[i]? = some x := ⟨_, List.getElem?_eq_getElem (by rw [HMM.out]; exact hlt)⟩
                        obtain ⟨y, hy⟩ : ∃ y, (readyR K)[k]? = some y := ⟨_, List.getElem?_eq_getElem (by rw [HMM.out]; omega)⟩
                        obtain ⟨ja, hja, rfl⟩ := HO.out.at (List.mem_of_getElem? hx)
                        obtain ⟨jb, hjb, rfl⟩ := HO.out.at (List.mem_of_getElem? hy)
                        have hcf := HO.out.pair (by omega) hki hx hy hja hjb
                        obtain ⟨xa, hxa⟩ : ∃ x, l[ja]? = some x := ⟨_, List.getElem?_eq_getElem hja⟩
                        obtain ⟨xb, hxb⟩ : ∃ x, l[jb]? = some x := ⟨_, List.getElem?_eq_getElem hjb⟩
                        have hma := List.mem_of_getElem? hxa
                        have hmb := List.mem_of_getElem? hxb
                        have HC : Hid (RolesAt w xa.s.a xa.s.l ∧ xa.s.l.length ≤ 300 ∧ RolesAt w xb.s.a xb.s.l ∧ xb.s.l.length ≤ 300 ∧ conf xa.s.l xb.s.l = false) := Lib.hid ⟨(HOK.out _ hma).1, by have := rolesN_at hma; have := HR300.out; omega, (HOK.out _ hmb).1, by have := rolesN_at hmb; have := HR300.out; omega, by rw [← rolesAt_of hxa, ← rolesAt_of hxb]; exact hcf⟩
                        obtain ⟨bw, ow, Cw, Vw, fw, rfl, kw, v1, v2⟩ := int_at2 (HW6.out.mod0 hm7) hx hy
                        rw [idn_toInt (by omega)] at v1 v2
                        obtain ⟨bl, o, C, V, fr, rfl, kl, hc1, hc2⟩ := ac_at2 (HL.out.mod0 (HM6.out.then0 hm7)) hxa hxb
                        have hkm : k < m := by omega
                        have g1 : decide ((ja : Int) < 0) = false := decide_eq_false (by omega)
                        have g2 : decide ((jb : Int) < 0) = false := decide_eq_false (by omega)
                        have g3 : decide ((l.length : Int) ≤ (ja : Int)) = false := decide_eq_false (by omega)
                        have g3' : decide (l.length ≤ ja) = false := decide_eq_false (by omega)
                        have g4' : decide (l.length ≤ jb) = false := decide_eq_false (by omega)
                        have g4 : decide ((l.length : Int) ≤ (jb : Int)) = false := decide_eq_false (by omega)
                        clear hx hy hcf hxa hxb hma hmb
                        go_upto_region 20 with fail
                        have Lkw := lt_size kw
                        have Lkl := lt_size kl
                        refine wp_gpass (T0 := fun _ => False) (K := fun _ _ => True) (κ := fun i => [0, 0, 0, 0, 0, 0, 0, 0, 0, 0, 0, 0, 0, 0, 0, 0, 0, 0, 0, 0, 0, 0, 0, 0, 0, 0, 0, 0, 0, 0, 0, 0, 0, 0, 0, 0, 0, 0, 0, 0, 0, 0, 0, 0, 0, 0, 0, 6, 0].getD i 0) (υ := fun i => [[], [], [], [], [], [], [], [], [], [], [], [], [], [], [], [], [], [], [], [], [], [], [], [], [], [], [], [], [], [], [], [], [], [], [], [], [], [], [], [], [], [], [], [], [], [], [], [], []].getD i []) [0, 1, 2, 3, 4, 5, 6, 7, 8, 9, 10, 11, 12, 13, 14, 15, 16, 17, 18, 19, 20, 21, 22, 23, 24, 25, 26, 27, 28, 29, 30, 31, 32, 33, 34, 35, 36, 37, 38, 39, 40, 41, 42, 43, 44, 45, 46, 47, 48] (by kernel_rfl) (by kernel_rfl) (Good.true).cl (trivial) (fun _ h => h.elim) ?_
                        have gK := Good.true
                        (refine TG.v0 (v := ?v111) (by simp only [List.getElem?_toArray, List.getElem?_cons_succ, List.getElem?_cons_zero]; rfl) rfl ?hw111 (fun w1 => ?hy111) ?hn111; (case hw111 => rfl); (case hy111 => (go_simp; (try with_reducible rfl))); (try simp only [Act.put, List.setIfInBounds_toArray, List.set_cons_zero, List.set_cons_succ]))
                        (refine TG.v0 (v := ?v112) (by simp only [List.getElem?_toArray, List.getElem?_cons_succ, List.getElem?_cons_zero]; rfl) rfl ?hw112 (fun w1 => ?hy112) ?hn112; (case hw112 => rfl); (case hy112 => (go_simp; (try with_reducible rfl))); (try simp only [Act.put, List.setIfInBounds_toArray, List.set_cons_zero, List.set_cons_succ]))
                        (refine TG.v0 (v := ?v113) (by simp only [List.getElem?_toArray, List.getElem?_cons_succ, List.getElem?_cons_zero]; rfl) rfl ?hw113 (fun w1 => ?hy113) ?hn113; (case hw113 => rfl); (case hy113 => (go_simp; (try with_reducible rfl))); (try simp only [Act.put, List.setIfInBounds_toArray, List.set_cons_zero, List.set_cons_succ]))
                        (refine TG.load (v := ?v114) (p := ?p114) (by simp only [List.getElem?_toArray, List.getElem?_cons_succ, List.getElem?_cons_zero]; rfl) rfl ?hw114 rfl ?hx114 (fun wq hSq => ?hy114) ?hn114; (case hw114 => rfl); (case hx114 => (simp only [Act.eval, Array.getD_eq_getD_getElem?, List.getElem?_toArray, List.getElem?_cons_succ, List.getElem?_cons_zero, Option.getD_some]; (try rfl))); (case hy114 => (have kwq := hSq.at kw (by intro hT; first | exact hT | exact absurd hT (by assumption) | omega | (simp only at hT; omega)); have klq := hSq.at kl (by intro hT; first | exact hT | exact absurd hT (by assumption) | omega | (simp only at hT; omega)); go_simp; (try with_reducible rfl))); (try simp only [Act.put, List.setIfInBounds_toArray, List.set_cons_zero, List.set_cons_succ]))
                        (refine TG.v0 (v := ?v115) (by simp only [List.getElem?_toArray, List.getElem?_cons_succ, List.getElem?_cons_zero]; rfl) rfl ?hw115 (fun w1 => ?hy115) ?hn115; (case hw115 => rfl); (case hy115 => (go_simp; (try with_reducible rfl))); (try simp only [Act.put, List.setIfInBounds_toArray, List.set_cons_zero, List.set_cons_succ]))
                        (refine TG.v0 (v := ?v116) (by simp only [List.getElem?_toArray, List.getElem?_cons_succ, List.getElem?_cons_zero]; rfl) rfl ?hw116 (fun w1 => ?hy116) ?hn116; (case hw116 => rfl); (case hy116 => (go_simp; (try with_reducible rfl))); (try simp only [Act.put, List.setIfInBounds_toArray, List.set_cons_zero, List.set_cons_succ]))
                        (refine TG.v0 (v := ?v117) (by simp only [List.getElem?_toArray, List.getElem?_cons_succ, List.getElem?_cons_zero]; rfl) rfl ?hw117 (fun w1 => ?hy117) ?hn117; (case hw117 => rfl); (case hy117 => (go_simp; (try with_reducible rfl))); (try simp only [Act.put, List.setIfInBounds_toArray, List.set_cons_zero, List.set_cons_succ]))
                        (refine TG.v0 (v := ?v118) (by simp only [List.getElem?_toArray, List.getElem?_cons_succ, List.getElem?_cons_zero]; rfl) rfl ?hw118 (fun w1 => ?hy118) ?hn118; (case hw118 => rfl); (case hy118 => (go_simp; (try with_reducible rfl))); (try simp only [Act.put, List.setIfInBounds_toArray, List.set_cons_zero, List.set_cons_succ]))
                        (refine TG.v0 (v := ?v119) (by simp only [List.getElem?_toArray, List.getElem?_cons_succ, List.getElem?_cons_zero]; rfl) rfl ?hw119 (fun w1 => ?hy119) ?hn119; (case hw119 => rfl); (case hy119 => (go_simp; (try with_reducible rfl))); (try simp only [Act.put, List.setIfInBounds_toArray, List.set_cons_zero, List.set_cons_succ]))
                        (refine TG.load (v := ?v120) (p := ?p120) (by simp only [List.getElem?_toArray, List.getElem?_cons_succ, List.getElem?_cons_zero]; rfl) rfl ?hw120 rfl ?hx120 (fun wq hSq => ?hy120) ?hn120; (case hw120 => rfl); (case hx120 => (simp only [Act.eval, Array.getD_eq_getD_getElem?, List.getElem?_toArray, List.getElem?_cons_succ, List.getElem?_cons_zero, Option.getD_some]; (try rfl))); (case hy120 => (have kwq := hSq.at kw (by intro hT; first | exact hT | exact absurd hT (by assumption) | omega | (simp only at hT; omega)); have klq := hSq.at kl (by intro hT; first | exact hT | exact absurd hT (by assumption) | omega | (simp only at hT; omega)); go_simp; (try with_reducible rfl))); (try simp only [Act.put, List.setIfInBounds_toArray, List.set_cons_zero, List.set_cons_succ]))
                        (refine TG.v0 (v := ?v121) (by simp only [List.getElem?_toArray, List.getElem?_cons_succ, List.getElem?_cons_zero]; rfl) rfl ?hw121 (fun w1 => ?hy121) ?hn121; (case hw121 => rfl); (case hy121 => (go_simp; (try with_reducible rfl))); (try simp only [Act.put, List.setIfInBounds_toArray, List.set_cons_zero, List.set_cons_succ]))
                        (refine TG.v0 (v := ?v122) (by simp only [List.getElem?_toArray, List.getElem?_cons_succ, List.getElem?_cons_zero]; rfl) rfl ?hw122 (fun w1 => ?hy122) ?hn122; (case hw122 => rfl); (case hy122 => (go_simp; (try with_reducible rfl))); (try simp only [Act.put, List.setIfInBounds_toArray, List.set_cons_zero, List.set_cons_succ]))
                        (refine TG.v0 (v := ?v123) (by simp only [List.getElem?_toArray, List.getElem?_cons_succ, List.getElem?_cons_zero]; rfl) rfl ?hw123 (fun w1 => ?hy123) ?hn123; (case hw123 => rfl); (case hy123 => (go_simp; (try with_reducible rfl))); (try simp only [Act.put, List.setIfInBounds_toArray, List.set_cons_zero, List.set_cons_succ]))
                        (refine TG.v0 (v := ?v124) (by simp only [List.getElem?_toArray, List.getElem?_cons_succ, List.getElem?_cons_zero]; rfl) rfl ?hw124 (fun w1 => ?hy124) ?hn124; (case hw124 => rfl); (case hy124 => (go_simp; (try with_reducible rfl))); (try simp only [Act.put, List.setIfInBounds_toArray, List.set_cons_zero, List.set_cons_succ]))
                        (refine TG.v0 (v := ?v125) (by simp only [List.getElem?_toArray, List.getElem?_cons_succ, List.getElem?_cons_zero]; rfl) rfl ?hw125 (fun w1 => ?hy125) ?hn125; (case hw125 => rfl); (case hy125 => (go_simp; (try with_reducible rfl))); (try simp only [Act.put, List.setIfInBounds_toArray, List.set_cons_zero, List.set_cons_succ]))
                        (refine TG.v0 (v := ?v126) (by simp only [List.getElem?_toArray, List.getElem?_cons_succ, List.getElem?_cons_zero]; rfl) rfl ?hw126 (fun w1 => ?hy126) ?hn126; (case hw126 => rfl); (case hy126 => (go_simp; (try with_reducible rfl))); (try simp only [Act.put, List.setIfInBounds_toArray, List.set_cons_zero, List.set_cons_succ]))
                        (refine TG.v0 (v := ?v127) (by simp only [List.getElem?_toArray, List.getElem?_cons_succ, List.getElem?_cons_zero]; rfl) rfl ?hw127 (fun w1 => ?hy127) ?hn127; (case hw127 => rfl); (case hy127 => (go_simp; (try with_reducible rfl))); (try simp only [Act.put, List.setIfInBounds_toArray, List.set_cons_zero, List.set_cons_succ]))
                        (refine TG.v0 (v := ?v128) (by simp only [List.getElem?_toArray, List.getElem?_cons_succ, List.getElem?_cons_zero]; rfl) rfl ?hw128 (fun w1 => ?hy128) ?hn128; (case hw128 => rfl); (case hy128 => (go_simp; (try with_reducible rfl))); (try simp only [Act.put, List.setIfInBounds_toArray, List.set_cons_zero, List.set_cons_succ]))
                        (refine TG.load (v := ?v129) (p := ?p129) (by simp only [List.getElem?_toArray, List.getElem?_cons_succ, List.getElem?_cons_zero]; rfl) rfl ?hw129 rfl ?hx129 (fun wq hSq => ?hy129) ?hn129; (case hw129 => rfl); (case hx129 => (simp only [Act.eval, Array.getD_eq_getD_getElem?, List.getElem?_toArray, List.getElem?_cons_succ, List.getElem?_cons_zero, Option.getD_some]; (try rfl))); (case hy129 => (have kwq := hSq.at kw (by intro hT; first | exact hT | exact absurd hT (by assumption) | omega | (simp only at hT; omega)); have klq := hSq.at kl (by intro hT; first | exact hT | exact absurd hT (by assumption) | omega | (simp only at hT; omega)); go_simp; (try with_reducible rfl))); (try simp only [Act.put, List.setIfInBounds_toArray, List.set_cons_zero, List.set_cons_succ]))
                        (refine TG.v0 (v := ?v130) (by simp only [List.getElem?_toArray, List.getElem?_cons_succ, List.getElem?_cons_zero]; rfl) rfl ?hw130 (fun w1 => ?hy130) ?hn130; (case hw130 => rfl); (case hy130 => (go_simp; (try with_reducible rfl))); (try simp only [Act.put, List.setIfInBounds_toArray, List.set_cons_zero, List.set_cons_succ]))
                        (refine TG.v0 (v := ?v131) (by simp only [List.getElem?_toArray, List.getElem?_cons_succ, List.getElem?_cons_zero]; rfl) rfl ?hw131 (fun w1 => ?hy131) ?hn131; (case hw131 => rfl); (case hy131 => (go_simp; (try with_reducible rfl))); (try simp only [Act.put, List.setIfInBounds_toArray, List.set_cons_zero, List.set_cons_succ]))
                        (refine TG.v0 (v := ?v132) (by simp only [List.getElem?_toArray, List.getElem?_cons_succ, List.getElem?_cons_zero]; rfl) rfl ?hw132 (fun w1 => ?hy132) ?hn132; (case hw132 => rfl); (case hy132 => (go_simp; (try with_reducible rfl))); (try simp only [Act.put, List.setIfInBounds_toArray, List.set_cons_zero, List.set_cons_succ]))
                        (refine TG.v0 (v := ?v133) (by simp only [List.getElem?_toArray, List.getElem?_cons_succ, List.getElem?_cons_zero]; rfl) rfl ?hw133 (fun w1 => ?hy133) ?hn133; (case hw133 => rfl); (case hy133 => (go_simp; (try with_reducible rfl))); (try simp only [Act.put, List.setIfInBounds_toArray, List.set_cons_zero, List.set_cons_succ]))
                        (refine TG.v0 (v := ?v134) (by simp only [List.getElem?_toArray, List.getElem?_cons_succ, List.getElem?_cons_zero]; rfl) rfl ?hw134 (fun w1 => ?hy134) ?hn134; (case hw134 => rfl); (case hy134 => (go_simp; (try with_reducible rfl))); (try simp only [Act.put, List.setIfInBounds_toArray, List.set_cons_zero, List.set_cons_succ]))
                        (refine TG.v0 (v := ?v135) (by simp only [List.getElem?_toArray, List.getElem?_cons_succ, List.getElem?_cons_zero]; rfl) rfl ?hw135 (fun w1 => ?hy135) ?hn135; (case hw135 => rfl); (case hy135 => (go_simp; (try with_reducible rfl))); (try simp only [Act.put, List.setIfInBounds_toArray, List.set_cons_zero, List.set_cons_succ]))
                        (refine TG.load (v := ?v136) (p := ?p136) (by simp only [List.getElem?_toArray, List.getElem?_cons_succ, List.getElem?_cons_zero]; rfl) rfl ?hw136 rfl ?hx136 (fun wq hSq => ?hy136) ?hn136; (case hw136 => rfl); (case hx136 => (simp only [Act.eval, Array.getD_eq_getD_getElem?, List.getElem?_toArray, List.getElem?_cons_succ, List.getElem?_cons_zero, Option.getD_some]; (try rfl))); (case hy136 => (have kwq := hSq.at kw (by intro hT; first | exact hT | exact absurd hT (by assumption) | omega | (simp only at hT; omega)); have klq := hSq.at kl (by intro hT; first | exact hT | exact absurd hT (by assumption) | omega | (simp only at hT; omega)); go_simp; (try with_reducible rfl))); (try simp only [Act.put, List.setIfInBounds_toArray, List.set_cons_zero, List.set_cons_succ]))
                        (refine TG.v0 (v := ?v137) (by simp only [List.getElem?_toArray, List.getElem?_cons_succ, List.getElem?_cons_zero]; rfl) rfl ?hw137 (fun w1 => ?hy137) ?hn137; (case hw137 => rfl); (case hy137 => (go_simp; (try with_reducible rfl))); (try simp only [Act.put, List.setIfInBounds_toArray, List.set_cons_zero, List.set_cons_succ]))
                        (refine TG.v0 (v := ?v138) (by simp only [List.getElem?_toArray, List.getElem?_cons_succ, List.getElem?_cons_zero]; rfl) rfl ?hw138 (fun w1 => ?hy138) ?hn138; (case hw138 => rfl); (case hy138 => (go_simp; (try with_reducible rfl))); (try simp only [Act.put, List.setIfInBounds_toArray, List.set_cons_zero, List.set_cons_succ]))
                        (refine TG.v0 (v := ?v139) (by simp only [List.getElem?_toArray, List.getElem?_cons_succ, List.getElem?_cons_zero]; rfl) rfl ?hw139 (fun w1 => ?hy139) ?hn139; (case hw139 => rfl); (case hy139 => (go_simp; (try with_reducible rfl))); (try simp only [Act.put, List.setIfInBounds_toArray, List.set_cons_zero, List.set_cons_succ]))
                        (refine TG.v0 (v := ?v140) (by simp only [List.getElem?_toArray, List.getElem?_cons_succ, List.getElem?_cons_zero]; rfl) rfl ?hw140 (fun w1 => ?hy140) ?hn140; (case hw140 => rfl); (case hy140 => (go_simp; (try with_reducible rfl))); (try simp only [Act.put, List.setIfInBounds_toArray, List.set_cons_zero, List.set_cons_succ]))
                        (refine TG.v0 (v := ?v141) (by simp only [List.getElem?_toArray, List.getElem?_cons_succ, List.getElem?_cons_zero]; rfl) rfl ?hw141 (fun w1 => ?hy141) ?hn141; (case hw141 => rfl); (case hy141 => (go_simp; (try with_reducible rfl))); (try simp only [Act.put, List.setIfInBounds_toArray, List.set_cons_zero, List.set_cons_succ]))
                        (refine TG.v0 (v := ?v142) (by simp only [List.getElem?_toArray, List.getElem?_cons_succ, List.getElem?_cons_zero]; rfl) rfl ?hw142 (fun w1 => ?hy142) ?hn142; (case hw142 => rfl); (case hy142 => (go_simp; (try with_reducible rfl))); (try simp only [Act.put, List.setIfInBounds_toArray, List.set_cons_zero, List.set_cons_succ]))
                        (refine TG.v0 (v := ?v143) (by simp only [List.getElem?_toArray, List.getElem?_cons_succ, List.getElem?_cons_zero]; rfl) rfl ?hw143 (fun w1 => ?hy143) ?hn143; (case hw143 => rfl); (case hy143 => (go_simp; (try with_reducible rfl))); (try simp only [Act.put, List.setIfInBounds_toArray, List.set_cons_zero, List.set_cons_succ]))
                        (refine TG.v0 (v := ?v144) (by simp only [List.getElem?_toArray, List.getElem?_cons_succ, List.getElem?_cons_zero]; rfl) rfl ?hw144 (fun w1 => ?hy144) ?hn144; (case hw144 => rfl); (case hy144 => (go_simp; (try with_reducible rfl))); (try simp only [Act.put, List.setIfInBounds_toArray, List.set_cons_zero, List.set_cons_succ]))
                        (refine TG.v0 (v := ?v145) (by simp only [List.getElem?_toArray, List.getElem?_cons_succ, List.getElem?_cons_zero]; rfl) rfl ?hw145 (fun w1 => ?hy145) ?hn145; (case hw145 => rfl); (case hy145 => (go_simp; (try with_reducible rfl))); (try simp only [Act.put, List.setIfInBounds_toArray, List.set_cons_zero, List.set_cons_succ]))
                        (refine TG.load (v := ?v146) (p := ?p146) (by simp only [List.getElem?_toArray, List.getElem?_cons_succ, List.getElem?_cons_zero]; rfl) rfl ?hw146 rfl ?hx146 (fun wq hSq => ?hy146) ?hn146; (case hw146 => rfl); (case hx146 => (simp only [Act.eval, Array.getD_eq_getD_getElem?, List.getElem?_toArray, List.getElem?_cons_succ, List.getElem?_cons_zero, Option.getD_some]; (try rfl))); (case hy146 => (have kwq := hSq.at kw (by intro hT; first | exact hT | exact absurd hT (by assumption) | omega | (simp only at hT; omega)); have klq := hSq.at kl (by intro hT; first | exact hT | exact absurd hT (by assumption) | omega | (simp only at hT; omega)); go_simp; (try with_reducible rfl))); (try simp only [Act.put, List.setIfInBounds_toArray, List.set_cons_zero, List.set_cons_succ]))
                        (refine TG.v0 (v := ?v147) (by simp only [List.getElem?_toArray, List.getElem?_cons_succ, List.getElem?_cons_zero]; rfl) rfl ?hw147 (fun w1 => ?hy147) ?hn147; (case hw147 => rfl); (case hy147 => (go_simp; (try with_reducible rfl))); (try simp only [Act.put, List.setIfInBounds_toArray, List.set_cons_zero, List.set_cons_succ]))
                        (refine TG.v0 (v := ?v148) (by simp only [List.getElem?_toArray, List.getElem?_cons_succ, List.getElem?_cons_zero]; rfl) rfl ?hw148 (fun w1 => ?hy148) ?hn148; (case hw148 => rfl); (case hy148 => (go_simp; (try with_reducible rfl))); (try simp only [Act.put, List.setIfInBounds_toArray, List.set_cons_zero, List.set_cons_succ]))
                        (refine TG.load (v := ?v149) (p := ?p149) (by simp only [List.getElem?_toArray, List.getElem?_cons_succ, List.getElem?_cons_zero]; rfl) rfl ?hw149 rfl ?hx149 (fun wq hSq => ?hy149) ?hn149; (case hw149 => rfl); (case hx149 => (simp only [Act.eval, Array.getD_eq_getD_getElem?, List.getElem?_toArray, List.getElem?_cons_succ, List.getElem?_cons_zero, Option.getD_some]; (try rfl))); (case hy149 => (have kwq := hSq.at kw (by intro hT; first | exact hT | exact absurd hT (by assumption) | omega | (simp only at hT; omega)); have klq := hSq.at kl (by intro hT; first | exact hT | exact absurd hT (by assumption) | omega | (simp only at hT; omega)); go_simp; (try with_reducible rfl))); (try simp only [Act.put, List.setIfInBounds_toArray, List.set_cons_zero, List.set_cons_succ]))
                        (refine TG.v0 (v := ?v150) (by simp only [List.getElem?_toArray, List.getElem?_cons_succ, List.getElem?_cons_zero]; rfl) rfl ?hw150 (fun w1 => ?hy150) ?hn150; (case hw150 => rfl); (case hy150 => (go_simp; (try with_reducible rfl))); (try simp only [Act.put, List.setIfInBounds_toArray, List.set_cons_zero, List.set_cons_succ]))
                        (refine TG.v0 (v := ?v151) (by simp only [List.getElem?_toArray, List.getElem?_cons_succ, List.getElem?_cons_zero]; rfl) rfl ?hw151 (fun w1 => ?hy151) ?hn151; (case hw151 => rfl); (case hy151 => (go_simp; (try with_reducible rfl))); (try simp only [Act.put, List.setIfInBounds_toArray, List.set_cons_zero, List.set_cons_succ]))
                        (refine TG.v0 (v := ?v152) (by simp only [List.getElem?_toArray, List.getElem?_cons_succ, List.getElem?_cons_zero]; rfl) rfl ?hw152 (fun w1 => ?hy152) ?hn152; (case hw152 => rfl); (case hy152 => (go_simp; (try with_reducible rfl))); (try simp only [Act.put, List.setIfInBounds_toArray, List.set_cons_zero, List.set_cons_succ]))
                        (refine TG.v0 (v := ?v153) (by simp only [List.getElem?_toArray, List.getElem?_cons_succ, List.getElem?_cons_zero]; rfl) rfl ?hw153 (fun w1 => ?hy153) ?hn153; (case hw153 => rfl); (case hy153 => (go_simp; (try with_reducible rfl))); (try simp only [Act.put, List.setIfInBounds_toArray, List.set_cons_zero, List.set_cons_succ]))
                        (refine TG.load (v := ?v154) (p := ?p154) (by simp only [List.getElem?_toArray, List.getElem?_cons_succ, List.getElem?_cons_zero]; rfl) rfl ?hw154 rfl ?hx154 (fun wq hSq => ?hy154) ?hn154; (case hw154 => rfl); (case hx154 => (simp only [Act.eval, Array.getD_eq_getD_getElem?, List.getElem?_toArray, List.getElem?_cons_succ, List.getElem?_cons_zero, Option.getD_some]; (try rfl))); (case hy154 => (have kwq := hSq.at kw (by intro hT; first | exact hT | exact absurd hT (by assumption) | omega | (simp only at hT; omega)); have klq := hSq.at kl (by intro hT; first | exact hT | exact absurd hT (by assumption) | omega | (simp only at hT; omega)); go_simp; (try with_reducible rfl))); (try simp only [Act.put, List.setIfInBounds_toArray, List.set_cons_zero, List.set_cons_succ]))
                        (refine TG.v0 (v := ?v155) (by simp only [List.getElem?_toArray, List.getElem?_cons_succ, List.getElem?_cons_zero]; rfl) rfl ?hw155 (fun w1 => ?hy155) ?hn155; (case hw155 => rfl); (case hy155 => (go_simp; (try with_reducible rfl))); (try simp only [Act.put, List.setIfInBounds_toArray, List.set_cons_zero, List.set_cons_succ]))
                        (refine TG.v0 (v := ?v156) (by simp only [List.getElem?_toArray, List.getElem?_cons_succ, List.getElem?_cons_zero]; rfl) rfl ?hw156 (fun w1 => ?hy156) ?hn156; (case hw156 => rfl); (case hy156 => (go_simp; (try with_reducible rfl))); (try simp only [Act.put, List.setIfInBounds_toArray, List.set_cons_zero, List.set_cons_succ]))
                        (refine TG.load (v := ?v157) (p := ?p157) (by simp only [List.getElem?_toArray, List.getElem?_cons_succ, List.getElem?_cons_zero]; rfl) rfl ?hw157 rfl ?hx157 (fun wq hSq => ?hy157) ?hn157; (case hw157 => rfl); (case hx157 => (simp only [Act.eval, Array.getD_eq_getD_getElem?, List.getElem?_toArray, List.getElem?_cons_succ, List.getElem?_cons_zero, Option.getD_some]; (try rfl))); (case hy157 => (have kwq := hSq.at kw (by intro hT; first | exact hT | exact absurd hT (by assumption) | omega | (simp only at hT; omega)); have klq := hSq.at kl (by intro hT; first | exact hT | exact absurd hT (by assumption) | omega | (simp only at hT; omega)); go_simp; (try with_reducible rfl))); (try simp only [Act.put, List.setIfInBounds_toArray, List.set_cons_zero, List.set_cons_succ]))
                        (refine TG.callN (f := ?f158) (args := ?r158) (fun v => v = .bool false) gK (by simp only [List.getElem?_toArray, List.getElem?_cons_succ, List.getElem?_cons_zero]; rfl) rfl ?hw158 (fun w1 => ?hy158) (fun T wq kq ltq hSq ub => ?hsp158) ?hn158; (case hw158 => rfl); (case hy158 => (go_simp; (first | with_reducible rfl | (constructor <;> with_reducible rfl)))); (case hsp158 => (have kwq := hSq.at kw (by intro hT; first | exact hT | exact absurd hT (by assumption) | omega | (simp only at hT; omega)); have klq := hSq.at kl (by intro hT; first | exact hT | exact absurd hT (by assumption) | omega | (simp only at hT; omega)); exact (conflict_c xa.s.a xb.s.a xa.s.l xb.s.l _ _ wq (SlAt.mod0 HC.out.1 ((HM6.out.then0 hm7).then0 (hSq.mono (fun _ _ h => h.elim)))) (SlAt.mod0 HC.out.2.2.1 ((HM6.out.then0 hm7).then0 (hSq.mono (fun _ _ h => h.elim)))) (by have := HC.out.2.1; omega) (by have := HC.out.2.2.2.1; omega)).mono (fun e w' h => ⟨_, h.1, by rw [HC.out.2.2.2.2], h.2⟩))); rintro v158 hC; obtain rfl := hC; (try simp only [Act.put, List.setIfInBounds_toArray, List.set_cons_zero, List.set_cons_succ]))
                        (refine TG.v0 (v := ?v159) (by simp only [List.getElem?_toArray, List.getElem?_cons_succ, List.getElem?_cons_zero]; rfl) rfl ?hw159 (fun w1 => ?hy159) ?hn159; (case hw159 => rfl); (case hy159 => (go_simp; (try with_reducible rfl))); (try simp only [Act.put, List.setIfInBounds_toArray, List.set_cons_zero, List.set_cons_succ]))
                        refine TG.nil (fun w7 ⟨TR, hr⟩ => ?_)
                        have kw := hr.mod.at kw (by intro hT; first | exact hT | exact absurd hT (by assumption) | omega | (simp only at hT; omega))
                        have kl := hr.mod.at kl (by intro hT; first | exact hT | exact absurd hT (by assumption) | omega | (simp only at hT; omega))
                        clear gK
                        have m7 := hm7.then0 hr.mod
                        clear hr
                        go_wp2_with fail
                        go_roundw
                        case rel => exact ⟨k + 1, by omega, by go_num, m7⟩
                        case measure => simp [intOf]; omega
                      · obtain rfl : k = i := by omega
                        have hdk : decide ((k : Int) < (k : Int)) = false := decide_eq_false (by omega)
                        clear hki
                        go_wp2_with fail
                        go_roundw
                        case rel => exact ⟨k + 1, by omega, by go_num, hm7⟩
                        case measure => simp [intOf]; omega
                  · obtain rfl : m = i := by omega
                    have hdi : decide ((m : Int) < (m : Int)) = false := decide_eq_false (by omega)
                    clear hlt
                    obtain ⟨q, hq2⟩ : ∃ q, decide (out.length < pk.length) = q := ⟨_, rfl⟩
                    have hq1 : decide ((out.length : Int) < (pk.length : Int)) = q := by
                      rw [← hq2]
                      exact decide_eq_decide.2 (by omega)
                    go_upto_if 122 with fail
                    have HQ := Lib.hid hq2
                    clear hq1 hq2
                    go_cut [11] from 123 to 131 (fun s11 wx => ∃ nn : Nat, nn < m ∧ s11 = .int .i64 nn ∧ Mod (fun _ => False) w6 wx)
                    case first =>
                      cases q with
                      | true =>
                        have hop : out.length < pk.length := of_decide_eq_true HQ.out
                        obtain ⟨p, hp⟩ : ∃ p, pk[out.length]? = some p := ⟨_, List.getElem?_eq_getElem hop⟩
                        obtain ⟨bp, op_, Cp, Vp, fp, rfl, kp, vp⟩ := u8_at (HX.out.mod0 (HM6.out.then0 hm7)) hp
                        have hp256 := p.toNat_lt
                        obtain ⟨nn, hnn⟩ : ∃ nn, p.toNat % m = nn := ⟨_, rfl⟩
                        have hlt : nn < m := by rw [← hnn]; exact Nat.mod_lt _ (by omega)
                        have hwb : IntKind.i64.wrap (p.toNat : Int) = (p.toNat : Int) := by
                          rw [IntKind.wrap_i64]
                          omega
                        have hw4 : (p.toNat : Int).tmod (m : Int) = (nn : Int) := by
                          rw [Int.tmod_eq_emod_of_nonneg (by omega), ← hnn]
                          omega
                        clear hp hnn
                        go_wp2_with fail
                        go_meet
                        exact ⟨nn, hlt, rfl, hm7⟩
                      | false =>
                        go_wp2_with fail
                        go_meet
                        exact ⟨0, hr0, rfl, hm7⟩
                    case rest =>
                      clear hm7
                      obtain ⟨nn, hnm, rfl, hm7⟩ := hcut
                      obtain ⟨z, hz⟩ : ∃ z, (readyR K)[nn]? = some z := ⟨_, List.getElem?_eq_getElem (by rw [HMM.out]; exact hnm)⟩
                      obtain ⟨j, hj, hzj⟩ := HO.out.at (List.mem_of_getElem? hz)
                      obtain ⟨X, x, Y, hKe, hxid, hbb, hO'⟩ := HO.out.popAt (by omega) hj (by rw [← hzj]; exact List.mem_of_getElem? hz)
                      have HZ := Lib.hid (And.intro hz (And.intro hzj hO'))
                      obtain ⟨bw, ow, Cw, Vw, fw, rfl, kw, v1⟩ := int_at (HW6.out.mod0 hm7) hz
                      clear hz hO'
                      have hpop := @popO_c g l.length K T wc (HA6.out.mod0 hm7) X Y x hKe hbb z.toInt (by rw [hxid, hzj]) (X ++ Y) rfl
                      clear hKe hxid hbb hzj
                      go_wp2_with fail
                      go_at_call 16
                      refine hpop.mono ?_
                      rintro e w7 ⟨rfl, hA7, hm8⟩
                      have hW7 := (HW6.out.mod0 hm7).mod hm8 (fun b o e => haw2.out b o e)
                      have hO7 := (HOO6.out.1.mod0 hm7).mod hm8 (fun b hb hT => by have h1 := (HOO6.out.2.2 b hb).1; have h2 := HT.out.2 b hT; omega)
                      have HA7 := Lib.hid hA7
                      have HM7 := Lib.hid ((HM6.out.then0 hm7).then hm8 (fun i hi h => by have := HT.out.1 i h; omega))
                      have hbs7 : base ≤ w7.heap.size := Nat.le_trans hbs6 (Nat.le_trans hm7.size hm8.size)
                      have kw7 := hm8.at kw (haw2.out _ _ rfl)
                      clear hA7 hm8 kw hm7 hW7
                      have hbs := bsInt z w7
                      have mal := (Mod.refl (fun _ => False) w7).alloc (.cells (ic z) 3)
                      have hone := oneInt w7 z
                      obtain ⟨v8, w8, hap, hO8, hma, _⟩ := SlOwn.append intT (q := [z]) (c := 1) (hO7.mod0 mal) hone (by simp only [List.length_singleton, List.length_map]; omega) (by decide) (Nat.le_trans hbs7 mal.size) 36
                      have hap : (Builtin.append_ #[36, 36] 36 #[.slice ao out.length co, .slice (some ⟨w7.heap.size, 0, none⟩) 1 1]).run Try.prog _ = _ := hap
                      have hol := hO7.lt
                      have hA8 := (HA7.out.mod0 mal).mod hma (fun i hi e => by have h1 := HT.out.2 i hi; have h2 := (hol i e).1; omega)
                      have m8 := (HM7.out.then0 mal).then hma (fun i hi e => by have h2 := (hol i e).1; have h3 := HBW.out; omega)
                      have hbs8 : base ≤ w8.heap.size := Nat.le_trans hbs7 (Nat.le_trans mal.size hma.size)
                      rw [show out.map idn ++ [z] = (out ++ [j]).map idn by rw [HZ.out.2.1]; simp] at hO8
                      obtain ⟨a8, c8, rfl, _⟩ := hO8.at intT
                      rw [show ((out ++ [j]).map idn).length = out.length + 1 by simp] at hO8
                      have HA8 := Lib.hid hA8
                      have HM8 := Lib.hid m8
                      have HO8 := Lib.hid hO8
                      have HO' := Lib.hid HZ.out.2.2
                      have hms : l.length - slLen (Value.slice a8 (out.length + 1) c8) < l.length - slLen (Value.slice ao out.length co) := by
                        simp only [slLen]
                        omega
                      clear hA8 m8 hma hone mal hO8 hO7 hol
                      go_upto_region 27 with fail
                      refine region_seq 8 rfl ?_
                      simp only [List.range, List.range.loop]
                      (refine sq_val (v := ?v160) (by simp only [List.getElem?_toArray, List.getElem?_cons_succ, List.getElem?_cons_zero]; rfl) ?hw160 ?hy160 ?hn160; (case hw160 => rfl); (case hy160 => (go_simp; (try with_reducible rfl))); (try simp only [Act.put, List.setIfInBounds_toArray, List.set_cons_zero, List.set_cons_succ]))
                      (refine sq_val (v := ?v161) (by simp only [List.getElem?_toArray, List.getElem?_cons_succ, List.getElem?_cons_zero]; rfl) ?hw161 ?hy161 ?hn161; (case hw161 => rfl); (case hy161 => (go_simp; (try with_reducible rfl))); (try simp only [Act.put, List.setIfInBounds_toArray, List.set_cons_zero, List.set_cons_succ]))
                      (refine sq_val (v := ?v162) (by simp only [List.getElem?_toArray, List.getElem?_cons_succ, List.getElem?_cons_zero]; rfl) ?hw162 ?hy162 ?hn162; (case hw162 => rfl); (case hy162 => (go_simp; (try with_reducible rfl))); (try simp only [Act.put, List.setIfInBounds_toArray, List.set_cons_zero, List.set_cons_succ]))
                      (refine sq_val (v := ?v163) (by simp only [List.getElem?_toArray, List.getElem?_cons_succ, List.getElem?_cons_zero]; rfl) ?hw163 ?hy163 ?hn163; (case hw163 => rfl); (case hy163 => (go_simp; (try with_reducible rfl))); (try simp only [Act.put, List.setIfInBounds_toArray, List.set_cons_zero, List.set_cons_succ]))
                      (refine sq_load (v := ?v164) (p := ?p164) (by simp only [List.getElem?_toArray, List.getElem?_cons_succ, List.getElem?_cons_zero]; rfl) ?hw164 rfl ?hx164 ?hy164 ?hn164; (case hw164 => rfl); (case hx164 => (simp only [Act.eval, Array.getD_eq_getD_getElem?, List.getElem?_toArray, List.getElem?_cons_succ, List.getElem?_cons_zero, Option.getD_some]; (try rfl))); (case hy164 => (go_simp; (try with_reducible rfl))); (try simp only [Act.put, List.setIfInBounds_toArray, List.set_cons_zero, List.set_cons_succ]))
                      (refine sq_build (by simp only [List.getElem?_toArray, List.getElem?_cons_succ, List.getElem?_cons_zero]; rfl) ?hw165 rfl ?hx165 hbs ?hn165; (case hw165 => rfl); (case hx165 => (simp only [List.map_toArray, List.map_cons, List.map_nil, Act.eval, Array.getD_eq_getD_getElem?, List.getElem?_toArray, List.getElem?_cons_succ, List.getElem?_cons_zero, Option.getD_some]; (try rfl))); (try simp only [Act.put, List.setIfInBounds_toArray, List.set_cons_zero, List.set_cons_succ]))
                      (refine sq_append (by simp only [List.getElem?_toArray, List.getElem?_cons_succ, List.getElem?_cons_zero]; rfl) ?hw166 rfl ?hx166 ?hz166 hap ?hn166; (case hw166 => rfl); (case hx166 => (simp only [Act.eval, Array.getD_eq_getD_getElem?, List.getElem?_toArray, List.getElem?_cons_succ, List.getElem?_cons_zero, Option.getD_some]; (try rfl))); (case hz166 => (simp only [Act.eval, Array.getD_eq_getD_getElem?, List.getElem?_toArray, List.getElem?_cons_succ, List.getElem?_cons_zero, Option.getD_some]; (try rfl))); (try simp only [Act.put, List.setIfInBounds_toArray, List.set_cons_zero, List.set_cons_succ]))
                      (refine sq_val (v := ?v167) (by simp only [List.getElem?_toArray, List.getElem?_cons_succ, List.getElem?_cons_zero]; rfl) ?hw167 ?hy167 ?hn167; (case hw167 => rfl); (case hy167 => (go_simp; (try with_reducible rfl))); (try simp only [Act.put, List.setIfInBounds_toArray, List.set_cons_zero, List.set_cons_succ]))
                      refine sq_nil ?_
                      clear hap hbs
                      go_wp2_with fail
                      go_roundw
                      case rel => exact ⟨out ++ [j], X ++ Y, HO', HA8, HO8.out, hbs8, HM8⟩
                      case measure => exact hms
theorem orderLaw_s (a : Option Addr) (l : List Ac) (c : Nat) (a2 : Option Addr) (x : List UInt8) (c2 : Nat) (w : World) (hl : SlAt acv 3 w a l) (ho : ∀ y ∈ l, AcOk w y) (hz : l.length * 40 ≤ reachBytes) (hb : ∀ y, a = some y → y.block < w.heap.size ∨ l = []) (hx : l.length ≤ maxLen)
    (hl2 : SlAt u8c 1 w a2 x) (ho2 : ∀ y ∈ x, True) (hz2 : x.length * 1 ≤ reachBytes) (hb2 : ∀ y, a2 = some y → y.block < w.heap.size ∨ x = []) (hx2 : x.length ≤ maxLen) :
    Calls Try.prog 6 #[.slice a l.length c, .slice a2 x.length c2] w fun e w' => e = .returned (.bool true) ∧ Mod (fun _ => False) w w' :=
  orderLaw_c a l c a2 x c2 w hl hb (by simp only [reachBytes] at hz; omega) ho hl2 hb2 (by simp only [reachBytes] at hz2; omega)
end Go.Proofs.Ytffcnnogkpdinaa
