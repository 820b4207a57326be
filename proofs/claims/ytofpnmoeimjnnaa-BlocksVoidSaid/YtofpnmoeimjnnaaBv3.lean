/- Blocks: errors, Open, End. -/
import Derived.Test.YtofpnmoeimjnnaaBv2
namespace Go.Proofs.Ytofpnmoeimjnnaa
open Go.RowKit
open Go.ChangeMaps (setBlock)
set_option linter.unusedSimpArgs false
set_option linter.unusedVariables false
attribute [local go_sem ↓] wlKey ldKey stKey wlAcct ldAcct stAcct wlHold ldHold stHold wlHash ldHash stHash wlSig ldSig stSig wlLim ldLim stLim wlRdy ldRdy stRdy wlOut ldOut stOut wlTd ldTd stTd wlTx ldTx stTx eqKey1
attribute [local go_sem] eqMap neMap av_size av_all av_one hd_size hd_key hd_acct hd_all hd_one zKey_size zAcct_size zHold_size zHash_size zSg_size zLim_size zRdy_size zOut_size zTried_size zTx_size cell_blk frozen_blk kc_ext one_int one_bool one_ptr one_slice one_map kc_one kc_one0 kc_size sgc_size sgc_ext sgc_one0 sgc_one' rdr_size rdr_all rdr_one rdr_tx rdr_rec rdr0 rdr1 rdr41 rdr0' rdr1' rdr41' ocr_size ocr_all ocr_one ocr2 ocr3 ocr4 ocr5 ocr2' ocr3' ocr4' ocr5' tdr_size tdr_all tdr_one tdr_r tdr_o tdr_tx tdr_rec tdr0 tdr1 tdr41 tdr50 tdr51 tdr52 tdr53 tdr0' tdr1' tdr41' tdr50' tdr51' tdr52' tdr53' txr_size txr_all txr_one txr0 txr38 txr39 txr0' txr38' txr39' Value.cells
theorem ern_at {w : World} {a : Option Addr} {l : List Nat} (h : SlAt ern 1 w a l) {i : Nat} {x : Nat} (hx : l[i]? = some x) : ∃ b o C U fr, a = some ⟨b, o, none⟩ ∧ w.heap[b]? = some (.cells C U fr) ∧ C[o + i]? = some (.int .i64 (x : Int)) := by
  obtain ⟨b, o, C, U, fr, rfl, hk, he, _⟩ := h.block hx
  refine ⟨b, o, C, U, fr, rfl, hk, ?_⟩
  have := cellC he (j := 0) (v := .int .i64 (x : Int)) rfl
  simpa using this
theorem take_eq_ern {l1 l2 : List Nat} {i : Nat} {x : Nat} (h : l1.take i = l2.take i) (h1 : l1[i]? = some x) (h2 : l2[i]? = some x) : l1.take (i + 1) = l2.take (i + 1) := by
  rw [List.take_add_one, List.take_add_one, h, h1, h2]
set_option maxRecDepth 20000 in
set_option maxHeartbeats 1600000 in
theorem errors_c (a b : Option Addr) (l1 l2 : List Nat) (c1 c2 : Nat) (w : World) (h1 : SlAt ern 1 w a l1) (h2 : SlAt ern 1 w b l2) (n1 : l1.length ≤ 100000) (n2 : l2.length ≤ 100000) :
    Calls Try.prog 14 #[.slice a l1.length c1, .slice b l2.length c2] w fun e w' => e = .returned (.bool (decide (l1 = l2))) ∧ Mod (fun _ => False) w w' := by
  have H1 := Lib.hid h1
  have H2 := Lib.hid h2
  clear h1 h2
  go_enter Try.func14, Try.ntmps14
  go_wp2_with fail
  go_loopw [5] (fun s5 ws => ∃ i : Nat, i ≤ l1.length ∧ i ≤ l2.length ∧ s5 = .int .i64 i ∧ Hid (l1.take i = l2.take i) ∧ Mod (fun _ => False) w ws) (fun s5 _ => l1.length - (intOf s5).toNat)
  case atStart => exact ⟨0, Nat.zero_le _, Nat.zero_le _, rfl, Lib.hid (by simp), Mod.refl _ _⟩
  case round =>
    obtain ⟨i, hi1, hi2, rfl, HT, hm⟩ := hrel
    by_cases hl1 : i < l1.length
    · have hd1 := decide_eq_true hl1
      by_cases hl2 : i < l2.length
      · have hd2 := decide_eq_true hl2
        obtain ⟨x, hx⟩ : ∃ x, l1[i]? = some x := ⟨_, List.getElem?_eq_getElem hl1⟩
        obtain ⟨y, hy⟩ : ∃ y, l2[i]? = some y := ⟨_, List.getElem?_eq_getElem hl2⟩
        obtain ⟨b1, o1, C1, U1, f1, rfl, k1, v1⟩ := ern_at (H1.out.mod0 hm) hx
        obtain ⟨b2, o2, C2, U2, f2, rfl, k2, v2⟩ := ern_at (H2.out.mod0 hm) hy
        have HX := Lib.hid (And.intro hx hy)
        clear hx hy
        go_upto_region 4 with fail
        have Lk1 := lt_size k1
        have Lk2 := lt_size k2
        refine wp_pass (C := fun _ _ _ => False) (κ := fun i => [0, 0, 0, 1, 0, 0, 0, 1, 0].getD i 0) [0, 1, 2, 3, 4, 5, 6, 7, 8] (by kernel_rfl) (by kernel_rfl) (fun _ _ d _ _ h => by cases d <;> first | exact h | exact absurd h (hP _ _ _)) ?_
        (refine TD.val0 (v := ?v1) (by simp only [zA, zB, zC]; rfl) rfl ?hw1 (fun w1 => ?hy1) ?hn1; (case hw1 => rfl); (case hy1 => (go_simp; (try with_reducible rfl))); (try simp only [Act.put, zF, zG, zH]))
        (refine TD.val0 (v := ?v2) (by simp only [zA, zB, zC]; rfl) rfl ?hw2 (fun w1 => ?hy2) ?hn2; (case hw2 => rfl); (case hy2 => (go_simp; (try with_reducible rfl))); (try simp only [Act.put, zF, zG, zH]))
        (refine TD.val0 (v := ?v3) (by simp only [zA, zB, zC]; rfl) rfl ?hw3 (fun w1 => ?hy3) ?hn3; (case hw3 => rfl); (case hy3 => (go_simp; (try with_reducible rfl))); (try simp only [Act.put, zF, zG, zH]))
        (refine TD.load (v := ?v4) (p := ?p4) (Mod.refl _ _) (by simp only [zA, zB, zC]; rfl) rfl ?hw4 rfl ?hx4 (fun wq hSq => ?hy4) ?hn4; (case hw4 => rfl); (case hx4 => (simp only [Act.eval, zD, zA, zB, zC, zE]; (try rfl))); (case hy4 => (have k1q := hSq.at k1 (fun h => h); have k2q := hSq.at k2 (fun h => h); go_simp; (try with_reducible rfl))); (try simp only [Act.put, zF, zG, zH]))
        (refine TD.val0 (v := ?v5) (by simp only [zA, zB, zC]; rfl) rfl ?hw5 (fun w1 => ?hy5) ?hn5; (case hw5 => rfl); (case hy5 => (go_simp; (try with_reducible rfl))); (try simp only [Act.put, zF, zG, zH]))
        (refine TD.val0 (v := ?v6) (by simp only [zA, zB, zC]; rfl) rfl ?hw6 (fun w1 => ?hy6) ?hn6; (case hw6 => rfl); (case hy6 => (go_simp; (try with_reducible rfl))); (try simp only [Act.put, zF, zG, zH]))
        (refine TD.val0 (v := ?v7) (by simp only [zA, zB, zC]; rfl) rfl ?hw7 (fun w1 => ?hy7) ?hn7; (case hw7 => rfl); (case hy7 => (go_simp; (try with_reducible rfl))); (try simp only [Act.put, zF, zG, zH]))
        (refine TD.load (v := ?v8) (p := ?p8) (Mod.refl _ _) (by simp only [zA, zB, zC]; rfl) rfl ?hw8 rfl ?hx8 (fun wq hSq => ?hy8) ?hn8; (case hw8 => rfl); (case hx8 => (simp only [Act.eval, zD, zA, zB, zC, zE]; (try rfl))); (case hy8 => (have k1q := hSq.at k1 (fun h => h); have k2q := hSq.at k2 (fun h => h); go_simp; (try with_reducible rfl))); (try simp only [Act.put, zF, zG, zH]))
        (refine TD.val0 (v := ?v9) (by simp only [zA, zB, zC]; rfl) rfl ?hw9 (fun w1 => ?hy9) ?hn9; (case hw9 => rfl); (case hy9 => (go_simp; (try with_reducible rfl))); (try simp only [Act.put, zF, zG, zH]))
        refine TD.nil (fun w3 hr => ?_)
        have k1 := hr.mod.at k1 (fun h => h)
        have k2 := hr.mod.at k2 (fun h => h)
        have m3 := hm.then0 hr.mod
        clear hr
        by_cases hxy : x = y
        · have HE := Lib.hid hxy
          have hne : ((x : Int) != (y : Int)) = false := by rw [hxy]; simp
          have HTT := Lib.hid (take_eq_ern HT.out HX.out.1 (by rw [HX.out.2, hxy]))
          clear hxy
          go_wp2_with fail
          go_roundw
          case rel => exact ⟨i + 1, by omega, by omega, by go_num, HTT, m3⟩
          case measure => simp [intOf]; omega
        · have hne : ((x : Int) != (y : Int)) = true := by
            rw [bne_iff_ne]
            intro e
            exact hxy (by omega)
          have HE : Hid (l1 ≠ l2) := Lib.hid (fun e => by
            have h1 := HX.out.1
            rw [e, HX.out.2] at h1
            exact hxy (Option.some.inj h1).symm)
          clear hxy
          go_wp2_with fail
          go_ret
          exact ⟨by rw [decide_eq_false HE.out]; rfl, m3⟩
      · have hd2 := decide_eq_false hl2
        have HE : Hid (l1 ≠ l2) := Lib.hid (fun e => by rw [e] at hl1; exact hl2 hl1)
        have hne : ((l1.length : Int) == (l2.length : Int)) = false := by
          rw [beq_eq_false_iff_ne]
          omega
        go_wp2_with fail
        go_ret
        exact ⟨by rw [decide_eq_false HE.out]; rfl, hm⟩
    · have hd1 := decide_eq_false hl1
      have HI : Hid (i = l1.length) := Lib.hid (by omega)
      by_cases hle : l1.length = l2.length
      · have hne : ((l1.length : Int) == (l2.length : Int)) = true := by
          rw [beq_iff_eq]
          omega
        have HE : Hid (l1 = l2) := Lib.hid (by
          have h1 := HT.out
          rw [HI.out, List.take_length, hle, List.take_length] at h1
          exact h1)
        clear hle
        go_wp2_with fail
        go_ret
        exact ⟨by rw [decide_eq_true HE.out]; rfl, hm⟩
      · have hne : ((l1.length : Int) == (l2.length : Int)) = false := by
          rw [beq_eq_false_iff_ne]
          omega
        have HE : Hid (l1 ≠ l2) := Lib.hid (fun e => hle (by rw [e]))
        clear hle
        go_wp2_with fail
        go_ret
        exact ⟨by rw [decide_eq_false HE.out]; rfl, hm⟩
theorem openS_c (s q n : Nat) (L : Lim) (w : World) : Calls Try.prog 21 #[.pointer none, ptrV q, ptrV n, .agg #[u64v L.b, u64v L.a, u64v L.s]] w fun e w' => e = .returned (.tuple #[.pointer none, .int .i64 2]) ∧ Mod (fun _ => False) w w' := by
  go_enter Try.func21, Try.ntmps21
  go_upto_region 0 with fail
  refine wp_pass0 (C := fun _ _ _ => False) (κ := fun i => [3, 0, 0].getD i 0) [0, 1, 2] (by kernel_rfl) (by kernel_rfl) (fun _ _ d _ _ h => by cases d <;> first | exact h | exact absurd h (hP _ _ _)) ?_
  (refine TD.box (v := ?v10) (by simp only [zA, zB, zC]; rfl) rfl ?hw10 rfl rfl ?hx10 (fun p7 hp7 => ?hn10); (case hw10 => rfl); (case hx10 => (simp only [Act.eval, zD, zA, zB, zC, zE]; (try rfl))); (try simp only [Act.put, zF, zG, zH]))
  (refine TD.val0 (v := ?v11) (by simp only [zA, zB, zC]; rfl) rfl ?hw11 (fun w1 => ?hy11) ?hn11; (case hw11 => rfl); (case hy11 => (go_simp; (try with_reducible rfl))); (try simp only [Act.put, zF, zG, zH]))
  (refine TD.val0 (v := ?v12) (by simp only [zA, zB, zC]; rfl) rfl ?hw12 (fun w1 => ?hy12) ?hn12; (case hw12 => rfl); (case hy12 => (go_simp; (try with_reducible rfl))); (try simp only [Act.put, zF, zG, zH]))
  refine TD.nil (fun w1 hr => ?_)
  have kp7 := hr.box p7 _ (by first | exact Bx.set_same _ _ _ | (simp only [Bx.set_same]; rfl)); dsimp only [Value.cells] at kp7; obtain ⟨gp7, kp7⟩ := kp7
  have m1 := hr.mod
  go_wp2_with fail
  go_ret2
  exact ⟨rfl, m1⟩
theorem openQ_c (s q n : Nat) (L : Lim) (w : World) : Calls Try.prog 21 #[ptrV s, .pointer none, ptrV n, .agg #[u64v L.b, u64v L.a, u64v L.s]] w fun e w' => e = .returned (.tuple #[.pointer none, .int .i64 2]) ∧ Mod (fun _ => False) w w' := by
  go_enter Try.func21, Try.ntmps21
  go_upto_region 0 with fail
  refine wp_pass0 (C := fun _ _ _ => False) (κ := fun i => [3, 0, 0].getD i 0) [0, 1, 2] (by kernel_rfl) (by kernel_rfl) (fun _ _ d _ _ h => by cases d <;> first | exact h | exact absurd h (hP _ _ _)) ?_
  (refine TD.box (v := ?v13) (by simp only [zA, zB, zC]; rfl) rfl ?hw13 rfl rfl ?hx13 (fun p7 hp7 => ?hn13); (case hw13 => rfl); (case hx13 => (simp only [Act.eval, zD, zA, zB, zC, zE]; (try rfl))); (try simp only [Act.put, zF, zG, zH]))
  (refine TD.val0 (v := ?v14) (by simp only [zA, zB, zC]; rfl) rfl ?hw14 (fun w1 => ?hy14) ?hn14; (case hw14 => rfl); (case hy14 => (go_simp; (try with_reducible rfl))); (try simp only [Act.put, zF, zG, zH]))
  (refine TD.val0 (v := ?v15) (by simp only [zA, zB, zC]; rfl) rfl ?hw15 (fun w1 => ?hy15) ?hn15; (case hw15 => rfl); (case hy15 => (go_simp; (try with_reducible rfl))); (try simp only [Act.put, zF, zG, zH]))
  refine TD.nil (fun w1 hr => ?_)
  have kp7 := hr.box p7 _ (by first | exact Bx.set_same _ _ _ | (simp only [Bx.set_same]; rfl)); dsimp only [Value.cells] at kp7; obtain ⟨gp7, kp7⟩ := kp7
  have m1 := hr.mod
  go_wp2_with fail
  go_ret2
  exact ⟨rfl, m1⟩
theorem openN_c (s q n : Nat) (L : Lim) (w : World) : Calls Try.prog 21 #[ptrV s, ptrV q, .pointer none, .agg #[u64v L.b, u64v L.a, u64v L.s]] w fun e w' => e = .returned (.tuple #[.pointer none, .int .i64 2]) ∧ Mod (fun _ => False) w w' := by
  go_enter Try.func21, Try.ntmps21
  go_upto_region 0 with fail
  refine wp_pass0 (C := fun _ _ _ => False) (κ := fun i => [3, 0, 0].getD i 0) [0, 1, 2] (by kernel_rfl) (by kernel_rfl) (fun _ _ d _ _ h => by cases d <;> first | exact h | exact absurd h (hP _ _ _)) ?_
  (refine TD.box (v := ?v16) (by simp only [zA, zB, zC]; rfl) rfl ?hw16 rfl rfl ?hx16 (fun p7 hp7 => ?hn16); (case hw16 => rfl); (case hx16 => (simp only [Act.eval, zD, zA, zB, zC, zE]; (try rfl))); (try simp only [Act.put, zF, zG, zH]))
  (refine TD.val0 (v := ?v17) (by simp only [zA, zB, zC]; rfl) rfl ?hw17 (fun w1 => ?hy17) ?hn17; (case hw17 => rfl); (case hy17 => (go_simp; (try with_reducible rfl))); (try simp only [Act.put, zF, zG, zH]))
  (refine TD.val0 (v := ?v18) (by simp only [zA, zB, zC]; rfl) rfl ?hw18 (fun w1 => ?hy18) ?hn18; (case hw18 => rfl); (case hy18 => (go_simp; (try with_reducible rfl))); (try simp only [Act.put, zF, zG, zH]))
  refine TD.nil (fun w1 hr => ?_)
  have kp7 := hr.box p7 _ (by first | exact Bx.set_same _ _ _ | (simp only [Bx.set_same]; rfl)); dsimp only [Value.cells] at kp7; obtain ⟨gp7, kp7⟩ := kp7
  have m1 := hr.mod
  go_wp2_with fail
  go_ret2
  exact ⟨rfl, m1⟩
theorem TrAt.mod {w w' : World} {t m : Nat} {L : Lim} {b s : UInt64} {l : List (Key × UInt64)} {S : Nat → Prop} (h : TrAt w t m L b s l) (hm : Mod S w w') (h1 : ¬ S t) (h2 : ¬ S m) : TrAt w' t m L b s l := by
  obtain ⟨kp, es, c, kb, M⟩ := h
  exact ⟨hm.at kp h1, es, c, hm.at kb h2, M⟩
theorem TrAt.mod0 {w w' : World} {t m : Nat} {L : Lim} {b s : UInt64} {l : List (Key × UInt64)} (h : TrAt w t m L b s l) (hm : Mod (fun _ => False) w w') : TrAt w' t m L b s l := h.mod hm (fun h => h) (fun h => h)
theorem QuAt.mod {w w' : World} {q : Nat} {L : List Key} {S : Nat → Prop} (h : QuAt w q L) (hm : Mod S w w') (h1 : ¬ S q) : QuAt w' q L := by
  obtain ⟨R, nx, k, hq⟩ := h
  exact ⟨R, nx, hm.at k h1, hq⟩
theorem QuAt.mod0 {w w' : World} {q : Nat} {L : List Key} (h : QuAt w q L) (hm : Mod (fun _ => False) w w') : QuAt w' q L := h.mod hm (fun h => h)
theorem SgL.mod {T S : Nat → Prop} {w w' : World} {v : Value} (h : SgL T w v) (hm : Mod S w w') (hS : ∀ i, T i → ¬ S i) : SgL T w' v := by
  rcases h with h | ⟨g, n, c, cur, h1, h2, h3, h4, h5⟩
  · exact .inl h
  · exact .inr ⟨g, n, c, cur, h1, h2, h3, hm.at h4 (hS g h3), h5⟩
theorem SgL.mono {T T' : Nat → Prop} {w : World} {v : Value} (h : SgL T w v) (hT : ∀ i, T i → T' i) : SgL T' w v := by
  rcases h with h | ⟨g, n, c, cur, h1, h2, h3, h4⟩
  · exact .inl h
  · exact .inr ⟨g, n, c, cur, h1, h2, hT g h3, h4⟩
theorem SeAt.mod {T S : Nat → Prop} {w w' : World} {n : Nat} {l : List (Sg × Key)} (h : SeAt T w n l) (hm : Mod S w w') (hS : ∀ i, T i → ¬ S i) : SeAt T w' n l := by
  obtain ⟨a, b, es, c, es2, c2, m2, h1, h2, h3, h4, h5, h6, t1, t2, t3, h7⟩ := h.ex
  exact ⟨a, b, es, c, es2, c2, m2, hm.at h1 (hS _ t1), hm.at h2 (hS _ t2), h3, hm.at h4 (hS _ t3), h5, h6, t1, t2, t3, fun p hp => (h7 p hp).mod hm hS⟩
theorem SeAt.mod0 {T : Nat → Prop} {w w' : World} {n : Nat} {l : List (Sg × Key)} (h : SeAt T w n l) (hm : Mod (fun _ => False) w w') : SeAt T w' n l := h.mod hm (fun _ _ h => h)
theorem SeAt.mono {T T' : Nat → Prop} {w : World} {n : Nat} {l : List (Sg × Key)} (h : SeAt T w n l) (hT : ∀ i, T i → T' i) : SeAt T' w n l := by
  obtain ⟨a, b, es, c, es2, c2, m2, h1, h2, h3, h4, h5, h6, t1, t2, t3, h7⟩ := h.ex
  exact ⟨a, b, es, c, es2, c2, m2, h1, h2, h3, h4, h5, h6, hT _ t1, hT _ t2, hT _ t3, fun p hp => (h7 p hp).mono hT⟩
set_option maxHeartbeats 1600000 in
theorem open_c (s q n : Nat) (L : Lim) (w : World) : Calls Try.prog 21 #[ptrV s, ptrV q, ptrV n, .agg #[u64v L.b, u64v L.a, u64v L.s]] w fun e w' => ∃ b t m, e = .returned (.tuple #[ptrV b, .int .i64 0]) ∧ w.heap.size ≤ b ∧ w.heap.size ≤ t ∧ w.heap.size ≤ m ∧ w'.heap[b]? = some (.cells (blkC s q n t false none 0 0 none 0 0 0) 80 (0, 0)) ∧ TrAt w' t m L 0 0 [] ∧ Mod (fun _ => False) w w' := by
  have hg := bldGround s q n
  go_enter Try.func21, Try.ntmps21
  go_upto_region 0 with fail
  refine wp_pass0 (C := fun _ _ _ => False) (κ := fun i => [3, 0, 0].getD i 0) [0, 1, 2] (by kernel_rfl) (by kernel_rfl) (fun _ _ d _ _ h => by cases d <;> first | exact h | exact absurd h (hP _ _ _)) ?_
  (refine TD.box (v := ?v19) (by simp only [zA, zB, zC]; rfl) rfl ?hw19 rfl rfl ?hx19 (fun p7 hp7 => ?hn19); (case hw19 => rfl); (case hx19 => (simp only [Act.eval, zD, zA, zB, zC, zE]; (try rfl))); (try simp only [Act.put, zF, zG, zH]))
  (refine TD.val0 (v := ?v20) (by simp only [zA, zB, zC]; rfl) rfl ?hw20 (fun w1 => ?hy20) ?hn20; (case hw20 => rfl); (case hy20 => (go_simp; (try with_reducible rfl))); (try simp only [Act.put, zF, zG, zH]))
  (refine TD.val0 (v := ?v21) (by simp only [zA, zB, zC]; rfl) rfl ?hw21 (fun w1 => ?hy21) ?hn21; (case hw21 => rfl); (case hy21 => (go_simp; (try with_reducible rfl))); (try simp only [Act.put, zF, zG, zH]))
  refine TD.nil (fun w1 hr => ?_)
  have kp7 := hr.box p7 _ (by first | exact Bx.set_same _ _ _ | (simp only [Bx.set_same]; rfl)); dsimp only [Value.cells] at kp7; obtain ⟨gp7, kp7⟩ := kp7
  have m1 := hr.mod
  have hs1 := m1.size
  go_upto_region 3 with fail
  go_wp2_with fail
  go_at_call 50
  refine (newT_c L _).mono ?_
  rintro e w2 ⟨t, m, rfl, ht, hm, hT, m2⟩
  have hb := bldBlock s q n t
  go_wp2_with fail
  go_ret2
  have hs2 := m2.size
  exact ⟨w2.heap.size, t, m, rfl, by omega, by omega, by omega, heap_alloc_new _ _, hT.mod0 ((Mod.refl _ _).alloc _), (m1.then0 m2).alloc _⟩
set_option maxHeartbeats 1600000 in
theorem end_c {p s q n t : Nat} {ea : Option Addr} {en ec : Nat} {oa : Option Addr} {on oc : Nat} {f : UInt64} (w : World) (kp : w.heap[p]? = some (.cells (blkC s q n t false ea en ec oa on oc f) 80 (0, 0))) : Calls Try.prog 16 #[ptrV p] w fun e w' => e = .returned (.int .i64 0) ∧ w'.heap[p]? = some (.cells (blkC s q n t true ea en ec oa on oc f) 80 (0, 0)) ∧ Mod (fun i => i = p) w w' := by
  have KP := Lib.hid kp
  unfold blkC at kp
  go_enter Try.func16, Try.ntmps16
  go_wp2_with fail
  go_at_call 33
  refine (bthere_c _ KP.out).mono ?_
  rintro e w2 ⟨rfl, rfl⟩
  go_wp2_with fail
  go_ret
  rw [setCell_blk kp]
  exact ⟨rfl, heap_setBlock _ _ (lt_size kp), mod_set _ _ _⟩
theorem end2_c {p s q n t : Nat} {ea : Option Addr} {en ec : Nat} {oa : Option Addr} {on oc : Nat} {f : UInt64} (w : World) (kp : w.heap[p]? = some (.cells (blkC s q n t true ea en ec oa on oc f) 80 (0, 0))) : Calls Try.prog 16 #[ptrV p] w fun e w' => e = .returned (.int .i64 23) ∧ Mod (fun _ => False) w w' := by
  have KP := Lib.hid kp
  unfold blkC at kp
  go_enter Try.func16, Try.ntmps16
  go_wp2_with fail
  go_at_call 33
  refine (bthere_c _ KP.out).mono ?_
  rintro e w2 ⟨rfl, rfl⟩
  go_wp2_with fail
  go_ret
  exact ⟨rfl, Mod.refl _ _⟩
theorem ended_c {p s q n t : Nat} {b : Bool} {ea : Option Addr} {en ec : Nat} {oa : Option Addr} {on oc : Nat} {f : UInt64} (w : World) (kp : w.heap[p]? = some (.cells (blkC s q n t b ea en ec oa on oc f) 80 (0, 0))) : Calls Try.prog 17 #[ptrV p] w fun e w' => e = .returned (.bool b) ∧ Mod (fun _ => False) w w' := by
  have KP := Lib.hid kp
  unfold blkC at kp
  go_enter Try.func17, Try.ntmps17
  go_wp2_with fail
  go_at_call 33
  refine (bthere_c _ KP.out).mono ?_
  rintro e w2 ⟨rfl, rfl⟩
  go_wp2_with fail
  go_ret
  exact ⟨rfl, Mod.refl _ _⟩
end Go.Proofs.Ytofpnmoeimjnnaa
