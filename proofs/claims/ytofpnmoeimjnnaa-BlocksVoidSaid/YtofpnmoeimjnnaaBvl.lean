/- The law 'BlocksVoid', walked. -/
import Derived.Test.YtofpnmoeimjnnaaBv8
import Derived.Test.YtofpnmoeimjnnaaGr15
namespace Go.Proofs.Ytofpnmoeimjnnaa
open Go.RowKit
open Go.ChangeMaps (setBlock)
set_option linter.unusedSimpArgs false
set_option linter.unusedVariables false
attribute [local go_sem ↓] wlKey ldKey stKey wlAcct ldAcct stAcct wlHold ldHold stHold wlHash ldHash stHash wlSig ldSig stSig wlLim ldLim stLim wlRdy ldRdy stRdy wlOut ldOut stOut wlTd ldTd stTd wlTx ldTx stTx eqKey1
attribute [local go_sem] eqMap neMap av_size av_all av_one hd_size hd_key hd_acct hd_all hd_one zKey_size zAcct_size zHold_size zHash_size zSg_size zLim_size zRdy_size zOut_size zTried_size zTx_size cell_blk frozen_blk kc_ext one_int one_bool one_ptr one_slice one_map kc_one kc_one0 kc_size sgc_size sgc_ext sgc_one0 sgc_one' rdr_size rdr_all rdr_one rdr_tx rdr_rec rdr0 rdr1 rdr41 rdr0' rdr1' rdr41' ocr_size ocr_all ocr_one ocr2 ocr3 ocr4 ocr5 ocr2' ocr3' ocr4' ocr5' tdr_size tdr_all tdr_one tdr_r tdr_o tdr_tx tdr_rec tdr0 tdr1 tdr41 tdr50 tdr51 tdr52 tdr53 tdr0' tdr1' tdr41' tdr50' tdr51' tdr52' tdr53' txr_size txr_all txr_one txr0 txr38 txr39 txr0' txr38' txr39' Value.cells

/-- A list of errors in new memory. -/
def ErL (l : List Nat) : Value → Land := fun v T w => ∃ g, v = .slice (some ⟨g, 0, none⟩) l.length l.length ∧ T g ∧ SlAt ern 1 w (some ⟨g, 0, none⟩) l
theorem goodEr (l : List Nat) (v : Value) : Good (ErL l v) := ⟨fun T w w' ⟨g, h1, h2, h3⟩ hm => ⟨g, h1, h2, h3.mod hm (fun b o e h => by cases e; exact h h2)⟩, fun T T' w hT ⟨g, h1, h2, h3⟩ => ⟨g, h1, hT _ h2, h3⟩⟩
theorem slat_lt {α : Type} {f : α → Array Value} {n : Nat} {w : World} {g o : Nat} {l : List α} (h : SlAt f n w (some ⟨g, o, none⟩) l) (hl : 0 < l.length) : g < w.heap.size := by
  obtain ⟨b, o', C, U, fr, e, hk, _⟩ := h.block (List.getElem?_eq_getElem hl)
  cases e
  exact lt_size hk
theorem bsBlk (p : Nat) (w : World) : (Instr.buildSlice 81 2 #[(0, .pointer none), (1, ptrV p)]).run Try.prog w = .ok (.slice (some ⟨w.heap.size, 0, none⟩) 2 2) (w.alloc (.cells #[.pointer none, ptrV p] 36)) := by kernel_rfl
theorem alBlk (w : World) : (Instr.alloc 80 true (.tuple #[])).run Try.prog w = .ok (.pointer (some ⟨w.heap.size, 0, none⟩)) (w.alloc (.cells #[.pointer none, .pointer none, .pointer none, .pointer none, .bool false, .slice none 0 0, .slice none 0 0, .int .u64 0] 80)) := by kernel_rfl
def lim0 : Lim := ⟨0, 0, 0⟩
theorem openS0 (s q n : Nat) (w : World) : Calls Try.prog 21 #[.pointer none, ptrV q, ptrV n, .agg #[.int .u64 0, .int .u64 0, .int .u64 0]] w fun e w' => e = .returned (.tuple #[.pointer none, .int .i64 2]) ∧ Mod (fun _ => False) w w' := openS_c s q n lim0 w
theorem openQ0 (s q n : Nat) (w : World) : Calls Try.prog 21 #[ptrV s, .pointer none, ptrV n, .agg #[.int .u64 0, .int .u64 0, .int .u64 0]] w fun e w' => e = .returned (.tuple #[.pointer none, .int .i64 2]) ∧ Mod (fun _ => False) w w' := openQ_c s q n lim0 w
theorem openN0 (s q n : Nat) (w : World) : Calls Try.prog 21 #[ptrV s, ptrV q, .pointer none, .agg #[.int .u64 0, .int .u64 0, .int .u64 0]] w fun e w' => e = .returned (.tuple #[.pointer none, .int .i64 2]) ∧ Mod (fun _ => False) w w' := openN_c s q n lim0 w
set_option maxRecDepth 20000 in
set_option maxHeartbeats 6400000 in
theorem voidLaw_c (x : TdR) (w : World) (hk : TdOk w x) : Calls Try.prog 4 #[.agg (tdr x)] w fun e w' => e = .returned (.bool true) ∧ Mod (fun _ => False) w w' := by
  have HG := Lib.hid (And.intro hk.1.2.1.2.2.1 hk.1.2.1.2.2.2)
  clear hk
  go_enter Try.func4, Try.ntmps4
  go_upto_region 0 with fail
  refine wp_pass0 (C := fun _ _ _ => False) (κ := fun i => [3, 0].getD i 0) [0, 1] (by kernel_rfl) (by kernel_rfl) (fun _ _ d _ _ h => by cases d <;> first | exact h | exact absurd h (hP _ _ _)) ?_
  (refine TD.box (v := ?v1) (by simp only [zA, zB, zC]; rfl) rfl ?hw1 rfl rfl ?hx1 (fun p1 hp1 => ?hn1); (case hw1 => rfl); (case hx1 => (simp only [Act.eval, zD, zA, zB, zC, zE]; (try rfl))); (try simp only [Act.put, zF, zG, zH]))
  (refine TD.val0 (v := ?v2) (by simp only [zA, zB, zC]; rfl) rfl ?hw2 (fun w1 => ?hy2) ?hn2; (case hw2 => rfl); (case hy2 => (go_simp; (try with_reducible rfl))); (try simp only [Act.put, zF, zG, zH]))
  refine TD.nil (fun w1 hr => ?_)
  have kp1 := hr.box p1 _ (by first | exact Bx.set_same _ _ _ | (simp only [Bx.set_same]; rfl)); dsimp only [Value.cells] at kp1; obtain ⟨gp1, kp1⟩ := kp1
  have m1 := hr.mod
  clear hr
  go_wp2_with fail
  go_at_call 12
  refine (great15_c x.r _ (HG.out.1.1.mod0 m1) (HG.out.2.1.mod0 m1) (reach_small HG.out.1.2.2.1 (by omega)) (reach_small HG.out.2.2.2.1 (by omega))).mono ?_
  rintro e w2 ⟨b, rfl, -, m2⟩
  have kp1 := m2.at0 kp1
  have mm := m1.trans m2
  clear m1 m2
  cases b
  case true =>
    go_wp2_with fail
    go_at_call 6
    refine (lives_c _).mono ?_
    rintro e w4 ⟨rfl, m4⟩
    go_wp2_with fail
    go_ret
    exact ⟨rfl, mm.trans m4⟩
  case false =>
    go_upto_region 3 with fail
    have Lkp1 := lt_size kp1
    refine wp_pass0 (C := fun _ _ _ => False) (κ := fun i => [3].getD i 0) [0] (by kernel_rfl) (by kernel_rfl) (fun _ _ d _ _ h => by cases d <;> first | exact h | exact absurd h (hP _ _ _)) ?_
    (refine TD.allocB (by simp only [zA, zB, zC]; rfl) rfl ?hw3 rfl rfl alBlk (fun p3 hp3 => ?hn3); (case hw3 => rfl); (try simp only [Act.put, zF, zG, zH]))
    refine TD.nil (fun w3 hr => ?_)
    have kp1 := hr.mod.at kp1 (fun h => h)
    have kp3 := hr.box p3 _ (by first | exact Bx.set_same _ _ _ | (simp only [Bx.set_same]; rfl)); dsimp only [Value.cells] at kp3; obtain ⟨gp3, kp3⟩ := kp3
    have mm := mm.trans hr.mod
    clear hr
    have hbs := bsBlk p3
    go_upto_region 4 with fail
    have Lkp1 := lt_size kp1
    have Lkp3 := lt_size kp3
    refine wp_pass0 (C := fun _ _ _ => False) (κ := fun i => [3, 0].getD i 0) [0, 1] (by kernel_rfl) (by kernel_rfl) (fun _ _ d _ _ h => by cases d <;> first | exact h | exact absurd h (hP _ _ _)) ?_
    (refine TD.bslice (by simp only [zA, zB, zC]; rfl) rfl ?hw4 rfl rfl ?hx4 hbs (fun p18 hp18 => ?hn4); (case hw4 => rfl); (case hx4 => (simp only [List.map_toArray, List.map_cons, List.map_nil, Act.eval, zD, zA, zB, zC, zE]; (try rfl))); (try simp only [Act.put, zF, zG, zH]))
    (refine TD.val0 (v := ?v5) (by simp only [zA, zB, zC]; rfl) rfl ?hw5 (fun w1 => ?hy5) ?hn5; (case hw5 => rfl); (case hy5 => (go_simp; (try with_reducible rfl))); (try simp only [Act.put, zF, zG, zH]))
    refine TD.nil (fun w4 hr => ?_)
    have kp1 := hr.mod.at kp1 (fun h => h)
    have kp3 := hr.mod.at kp3 (fun h => h)
    have kp18 := hr.box p18 _ (by first | exact Bx.set_same _ _ _ | (simp only [Bx.set_same]; rfl)); dsimp only [Value.cells] at kp18; obtain ⟨gp18, kp18⟩ := kp18
    have mm := mm.trans hr.mod
    clear hr hbs
    have HK := Lib.hid (And.intro kp1 (And.intro kp3 kp18))
    have MM := Lib.hid mm
    clear kp1 kp3 kp18 mm
    go_wp2_with fail
    go_loopw [5] (fun s5 ws => ∃ i : Nat, i ≤ 2 ∧ s5 = .int .i64 (i : Int) ∧ Mod (fun _ => False) w4 ws) (fun s5 _ => 2 - (intOf s5).toNat)
    case atStart => exact ⟨0, by omega, rfl, Mod.refl _ _⟩
    case round =>
      obtain ⟨i, hi, rfl, hm⟩ := hrel
      have kp1 := hm.at0 HK.out.1
      have kl := hm.at0 HK.out.2.2
      rcases (by omega : i = 0 ∨ i = 1 ∨ i = 2) with rfl | rfl | rfl
      · have HV : Hid (NoBk wr (.pointer none)) := Lib.hid (.inl rfl)
        have hbt := bsTd x
        go_upto_region 8 with fail
        have Lkp1 := lt_size kp1
        have Lkl := lt_size kl
        refine wp_gpass (T0 := fun _ => False) (K := fun _ _ => True) (κ := fun i => [0, 0, 0, 0, 0, 0, 6, 0, 0, 0, 0, 0].getD i 0) (υ := fun i => [[], [], [], [], [], [], [], [], [], [], [], []].getD i []) [0, 1, 2, 3, 4, 5, 6, 7, 8, 9, 10, 11] (by kernel_rfl) (by kernel_rfl) (Good.true).cl (trivial) (fun _ h => h.elim) ?_
        have gK := Good.true
        (refine TG.v0 (v := ?v6) (by simp only [zA, zB, zC]; rfl) rfl ?hw6 (fun w1 => ?hy6) ?hn6; (case hw6 => rfl); (case hy6 => (go_simp; (try with_reducible rfl))); (try simp only [Act.put, zF, zG, zH]))
        (refine TG.v0 (v := ?v7) (by simp only [zA, zB, zC]; rfl) rfl ?hw7 (fun w1 => ?hy7) ?hn7; (case hw7 => rfl); (case hy7 => (go_simp; (try with_reducible rfl))); (try simp only [Act.put, zF, zG, zH]))
        (refine TG.v0 (v := ?v8) (by simp only [zA, zB, zC]; rfl) rfl ?hw8 (fun w1 => ?hy8) ?hn8; (case hw8 => rfl); (case hy8 => (go_simp; (try with_reducible rfl))); (try simp only [Act.put, zF, zG, zH]))
        (refine TG.load (v := ?v9) (p := ?p9) (by simp only [zA, zB, zC]; rfl) rfl ?hw9 rfl ?hx9 (fun wq hSq => ?hy9) ?hn9; (case hw9 => rfl); (case hx9 => (simp only [Act.eval, zD, zA, zB, zC, zE]; (try rfl))); (case hy9 => (have kp1q := hSq.at kp1 (by intro hT; first | exact hT | exact absurd hT (by assumption) | omega | (simp only at hT; omega)); have klq := hSq.at kl (by intro hT; first | exact hT | exact absurd hT (by assumption) | omega | (simp only at hT; omega)); go_simp; (try with_reducible rfl))); (try simp only [Act.put, zF, zG, zH]))
        (refine TG.v0 (v := ?v10) (by simp only [zA, zB, zC]; rfl) rfl ?hw10 (fun w1 => ?hy10) ?hn10; (case hw10 => rfl); (case hy10 => (go_simp; (try with_reducible rfl))); (try simp only [Act.put, zF, zG, zH]))
        (refine TG.load (v := ?v11) (p := ?p11) (by simp only [zA, zB, zC]; rfl) rfl ?hw11 rfl ?hx11 (fun wq hSq => ?hy11) ?hn11; (case hw11 => rfl); (case hx11 => (simp only [Act.eval, zD, zA, zB, zC, zE]; (try rfl))); (case hy11 => (have kp1q := hSq.at kp1 (by intro hT; first | exact hT | exact absurd hT (by assumption) | omega | (simp only at hT; omega)); have klq := hSq.at kl (by intro hT; first | exact hT | exact absurd hT (by assumption) | omega | (simp only at hT; omega)); go_simp; (try with_reducible rfl))); (try simp only [Act.put, zF, zG, zH]))
        (refine TG.callN (f := ?f12) (args := ?r12) (fun v => v = .tuple #[.slice none 0 0, .int .i64 2]) gK (by simp only [zA, zB, zC]; rfl) rfl ?hw12 (fun w1 => ?hy12) (fun T wq kq ltq hSq ub => ?hsp12) ?hn12; (case hw12 => rfl); (case hy12 => (go_simp; (first | with_reducible rfl | (constructor <;> with_reducible rfl)))); (case hsp12 => (have kp1q := hSq.at kp1 (by intro hT; first | exact hT | exact absurd hT (by assumption) | omega | (simp only at hT; omega)); have klq := hSq.at kl (by intro hT; first | exact hT | exact absurd hT (by assumption) | omega | (simp only at hT; omega)); exact (loadN _ x.r wq (HV.out.mod0 hSq)).mono (fun e w' h => ⟨_, h.1, rfl, h.2⟩))); rintro v12 hC; subst hC; (try simp only [Act.put, zF, zG, zH]))
        (refine TG.v0 (v := ?v13) (by simp only [zA, zB, zC]; rfl) rfl ?hw13 (fun w1 => ?hy13) ?hn13; (case hw13 => rfl); (case hy13 => (go_simp; (try with_reducible rfl))); (try simp only [Act.put, zF, zG, zH]))
        (refine TG.v0 (v := ?v14) (by simp only [zA, zB, zC]; rfl) rfl ?hw14 (fun w1 => ?hy14) ?hn14; (case hw14 => rfl); (case hy14 => (go_simp; (try with_reducible rfl))); (try simp only [Act.put, zF, zG, zH]))
        (refine TG.v0 (v := ?v15) (by simp only [zA, zB, zC]; rfl) rfl ?hw15 (fun w1 => ?hy15) ?hn15; (case hw15 => rfl); (case hy15 => (go_simp; (try with_reducible rfl))); (try simp only [Act.put, zF, zG, zH]))
        (refine TG.v0 (v := ?v16) (by simp only [zA, zB, zC]; rfl) rfl ?hw16 (fun w1 => ?hy16) ?hn16; (case hw16 => rfl); (case hy16 => (go_simp; (try with_reducible rfl))); (try simp only [Act.put, zF, zG, zH]))
        (refine TG.v0 (v := ?v17) (by simp only [zA, zB, zC]; rfl) rfl ?hw17 (fun w1 => ?hy17) ?hn17; (case hw17 => rfl); (case hy17 => (go_simp; (try with_reducible rfl))); (try simp only [Act.put, zF, zG, zH]))
        refine TG.nil (fun w5 ⟨TR, hr⟩ => ?_)
        have kp1 := hr.mod.at kp1 (by intro hT; first | exact hT | exact absurd hT (by assumption) | omega | (simp only at hT; omega))
        have kl := hr.mod.at kl (by intro hT; first | exact hT | exact absurd hT (by assumption) | omega | (simp only at hT; omega))
        clear gK
        have q0 := hm.then0 hr.mod
        have HV := Lib.hid (HV.out.mod0 hr.mod)
        clear hr
        go_upto_region 9 with fail
        have Lkp1 := lt_size kp1
        have Lkl := lt_size kl
        refine wp_gpass (T0 := fun _ => False) (K := fun _ _ => True) (κ := fun i => [0, 0, 0, 0, 0, 0, 0, 0, 3, 6, 3, 6, 0, 0, 0, 0, 0, 0, 0, 0, 0, 6, 0, 0, 0, 0, 0, 0, 0, 6, 0, 0, 0, 0, 0, 0, 0, 6, 0, 0, 0, 0, 0, 0, 0, 6, 0, 0, 0, 0, 0, 6, 0, 0, 0, 0, 0, 0, 0, 0, 0, 6, 0, 0, 0, 0, 0, 0, 0, 6, 0, 0].getD i 0) (υ := fun i => [[], [], [], [], [], [], [], [], [], [41], [], [43], [], [], [], [], [], [], [], [], [], [], [], [], [], [], [], [], [], [], [], [], [], [], [], [], [], [], [], [], [], [], [], [], [], [], [], [], [], [], [], [], [], [], [], [], [], [], [], [], [], [], [], [], [], [], [], [], [], [], [], []].getD i []) [0, 1, 2, 3, 4, 5, 6, 7, 8, 9, 10, 11, 12, 13, 14, 15, 16, 17, 18, 19, 20, 21, 22, 23, 24, 25, 26, 27, 28, 29, 30, 31, 32, 33, 34, 35, 36, 37, 38, 39, 40, 41, 42, 43, 44, 45, 46, 47, 48, 49, 50, 51, 52, 53, 54, 55, 56, 57, 58, 59, 60, 61, 62, 63, 64, 65, 66, 67, 68, 69, 70, 71] (by kernel_rfl) (by kernel_rfl) (Good.true).cl (trivial) (fun _ h => h.elim) ?_
        have gK := Good.true
        (refine TG.v0 (v := ?v18) (by simp only [zA, zB, zC]; rfl) rfl ?hw18 (fun w1 => ?hy18) ?hn18; (case hw18 => rfl); (case hy18 => (go_simp; (try with_reducible rfl))); (try simp only [Act.put, zF, zG, zH]))
        (refine TG.v0 (v := ?v19) (by simp only [zA, zB, zC]; rfl) rfl ?hw19 (fun w1 => ?hy19) ?hn19; (case hw19 => rfl); (case hy19 => (go_simp; (try with_reducible rfl))); (try simp only [Act.put, zF, zG, zH]))
        (refine TG.v0 (v := ?v20) (by simp only [zA, zB, zC]; rfl) rfl ?hw20 (fun w1 => ?hy20) ?hn20; (case hw20 => rfl); (case hy20 => (go_simp; (try with_reducible rfl))); (try simp only [Act.put, zF, zG, zH]))
        (refine TG.v0 (v := ?v21) (by simp only [zA, zB, zC]; rfl) rfl ?hw21 (fun w1 => ?hy21) ?hn21; (case hw21 => rfl); (case hy21 => (go_simp; (try with_reducible rfl))); (try simp only [Act.put, zF, zG, zH]))
        (refine TG.v0 (v := ?v22) (by simp only [zA, zB, zC]; rfl) rfl ?hw22 (fun w1 => ?hy22) ?hn22; (case hw22 => rfl); (case hy22 => (go_simp; (try with_reducible rfl))); (try simp only [Act.put, zF, zG, zH]))
        (refine TG.v0 (v := ?v23) (by simp only [zA, zB, zC]; rfl) rfl ?hw23 (fun w1 => ?hy23) ?hn23; (case hw23 => rfl); (case hy23 => (go_simp; (try with_reducible rfl))); (try simp only [Act.put, zF, zG, zH]))
        (refine TG.load (v := ?v24) (p := ?p24) (by simp only [zA, zB, zC]; rfl) rfl ?hw24 rfl ?hx24 (fun wq hSq => ?hy24) ?hn24; (case hw24 => rfl); (case hx24 => (simp only [Act.eval, zD, zA, zB, zC, zE]; (try rfl))); (case hy24 => (have kp1q := hSq.at kp1 (by intro hT; first | exact hT | exact absurd hT (by assumption) | omega | (simp only at hT; omega)); have klq := hSq.at kl (by intro hT; first | exact hT | exact absurd hT (by assumption) | omega | (simp only at hT; omega)); go_simp; (try with_reducible rfl))); (try simp only [Act.put, zF, zG, zH]))
        (refine TG.load (v := ?v25) (p := ?p25) (by simp only [zA, zB, zC]; rfl) rfl ?hw25 rfl ?hx25 (fun wq hSq => ?hy25) ?hn25; (case hw25 => rfl); (case hx25 => (simp only [Act.eval, zD, zA, zB, zC, zE]; (try rfl))); (case hy25 => (have kp1q := hSq.at kp1 (by intro hT; first | exact hT | exact absurd hT (by assumption) | omega | (simp only at hT; omega)); have klq := hSq.at kl (by intro hT; first | exact hT | exact absurd hT (by assumption) | omega | (simp only at hT; omega)); go_simp; (try with_reducible rfl))); (try simp only [Act.put, zF, zG, zH]))
        (refine TG.bslice (by simp only [zA, zB, zC]; rfl) rfl ?hw26 rfl rfl ?hx26 hbt (fun p41 hp41 _ => ?hn26); (case hw26 => rfl); (case hx26 => (simp only [List.map_toArray, List.map_cons, List.map_nil, Act.eval, zD, zA, zB, zC, zE]; (try rfl))); (try simp only [Act.put, zF, zG, zH]))
        (refine TG.callM (f := ?f27) (args := ?r27) (ErL [2]) (goodEr [2]) gK (by simp only [zA, zB, zC]; rfl) rfl ?hw27 (fun w1 => ?hy27) (fun T wq kq ltq hSq ub => ?hsp27) ?hn27; (case hw27 => rfl); (case hy27 => (go_simp; (first | with_reducible rfl | (constructor <;> with_reducible rfl)))); (case hsp27 => (have kp1q := hSq.at kp1 (by intro hT; first | exact hT | exact absurd hT (by assumption) | omega | (simp only at hT; omega)); have klq := hSq.at kl (by intro hT; first | exact hT | exact absurd hT (by assumption) | omega | (simp only at hT; omega)); have kp41 := ub.box (p := p41) (by first | exact Bx.set_same _ _ _ | (simp only [Bx.set_same]; rfl)) (by first | decide | exact List.mem_singleton.2 rfl | simp); dsimp only [Value.cells] at kp41; have nUp41 := (ub p41 _ (by first | exact Bx.set_same _ _ _ | (simp only [Bx.set_same]; rfl)) (by first | decide | exact List.mem_singleton.2 rfl | simp)).1; exact (recordN _ (some ⟨p41, 0, none⟩) 1 1 wq (HV.out.mod0 hSq) (by omega)).mono (fun e w' h => by obtain ⟨g, h1, h2, h3, h4⟩ := h; exact ⟨_, h1, h4, g, rfl, Grow.new h2 (slat_lt h3 (by simp)), h3⟩))); rintro v27 ⟨wI, TI, hI⟩; replace gK := gK.and ((goodEr [2]) v27); (obtain ⟨_, g42, rfl, _, _⟩ := hI.k); (try clear hI TI wI); (try simp only [Act.put, zF, zG, zH]))
        (refine TG.bslice (by simp only [zA, zB, zC]; rfl) rfl ?hw28 rfl rfl ?hx28 (bsEr 2) (fun p43 hp43 _ => ?hn28); (case hw28 => rfl); (case hx28 => (simp only [List.map_toArray, List.map_cons, List.map_nil, Act.eval, zD, zA, zB, zC, zE]; (try rfl))); (try simp only [Act.put, zF, zG, zH]))
        obtain ⟨ne_p43_p41, hp43⟩ := Bx.set_none hp43
        (refine TG.callN (f := ?f29) (args := ?r29) (fun v => v = .bool true) gK (by simp only [zA, zB, zC]; rfl) rfl ?hw29 (fun w1 => ?hy29) (fun T wq kq ltq hSq ub => ?hsp29) ?hn29; (case hw29 => rfl); (case hy29 => (go_simp; (first | with_reducible rfl | (constructor <;> with_reducible rfl)))); (case hsp29 => (have kp1q := hSq.at kp1 (by intro hT; first | exact hT | exact absurd hT (by assumption) | omega | (simp only at hT; omega)); have klq := hSq.at kl (by intro hT; first | exact hT | exact absurd hT (by assumption) | omega | (simp only at hT; omega)); have kp43 := ub.box (p := p43) (by first | exact Bx.set_same _ _ _ | (simp only [Bx.set_ne _ (Ne.symm ne_p43_p41), Bx.set_ne _ ne_p43_p41, Bx.set_same]; rfl)) (by first | decide | exact List.mem_singleton.2 rfl | simp); dsimp only [Value.cells] at kp43; have nUp43 := (ub p43 _ (by first | exact Bx.set_same _ _ _ | (simp only [Bx.set_ne _ (Ne.symm ne_p43_p41), Bx.set_ne _ ne_p43_p41, Bx.set_same]; rfl)) (by first | decide | exact List.mem_singleton.2 rfl | simp)).1; obtain ⟨_, g0, e0, _, hE0⟩ := kq; (have e1 : g42 = g0 := by simpa using e0); subst e1; exact (errors1_c (v := 2) (u := 2) hE0 kp43).mono (fun e w' h => ⟨_, h.1, rfl, h.2⟩))); rintro v29 hC; subst hC; (try simp only [Act.put, zF, zG, zH]))
        (refine TG.v0 (v := ?v30) (by simp only [zA, zB, zC]; rfl) rfl ?hw30 (fun w1 => ?hy30) ?hn30; (case hw30 => rfl); (case hy30 => (go_simp; (try with_reducible rfl))); (try simp only [Act.put, zF, zG, zH]))
        (refine TG.v0 (v := ?v31) (by simp only [zA, zB, zC]; rfl) rfl ?hw31 (fun w1 => ?hy31) ?hn31; (case hw31 => rfl); (case hy31 => (go_simp; (try with_reducible rfl))); (try simp only [Act.put, zF, zG, zH]))
        (refine TG.v0 (v := ?v32) (by simp only [zA, zB, zC]; rfl) rfl ?hw32 (fun w1 => ?hy32) ?hn32; (case hw32 => rfl); (case hy32 => (go_simp; (try with_reducible rfl))); (try simp only [Act.put, zF, zG, zH]))
        (refine TG.v0 (v := ?v33) (by simp only [zA, zB, zC]; rfl) rfl ?hw33 (fun w1 => ?hy33) ?hn33; (case hw33 => rfl); (case hy33 => (go_simp; (try with_reducible rfl))); (try simp only [Act.put, zF, zG, zH]))
        (refine TG.v0 (v := ?v34) (by simp only [zA, zB, zC]; rfl) rfl ?hw34 (fun w1 => ?hy34) ?hn34; (case hw34 => rfl); (case hy34 => (go_simp; (try with_reducible rfl))); (try simp only [Act.put, zF, zG, zH]))
        (refine TG.v0 (v := ?v35) (by simp only [zA, zB, zC]; rfl) rfl ?hw35 (fun w1 => ?hy35) ?hn35; (case hw35 => rfl); (case hy35 => (go_simp; (try with_reducible rfl))); (try simp only [Act.put, zF, zG, zH]))
        (refine TG.load (v := ?v36) (p := ?p36) (by simp only [zA, zB, zC]; rfl) rfl ?hw36 rfl ?hx36 (fun wq hSq => ?hy36) ?hn36; (case hw36 => rfl); (case hx36 => (simp only [Act.eval, zD, zA, zB, zC, zE]; (try rfl))); (case hy36 => (have kp1q := hSq.at kp1 (by intro hT; first | exact hT | exact absurd hT (by assumption) | omega | (simp only at hT; omega)); have klq := hSq.at kl (by intro hT; first | exact hT | exact absurd hT (by assumption) | omega | (simp only at hT; omega)); go_simp; (try with_reducible rfl))); (try simp only [Act.put, zF, zG, zH]))
        (refine TG.v0 (v := ?v37) (by simp only [zA, zB, zC]; rfl) rfl ?hw37 (fun w1 => ?hy37) ?hn37; (case hw37 => rfl); (case hy37 => (go_simp; (try with_reducible rfl))); (try simp only [Act.put, zF, zG, zH]))
        (refine TG.load (v := ?v38) (p := ?p38) (by simp only [zA, zB, zC]; rfl) rfl ?hw38 rfl ?hx38 (fun wq hSq => ?hy38) ?hn38; (case hw38 => rfl); (case hx38 => (simp only [Act.eval, zD, zA, zB, zC, zE]; (try rfl))); (case hy38 => (have kp1q := hSq.at kp1 (by intro hT; first | exact hT | exact absurd hT (by assumption) | omega | (simp only at hT; omega)); have klq := hSq.at kl (by intro hT; first | exact hT | exact absurd hT (by assumption) | omega | (simp only at hT; omega)); go_simp; (try with_reducible rfl))); (try simp only [Act.put, zF, zG, zH]))
        (refine TG.callN (f := ?f39) (args := ?r39) (fun v => v = .int .i64 2) gK (by simp only [zA, zB, zC]; rfl) rfl ?hw39 (fun w1 => ?hy39) (fun T wq kq ltq hSq ub => ?hsp39) ?hn39; (case hw39 => rfl); (case hy39 => (go_simp; (first | with_reducible rfl | (constructor <;> with_reducible rfl)))); (case hsp39 => (have kp1q := hSq.at kp1 (by intro hT; first | exact hT | exact absurd hT (by assumption) | omega | (simp only at hT; omega)); have klq := hSq.at kl (by intro hT; first | exact hT | exact absurd hT (by assumption) | omega | (simp only at hT; omega)); exact (commitN _ x.o wq (HV.out.mod0 hSq)).mono (fun e w' h => ⟨_, h.1, rfl, h.2⟩))); rintro v39 hC; subst hC; (try simp only [Act.put, zF, zG, zH]))
        (refine TG.v0 (v := ?v40) (by simp only [zA, zB, zC]; rfl) rfl ?hw40 (fun w1 => ?hy40) ?hn40; (case hw40 => rfl); (case hy40 => (go_simp; (try with_reducible rfl))); (try simp only [Act.put, zF, zG, zH]))
        (refine TG.v0 (v := ?v41) (by simp only [zA, zB, zC]; rfl) rfl ?hw41 (fun w1 => ?hy41) ?hn41; (case hw41 => rfl); (case hy41 => (go_simp; (try with_reducible rfl))); (try simp only [Act.put, zF, zG, zH]))
        (refine TG.v0 (v := ?v42) (by simp only [zA, zB, zC]; rfl) rfl ?hw42 (fun w1 => ?hy42) ?hn42; (case hw42 => rfl); (case hy42 => (go_simp; (try with_reducible rfl))); (try simp only [Act.put, zF, zG, zH]))
        (refine TG.v0 (v := ?v43) (by simp only [zA, zB, zC]; rfl) rfl ?hw43 (fun w1 => ?hy43) ?hn43; (case hw43 => rfl); (case hy43 => (go_simp; (try with_reducible rfl))); (try simp only [Act.put, zF, zG, zH]))
        (refine TG.v0 (v := ?v44) (by simp only [zA, zB, zC]; rfl) rfl ?hw44 (fun w1 => ?hy44) ?hn44; (case hw44 => rfl); (case hy44 => (go_simp; (try with_reducible rfl))); (try simp only [Act.put, zF, zG, zH]))
        (refine TG.v0 (v := ?v45) (by simp only [zA, zB, zC]; rfl) rfl ?hw45 (fun w1 => ?hy45) ?hn45; (case hw45 => rfl); (case hy45 => (go_simp; (try with_reducible rfl))); (try simp only [Act.put, zF, zG, zH]))
        (refine TG.load (v := ?v46) (p := ?p46) (by simp only [zA, zB, zC]; rfl) rfl ?hw46 rfl ?hx46 (fun wq hSq => ?hy46) ?hn46; (case hw46 => rfl); (case hx46 => (simp only [Act.eval, zD, zA, zB, zC, zE]; (try rfl))); (case hy46 => (have kp1q := hSq.at kp1 (by intro hT; first | exact hT | exact absurd hT (by assumption) | omega | (simp only at hT; omega)); have klq := hSq.at kl (by intro hT; first | exact hT | exact absurd hT (by assumption) | omega | (simp only at hT; omega)); go_simp; (try with_reducible rfl))); (try simp only [Act.put, zF, zG, zH]))
        (refine TG.callN (f := ?f47) (args := ?r47) (fun v => v = .int .i64 2) gK (by simp only [zA, zB, zC]; rfl) rfl ?hw47 (fun w1 => ?hy47) (fun T wq kq ltq hSq ub => ?hsp47) ?hn47; (case hw47 => rfl); (case hy47 => (go_simp; (first | with_reducible rfl | (constructor <;> with_reducible rfl)))); (case hsp47 => (have kp1q := hSq.at kp1 (by intro hT; first | exact hT | exact absurd hT (by assumption) | omega | (simp only at hT; omega)); have klq := hSq.at kl (by intro hT; first | exact hT | exact absurd hT (by assumption) | omega | (simp only at hT; omega)); exact (endN _ wq (HV.out.mod0 hSq)).mono (fun e w' h => ⟨_, h.1, rfl, h.2⟩))); rintro v47 hC; subst hC; (try simp only [Act.put, zF, zG, zH]))
        (refine TG.v0 (v := ?v48) (by simp only [zA, zB, zC]; rfl) rfl ?hw48 (fun w1 => ?hy48) ?hn48; (case hw48 => rfl); (case hy48 => (go_simp; (try with_reducible rfl))); (try simp only [Act.put, zF, zG, zH]))
        (refine TG.v0 (v := ?v49) (by simp only [zA, zB, zC]; rfl) rfl ?hw49 (fun w1 => ?hy49) ?hn49; (case hw49 => rfl); (case hy49 => (go_simp; (try with_reducible rfl))); (try simp only [Act.put, zF, zG, zH]))
        (refine TG.v0 (v := ?v50) (by simp only [zA, zB, zC]; rfl) rfl ?hw50 (fun w1 => ?hy50) ?hn50; (case hw50 => rfl); (case hy50 => (go_simp; (try with_reducible rfl))); (try simp only [Act.put, zF, zG, zH]))
        (refine TG.v0 (v := ?v51) (by simp only [zA, zB, zC]; rfl) rfl ?hw51 (fun w1 => ?hy51) ?hn51; (case hw51 => rfl); (case hy51 => (go_simp; (try with_reducible rfl))); (try simp only [Act.put, zF, zG, zH]))
        (refine TG.v0 (v := ?v52) (by simp only [zA, zB, zC]; rfl) rfl ?hw52 (fun w1 => ?hy52) ?hn52; (case hw52 => rfl); (case hy52 => (go_simp; (try with_reducible rfl))); (try simp only [Act.put, zF, zG, zH]))
        (refine TG.v0 (v := ?v53) (by simp only [zA, zB, zC]; rfl) rfl ?hw53 (fun w1 => ?hy53) ?hn53; (case hw53 => rfl); (case hy53 => (go_simp; (try with_reducible rfl))); (try simp only [Act.put, zF, zG, zH]))
        (refine TG.load (v := ?v54) (p := ?p54) (by simp only [zA, zB, zC]; rfl) rfl ?hw54 rfl ?hx54 (fun wq hSq => ?hy54) ?hn54; (case hw54 => rfl); (case hx54 => (simp only [Act.eval, zD, zA, zB, zC, zE]; (try rfl))); (case hy54 => (have kp1q := hSq.at kp1 (by intro hT; first | exact hT | exact absurd hT (by assumption) | omega | (simp only at hT; omega)); have klq := hSq.at kl (by intro hT; first | exact hT | exact absurd hT (by assumption) | omega | (simp only at hT; omega)); go_simp; (try with_reducible rfl))); (try simp only [Act.put, zF, zG, zH]))
        (refine TG.callN (f := ?f55) (args := ?r55) (fun v => v = .bool true) gK (by simp only [zA, zB, zC]; rfl) rfl ?hw55 (fun w1 => ?hy55) (fun T wq kq ltq hSq ub => ?hsp55) ?hn55; (case hw55 => rfl); (case hy55 => (go_simp; (first | with_reducible rfl | (constructor <;> with_reducible rfl)))); (case hsp55 => (have kp1q := hSq.at kp1 (by intro hT; first | exact hT | exact absurd hT (by assumption) | omega | (simp only at hT; omega)); have klq := hSq.at kl (by intro hT; first | exact hT | exact absurd hT (by assumption) | omega | (simp only at hT; omega)); exact (endedN _ wq (HV.out.mod0 hSq)).mono (fun e w' h => ⟨_, h.1, rfl, h.2⟩))); rintro v55 hC; subst hC; (try simp only [Act.put, zF, zG, zH]))
        (refine TG.v0 (v := ?v56) (by simp only [zA, zB, zC]; rfl) rfl ?hw56 (fun w1 => ?hy56) ?hn56; (case hw56 => rfl); (case hy56 => (go_simp; (try with_reducible rfl))); (try simp only [Act.put, zF, zG, zH]))
        (refine TG.v0 (v := ?v57) (by simp only [zA, zB, zC]; rfl) rfl ?hw57 (fun w1 => ?hy57) ?hn57; (case hw57 => rfl); (case hy57 => (go_simp; (try with_reducible rfl))); (try simp only [Act.put, zF, zG, zH]))
        (refine TG.v0 (v := ?v58) (by simp only [zA, zB, zC]; rfl) rfl ?hw58 (fun w1 => ?hy58) ?hn58; (case hw58 => rfl); (case hy58 => (go_simp; (try with_reducible rfl))); (try simp only [Act.put, zF, zG, zH]))
        (refine TG.v0 (v := ?v59) (by simp only [zA, zB, zC]; rfl) rfl ?hw59 (fun w1 => ?hy59) ?hn59; (case hw59 => rfl); (case hy59 => (go_simp; (try with_reducible rfl))); (try simp only [Act.put, zF, zG, zH]))
        (refine TG.v0 (v := ?v60) (by simp only [zA, zB, zC]; rfl) rfl ?hw60 (fun w1 => ?hy60) ?hn60; (case hw60 => rfl); (case hy60 => (go_simp; (try with_reducible rfl))); (try simp only [Act.put, zF, zG, zH]))
        (refine TG.v0 (v := ?v61) (by simp only [zA, zB, zC]; rfl) rfl ?hw61 (fun w1 => ?hy61) ?hn61; (case hw61 => rfl); (case hy61 => (go_simp; (try with_reducible rfl))); (try simp only [Act.put, zF, zG, zH]))
        (refine TG.load (v := ?v62) (p := ?p62) (by simp only [zA, zB, zC]; rfl) rfl ?hw62 rfl ?hx62 (fun wq hSq => ?hy62) ?hn62; (case hw62 => rfl); (case hx62 => (simp only [Act.eval, zD, zA, zB, zC, zE]; (try rfl))); (case hy62 => (have kp1q := hSq.at kp1 (by intro hT; first | exact hT | exact absurd hT (by assumption) | omega | (simp only at hT; omega)); have klq := hSq.at kl (by intro hT; first | exact hT | exact absurd hT (by assumption) | omega | (simp only at hT; omega)); go_simp; (try with_reducible rfl))); (try simp only [Act.put, zF, zG, zH]))
        (refine TG.callN (f := ?f63) (args := ?r63) (fun v => v = .slice none 0 0) gK (by simp only [zA, zB, zC]; rfl) rfl ?hw63 (fun w1 => ?hy63) (fun T wq kq ltq hSq ub => ?hsp63) ?hn63; (case hw63 => rfl); (case hy63 => (go_simp; (first | with_reducible rfl | (constructor <;> with_reducible rfl)))); (case hsp63 => (have kp1q := hSq.at kp1 (by intro hT; first | exact hT | exact absurd hT (by assumption) | omega | (simp only at hT; omega)); have klq := hSq.at kl (by intro hT; first | exact hT | exact absurd hT (by assumption) | omega | (simp only at hT; omega)); exact (entriesN _ wq (HV.out.mod0 hSq)).mono (fun e w' h => ⟨_, h.1, rfl, h.2⟩))); rintro v63 hC; subst hC; (try simp only [Act.put, zF, zG, zH]))
        (refine TG.v0 (v := ?v64) (by simp only [zA, zB, zC]; rfl) rfl ?hw64 (fun w1 => ?hy64) ?hn64; (case hw64 => rfl); (case hy64 => (go_simp; (try with_reducible rfl))); (try simp only [Act.put, zF, zG, zH]))
        (refine TG.v0 (v := ?v65) (by simp only [zA, zB, zC]; rfl) rfl ?hw65 (fun w1 => ?hy65) ?hn65; (case hw65 => rfl); (case hy65 => (go_simp; (try with_reducible rfl))); (try simp only [Act.put, zF, zG, zH]))
        (refine TG.v0 (v := ?v66) (by simp only [zA, zB, zC]; rfl) rfl ?hw66 (fun w1 => ?hy66) ?hn66; (case hw66 => rfl); (case hy66 => (go_simp; (try with_reducible rfl))); (try simp only [Act.put, zF, zG, zH]))
        (refine TG.v0 (v := ?v67) (by simp only [zA, zB, zC]; rfl) rfl ?hw67 (fun w1 => ?hy67) ?hn67; (case hw67 => rfl); (case hy67 => (go_simp; (try with_reducible rfl))); (try simp only [Act.put, zF, zG, zH]))
        (refine TG.load (v := ?v68) (p := ?p68) (by simp only [zA, zB, zC]; rfl) rfl ?hw68 rfl ?hx68 (fun wq hSq => ?hy68) ?hn68; (case hw68 => rfl); (case hx68 => (simp only [Act.eval, zD, zA, zB, zC, zE]; (try rfl))); (case hy68 => (have kp1q := hSq.at kp1 (by intro hT; first | exact hT | exact absurd hT (by assumption) | omega | (simp only at hT; omega)); have klq := hSq.at kl (by intro hT; first | exact hT | exact absurd hT (by assumption) | omega | (simp only at hT; omega)); go_simp; (try with_reducible rfl))); (try simp only [Act.put, zF, zG, zH]))
        (refine TG.callN (f := ?f69) (args := ?r69) (fun v => v = .slice none 0 0) gK (by simp only [zA, zB, zC]; rfl) rfl ?hw69 (fun w1 => ?hy69) (fun T wq kq ltq hSq ub => ?hsp69) ?hn69; (case hw69 => rfl); (case hy69 => (go_simp; (first | with_reducible rfl | (constructor <;> with_reducible rfl)))); (case hsp69 => (have kp1q := hSq.at kp1 (by intro hT; first | exact hT | exact absurd hT (by assumption) | omega | (simp only at hT; omega)); have klq := hSq.at kl (by intro hT; first | exact hT | exact absurd hT (by assumption) | omega | (simp only at hT; omega)); exact (outsN _ wq (HV.out.mod0 hSq)).mono (fun e w' h => ⟨_, h.1, rfl, h.2⟩))); rintro v69 hC; subst hC; (try simp only [Act.put, zF, zG, zH]))
        (refine TG.v0 (v := ?v70) (by simp only [zA, zB, zC]; rfl) rfl ?hw70 (fun w1 => ?hy70) ?hn70; (case hw70 => rfl); (case hy70 => (go_simp; (try with_reducible rfl))); (try simp only [Act.put, zF, zG, zH]))
        (refine TG.v0 (v := ?v71) (by simp only [zA, zB, zC]; rfl) rfl ?hw71 (fun w1 => ?hy71) ?hn71; (case hw71 => rfl); (case hy71 => (go_simp; (try with_reducible rfl))); (try simp only [Act.put, zF, zG, zH]))
        (refine TG.v0 (v := ?v72) (by simp only [zA, zB, zC]; rfl) rfl ?hw72 (fun w1 => ?hy72) ?hn72; (case hw72 => rfl); (case hy72 => (go_simp; (try with_reducible rfl))); (try simp only [Act.put, zF, zG, zH]))
        (refine TG.v0 (v := ?v73) (by simp only [zA, zB, zC]; rfl) rfl ?hw73 (fun w1 => ?hy73) ?hn73; (case hw73 => rfl); (case hy73 => (go_simp; (try with_reducible rfl))); (try simp only [Act.put, zF, zG, zH]))
        (refine TG.v0 (v := ?v74) (by simp only [zA, zB, zC]; rfl) rfl ?hw74 (fun w1 => ?hy74) ?hn74; (case hw74 => rfl); (case hy74 => (go_simp; (try with_reducible rfl))); (try simp only [Act.put, zF, zG, zH]))
        (refine TG.v0 (v := ?v75) (by simp only [zA, zB, zC]; rfl) rfl ?hw75 (fun w1 => ?hy75) ?hn75; (case hw75 => rfl); (case hy75 => (go_simp; (try with_reducible rfl))); (try simp only [Act.put, zF, zG, zH]))
        (refine TG.v0 (v := ?v76) (by simp only [zA, zB, zC]; rfl) rfl ?hw76 (fun w1 => ?hy76) ?hn76; (case hw76 => rfl); (case hy76 => (go_simp; (try with_reducible rfl))); (try simp only [Act.put, zF, zG, zH]))
        (refine TG.v0 (v := ?v77) (by simp only [zA, zB, zC]; rfl) rfl ?hw77 (fun w1 => ?hy77) ?hn77; (case hw77 => rfl); (case hy77 => (go_simp; (try with_reducible rfl))); (try simp only [Act.put, zF, zG, zH]))
        (refine TG.load (v := ?v78) (p := ?p78) (by simp only [zA, zB, zC]; rfl) rfl ?hw78 rfl ?hx78 (fun wq hSq => ?hy78) ?hn78; (case hw78 => rfl); (case hx78 => (simp only [Act.eval, zD, zA, zB, zC, zE]; (try rfl))); (case hy78 => (have kp1q := hSq.at kp1 (by intro hT; first | exact hT | exact absurd hT (by assumption) | omega | (simp only at hT; omega)); have klq := hSq.at kl (by intro hT; first | exact hT | exact absurd hT (by assumption) | omega | (simp only at hT; omega)); go_simp; (try with_reducible rfl))); (try simp only [Act.put, zF, zG, zH]))
        (refine TG.callN (f := ?f79) (args := ?r79) (fun v => v = .int .u64 0) gK (by simp only [zA, zB, zC]; rfl) rfl ?hw79 (fun w1 => ?hy79) (fun T wq kq ltq hSq ub => ?hsp79) ?hn79; (case hw79 => rfl); (case hy79 => (go_simp; (first | with_reducible rfl | (constructor <;> with_reducible rfl)))); (case hsp79 => (have kp1q := hSq.at kp1 (by intro hT; first | exact hT | exact absurd hT (by assumption) | omega | (simp only at hT; omega)); have klq := hSq.at kl (by intro hT; first | exact hT | exact absurd hT (by assumption) | omega | (simp only at hT; omega)); exact (feesN _ wq (HV.out.mod0 hSq)).mono (fun e w' h => ⟨_, h.1, rfl, h.2⟩))); rintro v79 hC; subst hC; (try simp only [Act.put, zF, zG, zH]))
        (refine TG.v0 (v := ?v80) (by simp only [zA, zB, zC]; rfl) rfl ?hw80 (fun w1 => ?hy80) ?hn80; (case hw80 => rfl); (case hy80 => (go_simp; (try with_reducible rfl))); (try simp only [Act.put, zF, zG, zH]))
        (refine TG.v0 (v := ?v81) (by simp only [zA, zB, zC]; rfl) rfl ?hw81 (fun w1 => ?hy81) ?hn81; (case hw81 => rfl); (case hy81 => (go_simp; (try with_reducible rfl))); (try simp only [Act.put, zF, zG, zH]))
        (refine TG.v0 (v := ?v82) (by simp only [zA, zB, zC]; rfl) rfl ?hw82 (fun w1 => ?hy82) ?hn82; (case hw82 => rfl); (case hy82 => (go_simp; (try with_reducible rfl))); (try simp only [Act.put, zF, zG, zH]))
        (refine TG.v0 (v := ?v83) (by simp only [zA, zB, zC]; rfl) rfl ?hw83 (fun w1 => ?hy83) ?hn83; (case hw83 => rfl); (case hy83 => (go_simp; (try with_reducible rfl))); (try simp only [Act.put, zF, zG, zH]))
        (refine TG.v0 (v := ?v84) (by simp only [zA, zB, zC]; rfl) rfl ?hw84 (fun w1 => ?hy84) ?hn84; (case hw84 => rfl); (case hy84 => (go_simp; (try with_reducible rfl))); (try simp only [Act.put, zF, zG, zH]))
        (refine TG.v0 (v := ?v85) (by simp only [zA, zB, zC]; rfl) rfl ?hw85 (fun w1 => ?hy85) ?hn85; (case hw85 => rfl); (case hy85 => (go_simp; (try with_reducible rfl))); (try simp only [Act.put, zF, zG, zH]))
        (refine TG.load (v := ?v86) (p := ?p86) (by simp only [zA, zB, zC]; rfl) rfl ?hw86 rfl ?hx86 (fun wq hSq => ?hy86) ?hn86; (case hw86 => rfl); (case hx86 => (simp only [Act.eval, zD, zA, zB, zC, zE]; (try rfl))); (case hy86 => (have kp1q := hSq.at kp1 (by intro hT; first | exact hT | exact absurd hT (by assumption) | omega | (simp only at hT; omega)); have klq := hSq.at kl (by intro hT; first | exact hT | exact absurd hT (by assumption) | omega | (simp only at hT; omega)); go_simp; (try with_reducible rfl))); (try simp only [Act.put, zF, zG, zH]))
        (refine TG.callN (f := ?f87) (args := ?r87) (fun v => v = .int .u64 0) gK (by simp only [zA, zB, zC]; rfl) rfl ?hw87 (fun w1 => ?hy87) (fun T wq kq ltq hSq ub => ?hsp87) ?hn87; (case hw87 => rfl); (case hy87 => (go_simp; (first | with_reducible rfl | (constructor <;> with_reducible rfl)))); (case hsp87 => (have kp1q := hSq.at kp1 (by intro hT; first | exact hT | exact absurd hT (by assumption) | omega | (simp only at hT; omega)); have klq := hSq.at kl (by intro hT; first | exact hT | exact absurd hT (by assumption) | omega | (simp only at hT; omega)); exact (costN _ wq (HV.out.mod0 hSq)).mono (fun e w' h => ⟨_, h.1, rfl, h.2⟩))); rintro v87 hC; subst hC; (try simp only [Act.put, zF, zG, zH]))
        (refine TG.v0 (v := ?v88) (by simp only [zA, zB, zC]; rfl) rfl ?hw88 (fun w1 => ?hy88) ?hn88; (case hw88 => rfl); (case hy88 => (go_simp; (try with_reducible rfl))); (try simp only [Act.put, zF, zG, zH]))
        (refine TG.v0 (v := ?v89) (by simp only [zA, zB, zC]; rfl) rfl ?hw89 (fun w1 => ?hy89) ?hn89; (case hw89 => rfl); (case hy89 => (go_simp; (try with_reducible rfl))); (try simp only [Act.put, zF, zG, zH]))
        refine TG.nil (fun w6 ⟨TR, hr⟩ => ?_)
        have kp1 := hr.mod.at kp1 (by intro hT; first | exact hT | exact absurd hT (by assumption) | omega | (simp only at hT; omega))
        have kl := hr.mod.at kl (by intro hT; first | exact hT | exact absurd hT (by assumption) | omega | (simp only at hT; omega))
        have kp41 := hr.box p41 _ (by first | exact Bx.set_same _ _ _ | (simp only [Bx.set_ne _ (Ne.symm ne_p43_p41), Bx.set_ne _ ne_p43_p41, Bx.set_same]; rfl)); dsimp only [Value.cells] at kp41; obtain ⟨gp41, nTp41, kp41⟩ := kp41
        have kp43 := hr.box p43 _ (by first | exact Bx.set_same _ _ _ | (simp only [Bx.set_ne _ (Ne.symm ne_p43_p41), Bx.set_ne _ ne_p43_p41, Bx.set_same]; rfl)); dsimp only [Value.cells] at kp43; obtain ⟨gp43, nTp43, kp43⟩ := kp43
        clear gK
        have q1 := q0.then0 hr.mod
        clear hr hbt
        go_wp2_with fail
        go_roundw
        case rel => exact ⟨1, by omega, rfl, q1⟩
        case measure => simp [intOf]
      · have HV : Hid (NoBk wr (ptrV p3)) := Lib.hid (.inr ⟨p3, rfl, hm.at0 HK.out.2.1⟩)
        have hbt := bsTd x
        go_upto_region 8 with fail
        have Lkp1 := lt_size kp1
        have Lkl := lt_size kl
        refine wp_gpass (T0 := fun _ => False) (K := fun _ _ => True) (κ := fun i => [0, 0, 0, 0, 0, 0, 6, 0, 0, 0, 0, 0].getD i 0) (υ := fun i => [[], [], [], [], [], [], [], [], [], [], [], []].getD i []) [0, 1, 2, 3, 4, 5, 6, 7, 8, 9, 10, 11] (by kernel_rfl) (by kernel_rfl) (Good.true).cl (trivial) (fun _ h => h.elim) ?_
        have gK := Good.true
        (refine TG.v0 (v := ?v90) (by simp only [zA, zB, zC]; rfl) rfl ?hw90 (fun w1 => ?hy90) ?hn90; (case hw90 => rfl); (case hy90 => (go_simp; (try with_reducible rfl))); (try simp only [Act.put, zF, zG, zH]))
        (refine TG.v0 (v := ?v91) (by simp only [zA, zB, zC]; rfl) rfl ?hw91 (fun w1 => ?hy91) ?hn91; (case hw91 => rfl); (case hy91 => (go_simp; (try with_reducible rfl))); (try simp only [Act.put, zF, zG, zH]))
        (refine TG.v0 (v := ?v92) (by simp only [zA, zB, zC]; rfl) rfl ?hw92 (fun w1 => ?hy92) ?hn92; (case hw92 => rfl); (case hy92 => (go_simp; (try with_reducible rfl))); (try simp only [Act.put, zF, zG, zH]))
        (refine TG.load (v := ?v93) (p := ?p93) (by simp only [zA, zB, zC]; rfl) rfl ?hw93 rfl ?hx93 (fun wq hSq => ?hy93) ?hn93; (case hw93 => rfl); (case hx93 => (simp only [Act.eval, zD, zA, zB, zC, zE]; (try rfl))); (case hy93 => (have kp1q := hSq.at kp1 (by intro hT; first | exact hT | exact absurd hT (by assumption) | omega | (simp only at hT; omega)); have klq := hSq.at kl (by intro hT; first | exact hT | exact absurd hT (by assumption) | omega | (simp only at hT; omega)); go_simp; (try with_reducible rfl))); (try simp only [Act.put, zF, zG, zH]))
        (refine TG.v0 (v := ?v94) (by simp only [zA, zB, zC]; rfl) rfl ?hw94 (fun w1 => ?hy94) ?hn94; (case hw94 => rfl); (case hy94 => (go_simp; (try with_reducible rfl))); (try simp only [Act.put, zF, zG, zH]))
        (refine TG.load (v := ?v95) (p := ?p95) (by simp only [zA, zB, zC]; rfl) rfl ?hw95 rfl ?hx95 (fun wq hSq => ?hy95) ?hn95; (case hw95 => rfl); (case hx95 => (simp only [Act.eval, zD, zA, zB, zC, zE]; (try rfl))); (case hy95 => (have kp1q := hSq.at kp1 (by intro hT; first | exact hT | exact absurd hT (by assumption) | omega | (simp only at hT; omega)); have klq := hSq.at kl (by intro hT; first | exact hT | exact absurd hT (by assumption) | omega | (simp only at hT; omega)); go_simp; (try with_reducible rfl))); (try simp only [Act.put, zF, zG, zH]))
        (refine TG.callN (f := ?f96) (args := ?r96) (fun v => v = .tuple #[.slice none 0 0, .int .i64 2]) gK (by simp only [zA, zB, zC]; rfl) rfl ?hw96 (fun w1 => ?hy96) (fun T wq kq ltq hSq ub => ?hsp96) ?hn96; (case hw96 => rfl); (case hy96 => (go_simp; (first | with_reducible rfl | (constructor <;> with_reducible rfl)))); (case hsp96 => (have kp1q := hSq.at kp1 (by intro hT; first | exact hT | exact absurd hT (by assumption) | omega | (simp only at hT; omega)); have klq := hSq.at kl (by intro hT; first | exact hT | exact absurd hT (by assumption) | omega | (simp only at hT; omega)); exact (loadN _ x.r wq (HV.out.mod0 hSq)).mono (fun e w' h => ⟨_, h.1, rfl, h.2⟩))); rintro v96 hC; subst hC; (try simp only [Act.put, zF, zG, zH]))
        (refine TG.v0 (v := ?v97) (by simp only [zA, zB, zC]; rfl) rfl ?hw97 (fun w1 => ?hy97) ?hn97; (case hw97 => rfl); (case hy97 => (go_simp; (try with_reducible rfl))); (try simp only [Act.put, zF, zG, zH]))
        (refine TG.v0 (v := ?v98) (by simp only [zA, zB, zC]; rfl) rfl ?hw98 (fun w1 => ?hy98) ?hn98; (case hw98 => rfl); (case hy98 => (go_simp; (try with_reducible rfl))); (try simp only [Act.put, zF, zG, zH]))
        (refine TG.v0 (v := ?v99) (by simp only [zA, zB, zC]; rfl) rfl ?hw99 (fun w1 => ?hy99) ?hn99; (case hw99 => rfl); (case hy99 => (go_simp; (try with_reducible rfl))); (try simp only [Act.put, zF, zG, zH]))
        (refine TG.v0 (v := ?v100) (by simp only [zA, zB, zC]; rfl) rfl ?hw100 (fun w1 => ?hy100) ?hn100; (case hw100 => rfl); (case hy100 => (go_simp; (try with_reducible rfl))); (try simp only [Act.put, zF, zG, zH]))
        (refine TG.v0 (v := ?v101) (by simp only [zA, zB, zC]; rfl) rfl ?hw101 (fun w1 => ?hy101) ?hn101; (case hw101 => rfl); (case hy101 => (go_simp; (try with_reducible rfl))); (try simp only [Act.put, zF, zG, zH]))
        refine TG.nil (fun w5 ⟨TR, hr⟩ => ?_)
        have kp1 := hr.mod.at kp1 (by intro hT; first | exact hT | exact absurd hT (by assumption) | omega | (simp only at hT; omega))
        have kl := hr.mod.at kl (by intro hT; first | exact hT | exact absurd hT (by assumption) | omega | (simp only at hT; omega))
        clear gK
        have q0 := hm.then0 hr.mod
        have HV := Lib.hid (HV.out.mod0 hr.mod)
        clear hr
        go_upto_region 9 with fail
        have Lkp1 := lt_size kp1
        have Lkl := lt_size kl
        refine wp_gpass (T0 := fun _ => False) (K := fun _ _ => True) (κ := fun i => [0, 0, 0, 0, 0, 0, 0, 0, 3, 6, 3, 6, 0, 0, 0, 0, 0, 0, 0, 0, 0, 6, 0, 0, 0, 0, 0, 0, 0, 6, 0, 0, 0, 0, 0, 0, 0, 6, 0, 0, 0, 0, 0, 0, 0, 6, 0, 0, 0, 0, 0, 6, 0, 0, 0, 0, 0, 0, 0, 0, 0, 6, 0, 0, 0, 0, 0, 0, 0, 6, 0, 0].getD i 0) (υ := fun i => [[], [], [], [], [], [], [], [], [], [41], [], [43], [], [], [], [], [], [], [], [], [], [], [], [], [], [], [], [], [], [], [], [], [], [], [], [], [], [], [], [], [], [], [], [], [], [], [], [], [], [], [], [], [], [], [], [], [], [], [], [], [], [], [], [], [], [], [], [], [], [], [], []].getD i []) [0, 1, 2, 3, 4, 5, 6, 7, 8, 9, 10, 11, 12, 13, 14, 15, 16, 17, 18, 19, 20, 21, 22, 23, 24, 25, 26, 27, 28, 29, 30, 31, 32, 33, 34, 35, 36, 37, 38, 39, 40, 41, 42, 43, 44, 45, 46, 47, 48, 49, 50, 51, 52, 53, 54, 55, 56, 57, 58, 59, 60, 61, 62, 63, 64, 65, 66, 67, 68, 69, 70, 71] (by kernel_rfl) (by kernel_rfl) (Good.true).cl (trivial) (fun _ h => h.elim) ?_
        have gK := Good.true
        (refine TG.v0 (v := ?v102) (by simp only [zA, zB, zC]; rfl) rfl ?hw102 (fun w1 => ?hy102) ?hn102; (case hw102 => rfl); (case hy102 => (go_simp; (try with_reducible rfl))); (try simp only [Act.put, zF, zG, zH]))
        (refine TG.v0 (v := ?v103) (by simp only [zA, zB, zC]; rfl) rfl ?hw103 (fun w1 => ?hy103) ?hn103; (case hw103 => rfl); (case hy103 => (go_simp; (try with_reducible rfl))); (try simp only [Act.put, zF, zG, zH]))
        (refine TG.v0 (v := ?v104) (by simp only [zA, zB, zC]; rfl) rfl ?hw104 (fun w1 => ?hy104) ?hn104; (case hw104 => rfl); (case hy104 => (go_simp; (try with_reducible rfl))); (try simp only [Act.put, zF, zG, zH]))
        (refine TG.v0 (v := ?v105) (by simp only [zA, zB, zC]; rfl) rfl ?hw105 (fun w1 => ?hy105) ?hn105; (case hw105 => rfl); (case hy105 => (go_simp; (try with_reducible rfl))); (try simp only [Act.put, zF, zG, zH]))
        (refine TG.v0 (v := ?v106) (by simp only [zA, zB, zC]; rfl) rfl ?hw106 (fun w1 => ?hy106) ?hn106; (case hw106 => rfl); (case hy106 => (go_simp; (try with_reducible rfl))); (try simp only [Act.put, zF, zG, zH]))
        (refine TG.v0 (v := ?v107) (by simp only [zA, zB, zC]; rfl) rfl ?hw107 (fun w1 => ?hy107) ?hn107; (case hw107 => rfl); (case hy107 => (go_simp; (try with_reducible rfl))); (try simp only [Act.put, zF, zG, zH]))
        (refine TG.load (v := ?v108) (p := ?p108) (by simp only [zA, zB, zC]; rfl) rfl ?hw108 rfl ?hx108 (fun wq hSq => ?hy108) ?hn108; (case hw108 => rfl); (case hx108 => (simp only [Act.eval, zD, zA, zB, zC, zE]; (try rfl))); (case hy108 => (have kp1q := hSq.at kp1 (by intro hT; first | exact hT | exact absurd hT (by assumption) | omega | (simp only at hT; omega)); have klq := hSq.at kl (by intro hT; first | exact hT | exact absurd hT (by assumption) | omega | (simp only at hT; omega)); go_simp; (try with_reducible rfl))); (try simp only [Act.put, zF, zG, zH]))
        (refine TG.load (v := ?v109) (p := ?p109) (by simp only [zA, zB, zC]; rfl) rfl ?hw109 rfl ?hx109 (fun wq hSq => ?hy109) ?hn109; (case hw109 => rfl); (case hx109 => (simp only [Act.eval, zD, zA, zB, zC, zE]; (try rfl))); (case hy109 => (have kp1q := hSq.at kp1 (by intro hT; first | exact hT | exact absurd hT (by assumption) | omega | (simp only at hT; omega)); have klq := hSq.at kl (by intro hT; first | exact hT | exact absurd hT (by assumption) | omega | (simp only at hT; omega)); go_simp; (try with_reducible rfl))); (try simp only [Act.put, zF, zG, zH]))
        (refine TG.bslice (by simp only [zA, zB, zC]; rfl) rfl ?hw110 rfl rfl ?hx110 hbt (fun p41 hp41 _ => ?hn110); (case hw110 => rfl); (case hx110 => (simp only [List.map_toArray, List.map_cons, List.map_nil, Act.eval, zD, zA, zB, zC, zE]; (try rfl))); (try simp only [Act.put, zF, zG, zH]))
        (refine TG.callM (f := ?f111) (args := ?r111) (ErL [2]) (goodEr [2]) gK (by simp only [zA, zB, zC]; rfl) rfl ?hw111 (fun w1 => ?hy111) (fun T wq kq ltq hSq ub => ?hsp111) ?hn111; (case hw111 => rfl); (case hy111 => (go_simp; (first | with_reducible rfl | (constructor <;> with_reducible rfl)))); (case hsp111 => (have kp1q := hSq.at kp1 (by intro hT; first | exact hT | exact absurd hT (by assumption) | omega | (simp only at hT; omega)); have klq := hSq.at kl (by intro hT; first | exact hT | exact absurd hT (by assumption) | omega | (simp only at hT; omega)); have kp41 := ub.box (p := p41) (by first | exact Bx.set_same _ _ _ | (simp only [Bx.set_same]; rfl)) (by first | decide | exact List.mem_singleton.2 rfl | simp); dsimp only [Value.cells] at kp41; have nUp41 := (ub p41 _ (by first | exact Bx.set_same _ _ _ | (simp only [Bx.set_same]; rfl)) (by first | decide | exact List.mem_singleton.2 rfl | simp)).1; exact (recordN _ (some ⟨p41, 0, none⟩) 1 1 wq (HV.out.mod0 hSq) (by omega)).mono (fun e w' h => by obtain ⟨g, h1, h2, h3, h4⟩ := h; exact ⟨_, h1, h4, g, rfl, Grow.new h2 (slat_lt h3 (by simp)), h3⟩))); rintro v111 ⟨wI, TI, hI⟩; replace gK := gK.and ((goodEr [2]) v111); (obtain ⟨_, g42, rfl, _, _⟩ := hI.k); (try clear hI TI wI); (try simp only [Act.put, zF, zG, zH]))
        (refine TG.bslice (by simp only [zA, zB, zC]; rfl) rfl ?hw112 rfl rfl ?hx112 (bsEr 2) (fun p43 hp43 _ => ?hn112); (case hw112 => rfl); (case hx112 => (simp only [List.map_toArray, List.map_cons, List.map_nil, Act.eval, zD, zA, zB, zC, zE]; (try rfl))); (try simp only [Act.put, zF, zG, zH]))
        obtain ⟨ne_p43_p41, hp43⟩ := Bx.set_none hp43
        (refine TG.callN (f := ?f113) (args := ?r113) (fun v => v = .bool true) gK (by simp only [zA, zB, zC]; rfl) rfl ?hw113 (fun w1 => ?hy113) (fun T wq kq ltq hSq ub => ?hsp113) ?hn113; (case hw113 => rfl); (case hy113 => (go_simp; (first | with_reducible rfl | (constructor <;> with_reducible rfl)))); (case hsp113 => (have kp1q := hSq.at kp1 (by intro hT; first | exact hT | exact absurd hT (by assumption) | omega | (simp only at hT; omega)); have klq := hSq.at kl (by intro hT; first | exact hT | exact absurd hT (by assumption) | omega | (simp only at hT; omega)); have kp43 := ub.box (p := p43) (by first | exact Bx.set_same _ _ _ | (simp only [Bx.set_ne _ (Ne.symm ne_p43_p41), Bx.set_ne _ ne_p43_p41, Bx.set_same]; rfl)) (by first | decide | exact List.mem_singleton.2 rfl | simp); dsimp only [Value.cells] at kp43; have nUp43 := (ub p43 _ (by first | exact Bx.set_same _ _ _ | (simp only [Bx.set_ne _ (Ne.symm ne_p43_p41), Bx.set_ne _ ne_p43_p41, Bx.set_same]; rfl)) (by first | decide | exact List.mem_singleton.2 rfl | simp)).1; obtain ⟨_, g0, e0, _, hE0⟩ := kq; (have e1 : g42 = g0 := by simpa using e0); subst e1; exact (errors1_c (v := 2) (u := 2) hE0 kp43).mono (fun e w' h => ⟨_, h.1, rfl, h.2⟩))); rintro v113 hC; subst hC; (try simp only [Act.put, zF, zG, zH]))
        (refine TG.v0 (v := ?v114) (by simp only [zA, zB, zC]; rfl) rfl ?hw114 (fun w1 => ?hy114) ?hn114; (case hw114 => rfl); (case hy114 => (go_simp; (try with_reducible rfl))); (try simp only [Act.put, zF, zG, zH]))
        (refine TG.v0 (v := ?v115) (by simp only [zA, zB, zC]; rfl) rfl ?hw115 (fun w1 => ?hy115) ?hn115; (case hw115 => rfl); (case hy115 => (go_simp; (try with_reducible rfl))); (try simp only [Act.put, zF, zG, zH]))
        (refine TG.v0 (v := ?v116) (by simp only [zA, zB, zC]; rfl) rfl ?hw116 (fun w1 => ?hy116) ?hn116; (case hw116 => rfl); (case hy116 => (go_simp; (try with_reducible rfl))); (try simp only [Act.put, zF, zG, zH]))
        (refine TG.v0 (v := ?v117) (by simp only [zA, zB, zC]; rfl) rfl ?hw117 (fun w1 => ?hy117) ?hn117; (case hw117 => rfl); (case hy117 => (go_simp; (try with_reducible rfl))); (try simp only [Act.put, zF, zG, zH]))
        (refine TG.v0 (v := ?v118) (by simp only [zA, zB, zC]; rfl) rfl ?hw118 (fun w1 => ?hy118) ?hn118; (case hw118 => rfl); (case hy118 => (go_simp; (try with_reducible rfl))); (try simp only [Act.put, zF, zG, zH]))
        (refine TG.v0 (v := ?v119) (by simp only [zA, zB, zC]; rfl) rfl ?hw119 (fun w1 => ?hy119) ?hn119; (case hw119 => rfl); (case hy119 => (go_simp; (try with_reducible rfl))); (try simp only [Act.put, zF, zG, zH]))
        (refine TG.load (v := ?v120) (p := ?p120) (by simp only [zA, zB, zC]; rfl) rfl ?hw120 rfl ?hx120 (fun wq hSq => ?hy120) ?hn120; (case hw120 => rfl); (case hx120 => (simp only [Act.eval, zD, zA, zB, zC, zE]; (try rfl))); (case hy120 => (have kp1q := hSq.at kp1 (by intro hT; first | exact hT | exact absurd hT (by assumption) | omega | (simp only at hT; omega)); have klq := hSq.at kl (by intro hT; first | exact hT | exact absurd hT (by assumption) | omega | (simp only at hT; omega)); go_simp; (try with_reducible rfl))); (try simp only [Act.put, zF, zG, zH]))
        (refine TG.v0 (v := ?v121) (by simp only [zA, zB, zC]; rfl) rfl ?hw121 (fun w1 => ?hy121) ?hn121; (case hw121 => rfl); (case hy121 => (go_simp; (try with_reducible rfl))); (try simp only [Act.put, zF, zG, zH]))
        (refine TG.load (v := ?v122) (p := ?p122) (by simp only [zA, zB, zC]; rfl) rfl ?hw122 rfl ?hx122 (fun wq hSq => ?hy122) ?hn122; (case hw122 => rfl); (case hx122 => (simp only [Act.eval, zD, zA, zB, zC, zE]; (try rfl))); (case hy122 => (have kp1q := hSq.at kp1 (by intro hT; first | exact hT | exact absurd hT (by assumption) | omega | (simp only at hT; omega)); have klq := hSq.at kl (by intro hT; first | exact hT | exact absurd hT (by assumption) | omega | (simp only at hT; omega)); go_simp; (try with_reducible rfl))); (try simp only [Act.put, zF, zG, zH]))
        (refine TG.callN (f := ?f123) (args := ?r123) (fun v => v = .int .i64 2) gK (by simp only [zA, zB, zC]; rfl) rfl ?hw123 (fun w1 => ?hy123) (fun T wq kq ltq hSq ub => ?hsp123) ?hn123; (case hw123 => rfl); (case hy123 => (go_simp; (first | with_reducible rfl | (constructor <;> with_reducible rfl)))); (case hsp123 => (have kp1q := hSq.at kp1 (by intro hT; first | exact hT | exact absurd hT (by assumption) | omega | (simp only at hT; omega)); have klq := hSq.at kl (by intro hT; first | exact hT | exact absurd hT (by assumption) | omega | (simp only at hT; omega)); exact (commitN _ x.o wq (HV.out.mod0 hSq)).mono (fun e w' h => ⟨_, h.1, rfl, h.2⟩))); rintro v123 hC; subst hC; (try simp only [Act.put, zF, zG, zH]))
        (refine TG.v0 (v := ?v124) (by simp only [zA, zB, zC]; rfl) rfl ?hw124 (fun w1 => ?hy124) ?hn124; (case hw124 => rfl); (case hy124 => (go_simp; (try with_reducible rfl))); (try simp only [Act.put, zF, zG, zH]))
        (refine TG.v0 (v := ?v125) (by simp only [zA, zB, zC]; rfl) rfl ?hw125 (fun w1 => ?hy125) ?hn125; (case hw125 => rfl); (case hy125 => (go_simp; (try with_reducible rfl))); (try simp only [Act.put, zF, zG, zH]))
        (refine TG.v0 (v := ?v126) (by simp only [zA, zB, zC]; rfl) rfl ?hw126 (fun w1 => ?hy126) ?hn126; (case hw126 => rfl); (case hy126 => (go_simp; (try with_reducible rfl))); (try simp only [Act.put, zF, zG, zH]))
        (refine TG.v0 (v := ?v127) (by simp only [zA, zB, zC]; rfl) rfl ?hw127 (fun w1 => ?hy127) ?hn127; (case hw127 => rfl); (case hy127 => (go_simp; (try with_reducible rfl))); (try simp only [Act.put, zF, zG, zH]))
        (refine TG.v0 (v := ?v128) (by simp only [zA, zB, zC]; rfl) rfl ?hw128 (fun w1 => ?hy128) ?hn128; (case hw128 => rfl); (case hy128 => (go_simp; (try with_reducible rfl))); (try simp only [Act.put, zF, zG, zH]))
        (refine TG.v0 (v := ?v129) (by simp only [zA, zB, zC]; rfl) rfl ?hw129 (fun w1 => ?hy129) ?hn129; (case hw129 => rfl); (case hy129 => (go_simp; (try with_reducible rfl))); (try simp only [Act.put, zF, zG, zH]))
        (refine TG.load (v := ?v130) (p := ?p130) (by simp only [zA, zB, zC]; rfl) rfl ?hw130 rfl ?hx130 (fun wq hSq => ?hy130) ?hn130; (case hw130 => rfl); (case hx130 => (simp only [Act.eval, zD, zA, zB, zC, zE]; (try rfl))); (case hy130 => (have kp1q := hSq.at kp1 (by intro hT; first | exact hT | exact absurd hT (by assumption) | omega | (simp only at hT; omega)); have klq := hSq.at kl (by intro hT; first | exact hT | exact absurd hT (by assumption) | omega | (simp only at hT; omega)); go_simp; (try with_reducible rfl))); (try simp only [Act.put, zF, zG, zH]))
        (refine TG.callN (f := ?f131) (args := ?r131) (fun v => v = .int .i64 2) gK (by simp only [zA, zB, zC]; rfl) rfl ?hw131 (fun w1 => ?hy131) (fun T wq kq ltq hSq ub => ?hsp131) ?hn131; (case hw131 => rfl); (case hy131 => (go_simp; (first | with_reducible rfl | (constructor <;> with_reducible rfl)))); (case hsp131 => (have kp1q := hSq.at kp1 (by intro hT; first | exact hT | exact absurd hT (by assumption) | omega | (simp only at hT; omega)); have klq := hSq.at kl (by intro hT; first | exact hT | exact absurd hT (by assumption) | omega | (simp only at hT; omega)); exact (endN _ wq (HV.out.mod0 hSq)).mono (fun e w' h => ⟨_, h.1, rfl, h.2⟩))); rintro v131 hC; subst hC; (try simp only [Act.put, zF, zG, zH]))
        (refine TG.v0 (v := ?v132) (by simp only [zA, zB, zC]; rfl) rfl ?hw132 (fun w1 => ?hy132) ?hn132; (case hw132 => rfl); (case hy132 => (go_simp; (try with_reducible rfl))); (try simp only [Act.put, zF, zG, zH]))
        (refine TG.v0 (v := ?v133) (by simp only [zA, zB, zC]; rfl) rfl ?hw133 (fun w1 => ?hy133) ?hn133; (case hw133 => rfl); (case hy133 => (go_simp; (try with_reducible rfl))); (try simp only [Act.put, zF, zG, zH]))
        (refine TG.v0 (v := ?v134) (by simp only [zA, zB, zC]; rfl) rfl ?hw134 (fun w1 => ?hy134) ?hn134; (case hw134 => rfl); (case hy134 => (go_simp; (try with_reducible rfl))); (try simp only [Act.put, zF, zG, zH]))
        (refine TG.v0 (v := ?v135) (by simp only [zA, zB, zC]; rfl) rfl ?hw135 (fun w1 => ?hy135) ?hn135; (case hw135 => rfl); (case hy135 => (go_simp; (try with_reducible rfl))); (try simp only [Act.put, zF, zG, zH]))
        (refine TG.v0 (v := ?v136) (by simp only [zA, zB, zC]; rfl) rfl ?hw136 (fun w1 => ?hy136) ?hn136; (case hw136 => rfl); (case hy136 => (go_simp; (try with_reducible rfl))); (try simp only [Act.put, zF, zG, zH]))
        (refine TG.v0 (v := ?v137) (by simp only [zA, zB, zC]; rfl) rfl ?hw137 (fun w1 => ?hy137) ?hn137; (case hw137 => rfl); (case hy137 => (go_simp; (try with_reducible rfl))); (try simp only [Act.put, zF, zG, zH]))
        (refine TG.load (v := ?v138) (p := ?p138) (by simp only [zA, zB, zC]; rfl) rfl ?hw138 rfl ?hx138 (fun wq hSq => ?hy138) ?hn138; (case hw138 => rfl); (case hx138 => (simp only [Act.eval, zD, zA, zB, zC, zE]; (try rfl))); (case hy138 => (have kp1q := hSq.at kp1 (by intro hT; first | exact hT | exact absurd hT (by assumption) | omega | (simp only at hT; omega)); have klq := hSq.at kl (by intro hT; first | exact hT | exact absurd hT (by assumption) | omega | (simp only at hT; omega)); go_simp; (try with_reducible rfl))); (try simp only [Act.put, zF, zG, zH]))
        (refine TG.callN (f := ?f139) (args := ?r139) (fun v => v = .bool true) gK (by simp only [zA, zB, zC]; rfl) rfl ?hw139 (fun w1 => ?hy139) (fun T wq kq ltq hSq ub => ?hsp139) ?hn139; (case hw139 => rfl); (case hy139 => (go_simp; (first | with_reducible rfl | (constructor <;> with_reducible rfl)))); (case hsp139 => (have kp1q := hSq.at kp1 (by intro hT; first | exact hT | exact absurd hT (by assumption) | omega | (simp only at hT; omega)); have klq := hSq.at kl (by intro hT; first | exact hT | exact absurd hT (by assumption) | omega | (simp only at hT; omega)); exact (endedN _ wq (HV.out.mod0 hSq)).mono (fun e w' h => ⟨_, h.1, rfl, h.2⟩))); rintro v139 hC; subst hC; (try simp only [Act.put, zF, zG, zH]))
        (refine TG.v0 (v := ?v140) (by simp only [zA, zB, zC]; rfl) rfl ?hw140 (fun w1 => ?hy140) ?hn140; (case hw140 => rfl); (case hy140 => (go_simp; (try with_reducible rfl))); (try simp only [Act.put, zF, zG, zH]))
        (refine TG.v0 (v := ?v141) (by simp only [zA, zB, zC]; rfl) rfl ?hw141 (fun w1 => ?hy141) ?hn141; (case hw141 => rfl); (case hy141 => (go_simp; (try with_reducible rfl))); (try simp only [Act.put, zF, zG, zH]))
        (refine TG.v0 (v := ?v142) (by simp only [zA, zB, zC]; rfl) rfl ?hw142 (fun w1 => ?hy142) ?hn142; (case hw142 => rfl); (case hy142 => (go_simp; (try with_reducible rfl))); (try simp only [Act.put, zF, zG, zH]))
        (refine TG.v0 (v := ?v143) (by simp only [zA, zB, zC]; rfl) rfl ?hw143 (fun w1 => ?hy143) ?hn143; (case hw143 => rfl); (case hy143 => (go_simp; (try with_reducible rfl))); (try simp only [Act.put, zF, zG, zH]))
        (refine TG.v0 (v := ?v144) (by simp only [zA, zB, zC]; rfl) rfl ?hw144 (fun w1 => ?hy144) ?hn144; (case hw144 => rfl); (case hy144 => (go_simp; (try with_reducible rfl))); (try simp only [Act.put, zF, zG, zH]))
        (refine TG.v0 (v := ?v145) (by simp only [zA, zB, zC]; rfl) rfl ?hw145 (fun w1 => ?hy145) ?hn145; (case hw145 => rfl); (case hy145 => (go_simp; (try with_reducible rfl))); (try simp only [Act.put, zF, zG, zH]))
        (refine TG.load (v := ?v146) (p := ?p146) (by simp only [zA, zB, zC]; rfl) rfl ?hw146 rfl ?hx146 (fun wq hSq => ?hy146) ?hn146; (case hw146 => rfl); (case hx146 => (simp only [Act.eval, zD, zA, zB, zC, zE]; (try rfl))); (case hy146 => (have kp1q := hSq.at kp1 (by intro hT; first | exact hT | exact absurd hT (by assumption) | omega | (simp only at hT; omega)); have klq := hSq.at kl (by intro hT; first | exact hT | exact absurd hT (by assumption) | omega | (simp only at hT; omega)); go_simp; (try with_reducible rfl))); (try simp only [Act.put, zF, zG, zH]))
        (refine TG.callN (f := ?f147) (args := ?r147) (fun v => v = .slice none 0 0) gK (by simp only [zA, zB, zC]; rfl) rfl ?hw147 (fun w1 => ?hy147) (fun T wq kq ltq hSq ub => ?hsp147) ?hn147; (case hw147 => rfl); (case hy147 => (go_simp; (first | with_reducible rfl | (constructor <;> with_reducible rfl)))); (case hsp147 => (have kp1q := hSq.at kp1 (by intro hT; first | exact hT | exact absurd hT (by assumption) | omega | (simp only at hT; omega)); have klq := hSq.at kl (by intro hT; first | exact hT | exact absurd hT (by assumption) | omega | (simp only at hT; omega)); exact (entriesN _ wq (HV.out.mod0 hSq)).mono (fun e w' h => ⟨_, h.1, rfl, h.2⟩))); rintro v147 hC; subst hC; (try simp only [Act.put, zF, zG, zH]))
        (refine TG.v0 (v := ?v148) (by simp only [zA, zB, zC]; rfl) rfl ?hw148 (fun w1 => ?hy148) ?hn148; (case hw148 => rfl); (case hy148 => (go_simp; (try with_reducible rfl))); (try simp only [Act.put, zF, zG, zH]))
        (refine TG.v0 (v := ?v149) (by simp only [zA, zB, zC]; rfl) rfl ?hw149 (fun w1 => ?hy149) ?hn149; (case hw149 => rfl); (case hy149 => (go_simp; (try with_reducible rfl))); (try simp only [Act.put, zF, zG, zH]))
        (refine TG.v0 (v := ?v150) (by simp only [zA, zB, zC]; rfl) rfl ?hw150 (fun w1 => ?hy150) ?hn150; (case hw150 => rfl); (case hy150 => (go_simp; (try with_reducible rfl))); (try simp only [Act.put, zF, zG, zH]))
        (refine TG.v0 (v := ?v151) (by simp only [zA, zB, zC]; rfl) rfl ?hw151 (fun w1 => ?hy151) ?hn151; (case hw151 => rfl); (case hy151 => (go_simp; (try with_reducible rfl))); (try simp only [Act.put, zF, zG, zH]))
        (refine TG.load (v := ?v152) (p := ?p152) (by simp only [zA, zB, zC]; rfl) rfl ?hw152 rfl ?hx152 (fun wq hSq => ?hy152) ?hn152; (case hw152 => rfl); (case hx152 => (simp only [Act.eval, zD, zA, zB, zC, zE]; (try rfl))); (case hy152 => (have kp1q := hSq.at kp1 (by intro hT; first | exact hT | exact absurd hT (by assumption) | omega | (simp only at hT; omega)); have klq := hSq.at kl (by intro hT; first | exact hT | exact absurd hT (by assumption) | omega | (simp only at hT; omega)); go_simp; (try with_reducible rfl))); (try simp only [Act.put, zF, zG, zH]))
        (refine TG.callN (f := ?f153) (args := ?r153) (fun v => v = .slice none 0 0) gK (by simp only [zA, zB, zC]; rfl) rfl ?hw153 (fun w1 => ?hy153) (fun T wq kq ltq hSq ub => ?hsp153) ?hn153; (case hw153 => rfl); (case hy153 => (go_simp; (first | with_reducible rfl | (constructor <;> with_reducible rfl)))); (case hsp153 => (have kp1q := hSq.at kp1 (by intro hT; first | exact hT | exact absurd hT (by assumption) | omega | (simp only at hT; omega)); have klq := hSq.at kl (by intro hT; first | exact hT | exact absurd hT (by assumption) | omega | (simp only at hT; omega)); exact (outsN _ wq (HV.out.mod0 hSq)).mono (fun e w' h => ⟨_, h.1, rfl, h.2⟩))); rintro v153 hC; subst hC; (try simp only [Act.put, zF, zG, zH]))
        (refine TG.v0 (v := ?v154) (by simp only [zA, zB, zC]; rfl) rfl ?hw154 (fun w1 => ?hy154) ?hn154; (case hw154 => rfl); (case hy154 => (go_simp; (try with_reducible rfl))); (try simp only [Act.put, zF, zG, zH]))
        (refine TG.v0 (v := ?v155) (by simp only [zA, zB, zC]; rfl) rfl ?hw155 (fun w1 => ?hy155) ?hn155; (case hw155 => rfl); (case hy155 => (go_simp; (try with_reducible rfl))); (try simp only [Act.put, zF, zG, zH]))
        (refine TG.v0 (v := ?v156) (by simp only [zA, zB, zC]; rfl) rfl ?hw156 (fun w1 => ?hy156) ?hn156; (case hw156 => rfl); (case hy156 => (go_simp; (try with_reducible rfl))); (try simp only [Act.put, zF, zG, zH]))
        (refine TG.v0 (v := ?v157) (by simp only [zA, zB, zC]; rfl) rfl ?hw157 (fun w1 => ?hy157) ?hn157; (case hw157 => rfl); (case hy157 => (go_simp; (try with_reducible rfl))); (try simp only [Act.put, zF, zG, zH]))
        (refine TG.v0 (v := ?v158) (by simp only [zA, zB, zC]; rfl) rfl ?hw158 (fun w1 => ?hy158) ?hn158; (case hw158 => rfl); (case hy158 => (go_simp; (try with_reducible rfl))); (try simp only [Act.put, zF, zG, zH]))
        (refine TG.v0 (v := ?v159) (by simp only [zA, zB, zC]; rfl) rfl ?hw159 (fun w1 => ?hy159) ?hn159; (case hw159 => rfl); (case hy159 => (go_simp; (try with_reducible rfl))); (try simp only [Act.put, zF, zG, zH]))
        (refine TG.v0 (v := ?v160) (by simp only [zA, zB, zC]; rfl) rfl ?hw160 (fun w1 => ?hy160) ?hn160; (case hw160 => rfl); (case hy160 => (go_simp; (try with_reducible rfl))); (try simp only [Act.put, zF, zG, zH]))
        (refine TG.v0 (v := ?v161) (by simp only [zA, zB, zC]; rfl) rfl ?hw161 (fun w1 => ?hy161) ?hn161; (case hw161 => rfl); (case hy161 => (go_simp; (try with_reducible rfl))); (try simp only [Act.put, zF, zG, zH]))
        (refine TG.load (v := ?v162) (p := ?p162) (by simp only [zA, zB, zC]; rfl) rfl ?hw162 rfl ?hx162 (fun wq hSq => ?hy162) ?hn162; (case hw162 => rfl); (case hx162 => (simp only [Act.eval, zD, zA, zB, zC, zE]; (try rfl))); (case hy162 => (have kp1q := hSq.at kp1 (by intro hT; first | exact hT | exact absurd hT (by assumption) | omega | (simp only at hT; omega)); have klq := hSq.at kl (by intro hT; first | exact hT | exact absurd hT (by assumption) | omega | (simp only at hT; omega)); go_simp; (try with_reducible rfl))); (try simp only [Act.put, zF, zG, zH]))
        (refine TG.callN (f := ?f163) (args := ?r163) (fun v => v = .int .u64 0) gK (by simp only [zA, zB, zC]; rfl) rfl ?hw163 (fun w1 => ?hy163) (fun T wq kq ltq hSq ub => ?hsp163) ?hn163; (case hw163 => rfl); (case hy163 => (go_simp; (first | with_reducible rfl | (constructor <;> with_reducible rfl)))); (case hsp163 => (have kp1q := hSq.at kp1 (by intro hT; first | exact hT | exact absurd hT (by assumption) | omega | (simp only at hT; omega)); have klq := hSq.at kl (by intro hT; first | exact hT | exact absurd hT (by assumption) | omega | (simp only at hT; omega)); exact (feesN _ wq (HV.out.mod0 hSq)).mono (fun e w' h => ⟨_, h.1, rfl, h.2⟩))); rintro v163 hC; subst hC; (try simp only [Act.put, zF, zG, zH]))
        (refine TG.v0 (v := ?v164) (by simp only [zA, zB, zC]; rfl) rfl ?hw164 (fun w1 => ?hy164) ?hn164; (case hw164 => rfl); (case hy164 => (go_simp; (try with_reducible rfl))); (try simp only [Act.put, zF, zG, zH]))
        (refine TG.v0 (v := ?v165) (by simp only [zA, zB, zC]; rfl) rfl ?hw165 (fun w1 => ?hy165) ?hn165; (case hw165 => rfl); (case hy165 => (go_simp; (try with_reducible rfl))); (try simp only [Act.put, zF, zG, zH]))
        (refine TG.v0 (v := ?v166) (by simp only [zA, zB, zC]; rfl) rfl ?hw166 (fun w1 => ?hy166) ?hn166; (case hw166 => rfl); (case hy166 => (go_simp; (try with_reducible rfl))); (try simp only [Act.put, zF, zG, zH]))
        (refine TG.v0 (v := ?v167) (by simp only [zA, zB, zC]; rfl) rfl ?hw167 (fun w1 => ?hy167) ?hn167; (case hw167 => rfl); (case hy167 => (go_simp; (try with_reducible rfl))); (try simp only [Act.put, zF, zG, zH]))
        (refine TG.v0 (v := ?v168) (by simp only [zA, zB, zC]; rfl) rfl ?hw168 (fun w1 => ?hy168) ?hn168; (case hw168 => rfl); (case hy168 => (go_simp; (try with_reducible rfl))); (try simp only [Act.put, zF, zG, zH]))
        (refine TG.v0 (v := ?v169) (by simp only [zA, zB, zC]; rfl) rfl ?hw169 (fun w1 => ?hy169) ?hn169; (case hw169 => rfl); (case hy169 => (go_simp; (try with_reducible rfl))); (try simp only [Act.put, zF, zG, zH]))
        (refine TG.load (v := ?v170) (p := ?p170) (by simp only [zA, zB, zC]; rfl) rfl ?hw170 rfl ?hx170 (fun wq hSq => ?hy170) ?hn170; (case hw170 => rfl); (case hx170 => (simp only [Act.eval, zD, zA, zB, zC, zE]; (try rfl))); (case hy170 => (have kp1q := hSq.at kp1 (by intro hT; first | exact hT | exact absurd hT (by assumption) | omega | (simp only at hT; omega)); have klq := hSq.at kl (by intro hT; first | exact hT | exact absurd hT (by assumption) | omega | (simp only at hT; omega)); go_simp; (try with_reducible rfl))); (try simp only [Act.put, zF, zG, zH]))
        (refine TG.callN (f := ?f171) (args := ?r171) (fun v => v = .int .u64 0) gK (by simp only [zA, zB, zC]; rfl) rfl ?hw171 (fun w1 => ?hy171) (fun T wq kq ltq hSq ub => ?hsp171) ?hn171; (case hw171 => rfl); (case hy171 => (go_simp; (first | with_reducible rfl | (constructor <;> with_reducible rfl)))); (case hsp171 => (have kp1q := hSq.at kp1 (by intro hT; first | exact hT | exact absurd hT (by assumption) | omega | (simp only at hT; omega)); have klq := hSq.at kl (by intro hT; first | exact hT | exact absurd hT (by assumption) | omega | (simp only at hT; omega)); exact (costN _ wq (HV.out.mod0 hSq)).mono (fun e w' h => ⟨_, h.1, rfl, h.2⟩))); rintro v171 hC; subst hC; (try simp only [Act.put, zF, zG, zH]))
        (refine TG.v0 (v := ?v172) (by simp only [zA, zB, zC]; rfl) rfl ?hw172 (fun w1 => ?hy172) ?hn172; (case hw172 => rfl); (case hy172 => (go_simp; (try with_reducible rfl))); (try simp only [Act.put, zF, zG, zH]))
        (refine TG.v0 (v := ?v173) (by simp only [zA, zB, zC]; rfl) rfl ?hw173 (fun w1 => ?hy173) ?hn173; (case hw173 => rfl); (case hy173 => (go_simp; (try with_reducible rfl))); (try simp only [Act.put, zF, zG, zH]))
        refine TG.nil (fun w6 ⟨TR, hr⟩ => ?_)
        have kp1 := hr.mod.at kp1 (by intro hT; first | exact hT | exact absurd hT (by assumption) | omega | (simp only at hT; omega))
        have kl := hr.mod.at kl (by intro hT; first | exact hT | exact absurd hT (by assumption) | omega | (simp only at hT; omega))
        have kp41 := hr.box p41 _ (by first | exact Bx.set_same _ _ _ | (simp only [Bx.set_ne _ (Ne.symm ne_p43_p41), Bx.set_ne _ ne_p43_p41, Bx.set_same]; rfl)); dsimp only [Value.cells] at kp41; obtain ⟨gp41, nTp41, kp41⟩ := kp41
        have kp43 := hr.box p43 _ (by first | exact Bx.set_same _ _ _ | (simp only [Bx.set_ne _ (Ne.symm ne_p43_p41), Bx.set_ne _ ne_p43_p41, Bx.set_same]; rfl)); dsimp only [Value.cells] at kp43; obtain ⟨gp43, nTp43, kp43⟩ := kp43
        clear gK
        have q1 := q0.then0 hr.mod
        clear hr hbt
        go_wp2_with fail
        go_roundw
        case rel => exact ⟨2, by omega, rfl, q1⟩
        case measure => simp [intOf]
      · have mm := MM.out.then0 hm
        have hb0 := bldLim0
        clear kp1 kl
        go_wp2_with fail
        go_at_call 22
        refine (newQ_c _).mono ?_
        rintro e wn ⟨qa, rfl, -, -, m2⟩
        replace mm := mm.trans m2
        clear m2
        go_wp2_with fail
        go_at_call 23
        refine (newN_c _).mono ?_
        rintro e wn ⟨na, rfl, -, -, -, m2⟩
        replace mm := mm.trans m2
        clear m2
        go_wp2_with fail
        go_at_call 21
        refine (openS0 0 qa na _).mono ?_
        rintro e wn ⟨rfl, m2⟩
        replace mm := mm.trans m2
        clear m2
        go_wp2_with fail
        go_at_call 24
        refine (newS_c _).mono ?_
        rintro e wn ⟨sa, ba, rfl, -, -, -, m2⟩
        replace mm := mm.trans m2
        clear m2
        go_wp2_with fail
        go_at_call 23
        refine (newN_c _).mono ?_
        rintro e wn ⟨nb, rfl, -, -, -, m2⟩
        replace mm := mm.trans m2
        clear m2
        go_wp2_with fail
        go_at_call 21
        refine (openQ0 sa 0 nb _).mono ?_
        rintro e wn ⟨rfl, m2⟩
        replace mm := mm.trans m2
        clear m2
        go_wp2_with fail
        go_at_call 24
        refine (newS_c _).mono ?_
        rintro e wn ⟨sb, bb, rfl, -, -, -, m2⟩
        replace mm := mm.trans m2
        clear m2
        go_wp2_with fail
        go_at_call 22
        refine (newQ_c _).mono ?_
        rintro e wn ⟨qb, rfl, -, -, m2⟩
        replace mm := mm.trans m2
        clear m2
        go_wp2_with fail
        go_at_call 21
        refine (openN0 sb qb 0 _).mono ?_
        rintro e wn ⟨rfl, m2⟩
        replace mm := mm.trans m2
        clear m2
        go_wp2_with fail
        go_at_call 6
        refine (lives_c _).mono ?_
        rintro e wn ⟨rfl, m2⟩
        replace mm := mm.trans m2
        clear m2
        go_wp2_with fail
        go_ret
        exact ⟨rfl, mm⟩
end Go.Proofs.Ytofpnmoeimjnnaa
