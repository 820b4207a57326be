/- Has a transaction more than is gone through? (the law's own Great) -/
import Derived.Test.YtofpnmoeimjnnaaBk
namespace Go.Proofs.Ytofpnmoeimjnnaa
open Go.RowKit
open Go.ChangeMaps (setBlock)
set_option linter.unusedSimpArgs false
set_option linter.unusedVariables false
attribute [local go_sem ↓] wlKey ldKey stKey wlAcct ldAcct stAcct wlHold ldHold stHold wlHash ldHash stHash wlSig ldSig stSig wlLim ldLim stLim wlRdy ldRdy stRdy wlOut ldOut stOut wlTd ldTd stTd wlTx ldTx stTx eqKey1
attribute [local go_sem] eqMap neMap av_size av_all av_one hd_size hd_key hd_acct hd_all hd_one zKey_size zAcct_size zHold_size zHash_size zSg_size zLim_size zRdy_size zOut_size zTried_size zTx_size cell_blk frozen_blk kc_ext one_int one_bool one_ptr one_slice one_map kc_one kc_one0 kc_size sgc_size sgc_ext sgc_one0 sgc_one' rdr_size rdr_all rdr_one rdr_tx rdr_rec rdr0 rdr1 rdr6 rdr39 rdr40 rdr41 rdr0' rdr1' rdr6' rdr39' rdr40' rdr41' ocr_size ocr_all ocr_one ocr2 ocr3 ocr4 ocr5 ocr2' ocr3' ocr4' ocr5' tdr_size tdr_all tdr_one tdr_r tdr_o tdr_tx tdr_rec tdr0 tdr1 tdr41 tdr50 tdr51 tdr52 tdr53 tdr0' tdr1' tdr41' tdr50' tdr51' tdr52' tdr53' txr_size txr_all txr_one txr0 txr38 txr39 txr0' txr38' txr39' Value.cells

theorem in_parts {w : World} {a : Option Addr} {l : List InR} (h : SlAt inr 3 w a l) {i : Nat} {x : InR} (hx : l[i]? = some x) : ∃ g o C U fr, a = some ⟨g, o, none⟩ ∧ w.heap[g]? = some (.cells C U fr) ∧ C[o + i * 3 + 1]? = some (.slice x.a.a x.a.l.length x.a.c) ∧ C[o + i * 3 + 2]? = some (.slice x.d.a x.d.l.length x.d.c) := by
  obtain ⟨g, o, C, U, fr, rfl, hk, he, _⟩ := h.block hx
  exact ⟨g, o, C, U, fr, rfl, hk, cellC he (j := 1) rfl, cellC he (j := 2) rfl⟩
theorem lo_parts {w : World} {a : Option Addr} {l : List LoR} (h : SlAt lor 34 w a l) {i : Nat} {x : LoR} (hx : l[i]? = some x) : ∃ g o C U fr, a = some ⟨g, o, none⟩ ∧ w.heap[g]? = some (.cells C U fr) ∧ C[o + i * 34 + 32]? = some (.slice x.w.a x.w.l.length x.w.c) ∧ C[o + i * 34 + 33]? = some (.slice x.r.a x.r.l.length x.r.c) := by
  obtain ⟨g, o, C, U, fr, rfl, hk, he, _⟩ := h.block hx
  exact ⟨g, o, C, U, fr, rfl, hk, cellC he (j := 32) (kx_get _ _ 0), cellC he (j := 33) (kx_get _ _ 1)⟩
/-- A verdict of which something is told where it is no. -/
def GrR (p : Prop) (w : World) (e : Ending) (w' : World) : Prop := ∃ b, e = .returned (.bool b) ∧ (b = false → p) ∧ Mod (fun _ => False) w w'
theorem GrR.of {p : Prop} {w : World} {e : Ending} {w' : World} (b : Bool) (he : e = .returned (.bool b)) (hp : b = false → p) (hm : Mod (fun _ => False) w w') : GrR p w e w' := ⟨b, he, hp, hm⟩
set_option maxRecDepth 20000 in
set_option maxHeartbeats 3200000 in
theorem great15_c (x : RdR) (w : World) (hi : SlAt inr 3 w x.ins.a x.ins.l) (hk : SlAt lor 34 w x.lks.a x.lks.l) (b1 : x.ins.l.length ≤ 140737488355328) (b2 : x.lks.l.length ≤ 140737488355328) :
    Calls Try.prog 12 #[.agg (rdr x)] w (GrR (x.ins.l.length ≤ 200 ∧ x.ro.l.length ≤ 300) w) := by
  have HI := Lib.hid hi
  have HK := Lib.hid hk
  clear hi hk
  go_enter Try.func12, Try.ntmps12
  go_upto_region 0 with fail
  refine wp_pass0 (C := fun _ _ _ => False) (κ := fun i => [3, 0].getD i 0) [0, 1] (by kernel_rfl) (by kernel_rfl) (fun _ _ d _ _ h => by cases d <;> first | exact h | exact absurd h (hP _ _ _)) ?_
  (refine TD.box (v := ?v1) (by simp only [zA, zB, zC]; rfl) rfl ?hw1 rfl rfl ?hx1 (fun p1 hp1 => ?hn1); (case hw1 => rfl); (case hx1 => (simp only [Act.eval, zD, zA, zB, zC, zE]; (try rfl))); (try simp only [Act.put, zF, zG, zH]))
  (refine TD.val0 (v := ?v2) (by simp only [zA, zB, zC]; rfl) rfl ?hw2 (fun w1 => ?hy2) ?hn2; (case hw2 => rfl); (case hy2 => (go_simp; (try with_reducible rfl))); (try simp only [Act.put, zF, zG, zH]))
  refine TD.nil (fun w1 hr => ?_)
  have kp1 := hr.box p1 _ (by first | exact Bx.set_same _ _ _ | (simp only [Bx.set_same]; rfl)); dsimp only [Value.cells] at kp1; obtain ⟨gp1, kp1⟩ := kp1
  have m1 := hr.mod
  clear hr
  go_upto_region 2 with fail
  go_wp2_with fail
  go_loopw [3, 4] (fun s3 s4 ws => ∃ (i : Nat) (n : Int), i ≤ x.ins.l.length ∧ s3 = .int .i64 n ∧ s4 = .int .i64 (i : Int) ∧ Mod (fun _ => False) w1 ws) (fun _ s4 _ => x.ins.l.length - (intOf s4).toNat)
  case atStart => exact ⟨0, _, by omega, rfl, rfl, Mod.refl _ _⟩
  case round =>
    have KP := Lib.hid kp1
    obtain ⟨i, n, hi, rfl, rfl, hm⟩ := hrel
    have kp1 := hm.at0 kp1
    have mm := m1.trans hm
    by_cases hlt : i < x.ins.l.length
    · have hdl : decide ((i : Int) < (x.ins.l.length : Int)) = true := decide_eq_true (by omega)
      by_cases hn : n < 20000
      · have hdn := decide_eq_true hn
        obtain ⟨y, hy⟩ : ∃ y, x.ins.l[i]? = some y := ⟨_, List.getElem?_eq_getElem hlt⟩
        obtain ⟨g, o, C, U, fr, ha, kg, c1, c2⟩ := in_parts (HI.out.mod0 mm) hy
        clear hy
        go_upto_region 5 with fail
        have Lkp1 := lt_size kp1
        have Lkg := lt_size kg
        refine wp_pass (C := fun _ _ _ => False) (κ := fun i => [0, 0, 0, 0, 1, 0, 0, 0, 1, 0, 0, 0, 0, 0, 1, 0, 0, 0, 1, 0, 0, 0].getD i 0) [0, 1, 2, 3, 4, 5, 6, 7, 8, 9, 10, 11, 12, 13, 14, 15, 16, 17, 18, 19, 20, 21] (by kernel_rfl) (by kernel_rfl) (fun _ _ d _ _ h => by cases d <;> first | exact h | exact absurd h (hP _ _ _)) ?_
        (refine TD.val0 (v := ?v3) (by simp only [zA, zB, zC]; rfl) rfl ?hw3 (fun w1 => ?hy3) ?hn3; (case hw3 => rfl); (case hy3 => (go_simp; (try with_reducible rfl))); (try simp only [Act.put, zF, zG, zH]))
        (refine TD.val0 (v := ?v4) (by simp only [zA, zB, zC]; rfl) rfl ?hw4 (fun w1 => ?hy4) ?hn4; (case hw4 => rfl); (case hy4 => (go_simp; (try with_reducible rfl))); (try simp only [Act.put, zF, zG, zH]))
        (refine TD.val0 (v := ?v5) (by simp only [zA, zB, zC]; rfl) rfl ?hw5 (fun w1 => ?hy5) ?hn5; (case hw5 => rfl); (case hy5 => (go_simp; (try with_reducible rfl))); (try simp only [Act.put, zF, zG, zH]))
        (refine TD.val0 (v := ?v6) (by simp only [zA, zB, zC]; rfl) rfl ?hw6 (fun w1 => ?hy6) ?hn6; (case hw6 => rfl); (case hy6 => (go_simp; (try with_reducible rfl))); (try simp only [Act.put, zF, zG, zH]))
        (refine TD.load (v := ?v7) (p := ?p7) (Mod.refl _ _) (by simp only [zA, zB, zC]; rfl) rfl ?hw7 rfl ?hx7 (fun wq hSq => ?hy7) ?hn7; (case hw7 => rfl); (case hx7 => (simp only [Act.eval, zD, zA, zB, zC, zE]; (try rfl))); (case hy7 => (have kp1q := hSq.at kp1 (fun h => h); have kgq := hSq.at kg (fun h => h); go_simp; (try with_reducible rfl))); (try simp only [Act.put, zF, zG, zH]))
        (refine TD.val0 (v := ?v8) (by simp only [zA, zB, zC]; rfl) rfl ?hw8 (fun w1 => ?hy8) ?hn8; (case hw8 => rfl); (case hy8 => (go_simp; (try with_reducible rfl))); (try simp only [Act.put, zF, zG, zH]))
        (refine TD.val0 (v := ?v9) (by simp only [zA, zB, zC]; rfl) rfl ?hw9 (fun w1 => ?hy9) ?hn9; (case hw9 => rfl); (case hy9 => (go_simp; (try with_reducible rfl))); (try simp only [Act.put, zF, zG, zH]))
        (refine TD.val0 (v := ?v10) (by simp only [zA, zB, zC]; rfl) rfl ?hw10 (fun w1 => ?hy10) ?hn10; (case hw10 => rfl); (case hy10 => (go_simp; (try with_reducible rfl))); (try simp only [Act.put, zF, zG, zH]))
        (refine TD.load (v := ?v11) (p := ?p11) (Mod.refl _ _) (by simp only [zA, zB, zC]; rfl) rfl ?hw11 rfl ?hx11 (fun wq hSq => ?hy11) ?hn11; (case hw11 => rfl); (case hx11 => (simp only [Act.eval, zD, zA, zB, zC, zE]; (try rfl))); (case hy11 => (have kp1q := hSq.at kp1 (fun h => h); have kgq := hSq.at kg (fun h => h); go_simp; (try with_reducible rfl))); (try simp only [Act.put, zF, zG, zH]))
        (refine TD.val0 (v := ?v12) (by simp only [zA, zB, zC]; rfl) rfl ?hw12 (fun w1 => ?hy12) ?hn12; (case hw12 => rfl); (case hy12 => (go_simp; (try with_reducible rfl))); (try simp only [Act.put, zF, zG, zH]))
        (refine TD.val0 (v := ?v13) (by simp only [zA, zB, zC]; rfl) rfl ?hw13 (fun w1 => ?hy13) ?hn13; (case hw13 => rfl); (case hy13 => (go_simp; (try with_reducible rfl))); (try simp only [Act.put, zF, zG, zH]))
        (refine TD.val0 (v := ?v14) (by simp only [zA, zB, zC]; rfl) rfl ?hw14 (fun w1 => ?hy14) ?hn14; (case hw14 => rfl); (case hy14 => (go_simp; (try with_reducible rfl))); (try simp only [Act.put, zF, zG, zH]))
        (refine TD.val0 (v := ?v15) (by simp only [zA, zB, zC]; rfl) rfl ?hw15 (fun w1 => ?hy15) ?hn15; (case hw15 => rfl); (case hy15 => (go_simp; (try with_reducible rfl))); (try simp only [Act.put, zF, zG, zH]))
        (refine TD.val0 (v := ?v16) (by simp only [zA, zB, zC]; rfl) rfl ?hw16 (fun w1 => ?hy16) ?hn16; (case hw16 => rfl); (case hy16 => (go_simp; (try with_reducible rfl))); (try simp only [Act.put, zF, zG, zH]))
        (refine TD.load (v := ?v17) (p := ?p17) (Mod.refl _ _) (by simp only [zA, zB, zC]; rfl) rfl ?hw17 rfl ?hx17 (fun wq hSq => ?hy17) ?hn17; (case hw17 => rfl); (case hx17 => (simp only [Act.eval, zD, zA, zB, zC, zE]; (try rfl))); (case hy17 => (have kp1q := hSq.at kp1 (fun h => h); have kgq := hSq.at kg (fun h => h); go_simp; (try with_reducible rfl))); (try simp only [Act.put, zF, zG, zH]))
        (refine TD.val0 (v := ?v18) (by simp only [zA, zB, zC]; rfl) rfl ?hw18 (fun w1 => ?hy18) ?hn18; (case hw18 => rfl); (case hy18 => (go_simp; (try with_reducible rfl))); (try simp only [Act.put, zF, zG, zH]))
        (refine TD.val0 (v := ?v19) (by simp only [zA, zB, zC]; rfl) rfl ?hw19 (fun w1 => ?hy19) ?hn19; (case hw19 => rfl); (case hy19 => (go_simp; (try with_reducible rfl))); (try simp only [Act.put, zF, zG, zH]))
        (refine TD.val0 (v := ?v20) (by simp only [zA, zB, zC]; rfl) rfl ?hw20 (fun w1 => ?hy20) ?hn20; (case hw20 => rfl); (case hy20 => (go_simp; (try with_reducible rfl))); (try simp only [Act.put, zF, zG, zH]))
        (refine TD.load (v := ?v21) (p := ?p21) (Mod.refl _ _) (by simp only [zA, zB, zC]; rfl) rfl ?hw21 rfl ?hx21 (fun wq hSq => ?hy21) ?hn21; (case hw21 => rfl); (case hx21 => (simp only [Act.eval, zD, zA, zB, zC, zE]; (try rfl))); (case hy21 => (have kp1q := hSq.at kp1 (fun h => h); have kgq := hSq.at kg (fun h => h); go_simp; (try with_reducible rfl))); (try simp only [Act.put, zF, zG, zH]))
        (refine TD.val0 (v := ?v22) (by simp only [zA, zB, zC]; rfl) rfl ?hw22 (fun w1 => ?hy22) ?hn22; (case hw22 => rfl); (case hy22 => (go_simp; (try with_reducible rfl))); (try simp only [Act.put, zF, zG, zH]))
        (refine TD.val0 (v := ?v23) (by simp only [zA, zB, zC]; rfl) rfl ?hw23 (fun w1 => ?hy23) ?hn23; (case hw23 => rfl); (case hy23 => (go_simp; (try with_reducible rfl))); (try simp only [Act.put, zF, zG, zH]))
        (refine TD.val0 (v := ?v24) (by simp only [zA, zB, zC]; rfl) rfl ?hw24 (fun w1 => ?hy24) ?hn24; (case hw24 => rfl); (case hy24 => (go_simp; (try with_reducible rfl))); (try simp only [Act.put, zF, zG, zH]))
        refine TD.nil (fun w3 hr => ?_)
        have kp1 := hr.mod.at kp1 (fun h => h)
        have kg := hr.mod.at kg (fun h => h)
        have hm3 := hm.then0 hr.mod
        clear hr c1 c2 ha
        go_wp2_with fail
        go_roundw
        case rel => exact ⟨i + 1, _, by omega, rfl, by go_num, hm3⟩
        case measure => simp [intOf]; omega
      · have hdn := decide_eq_false hn
        go_wp2_with fail
        obtain ⟨wa, rfl⟩ : ∃ wa : World, wa = wr := ⟨_, rfl⟩
        go_loopw [3, 5] (fun s3 s5 ws => ∃ (i : Nat) (n : Int), i ≤ x.lks.l.length ∧ s3 = .int .i64 n ∧ s5 = .int .i64 (i : Int) ∧ Mod (fun _ => False) w1 ws) (fun _ s5 _ => x.lks.l.length - (intOf s5).toNat)
        case atStart => exact ⟨0, _, by omega, rfl, rfl, hm⟩
        case round =>
          clear hm kp1 mm
          obtain ⟨i, n, hi, rfl, rfl, hm⟩ := hrel
          have kp1 := hm.at0 KP.out
          have mm := m1.trans hm
          by_cases hlt : i < x.lks.l.length
          · have hdl : decide ((i : Int) < (x.lks.l.length : Int)) = true := decide_eq_true (by omega)
            by_cases hn : n < 20000
            · have hdn := decide_eq_true hn
              obtain ⟨y, hy⟩ : ∃ y, x.lks.l[i]? = some y := ⟨_, List.getElem?_eq_getElem hlt⟩
              obtain ⟨g, o, C, U, fr, ha, kg, c1, c2⟩ := lo_parts (HK.out.mod0 mm) hy
              clear hy
              go_upto_region 9 with fail
              have Lkp1 := lt_size kp1
              have Lkg := lt_size kg
              refine wp_pass (C := fun _ _ _ => False) (κ := fun i => [0, 0, 0, 0, 1, 0, 0, 0, 1, 0, 0, 0, 0, 0, 1, 0, 0, 0, 1, 0, 0, 0].getD i 0) [0, 1, 2, 3, 4, 5, 6, 7, 8, 9, 10, 11, 12, 13, 14, 15, 16, 17, 18, 19, 20, 21] (by kernel_rfl) (by kernel_rfl) (fun _ _ d _ _ h => by cases d <;> first | exact h | exact absurd h (hP _ _ _)) ?_
              (refine TD.val0 (v := ?v25) (by simp only [zA, zB, zC]; rfl) rfl ?hw25 (fun w1 => ?hy25) ?hn25; (case hw25 => rfl); (case hy25 => (go_simp; (try with_reducible rfl))); (try simp only [Act.put, zF, zG, zH]))
              (refine TD.val0 (v := ?v26) (by simp only [zA, zB, zC]; rfl) rfl ?hw26 (fun w1 => ?hy26) ?hn26; (case hw26 => rfl); (case hy26 => (go_simp; (try with_reducible rfl))); (try simp only [Act.put, zF, zG, zH]))
              (refine TD.val0 (v := ?v27) (by simp only [zA, zB, zC]; rfl) rfl ?hw27 (fun w1 => ?hy27) ?hn27; (case hw27 => rfl); (case hy27 => (go_simp; (try with_reducible rfl))); (try simp only [Act.put, zF, zG, zH]))
              (refine TD.val0 (v := ?v28) (by simp only [zA, zB, zC]; rfl) rfl ?hw28 (fun w1 => ?hy28) ?hn28; (case hw28 => rfl); (case hy28 => (go_simp; (try with_reducible rfl))); (try simp only [Act.put, zF, zG, zH]))
              (refine TD.load (v := ?v29) (p := ?p29) (Mod.refl _ _) (by simp only [zA, zB, zC]; rfl) rfl ?hw29 rfl ?hx29 (fun wq hSq => ?hy29) ?hn29; (case hw29 => rfl); (case hx29 => (simp only [Act.eval, zD, zA, zB, zC, zE]; (try rfl))); (case hy29 => (have kp1q := hSq.at kp1 (fun h => h); have kgq := hSq.at kg (fun h => h); go_simp; (try with_reducible rfl))); (try simp only [Act.put, zF, zG, zH]))
              (refine TD.val0 (v := ?v30) (by simp only [zA, zB, zC]; rfl) rfl ?hw30 (fun w1 => ?hy30) ?hn30; (case hw30 => rfl); (case hy30 => (go_simp; (try with_reducible rfl))); (try simp only [Act.put, zF, zG, zH]))
              (refine TD.val0 (v := ?v31) (by simp only [zA, zB, zC]; rfl) rfl ?hw31 (fun w1 => ?hy31) ?hn31; (case hw31 => rfl); (case hy31 => (go_simp; (try with_reducible rfl))); (try simp only [Act.put, zF, zG, zH]))
              (refine TD.val0 (v := ?v32) (by simp only [zA, zB, zC]; rfl) rfl ?hw32 (fun w1 => ?hy32) ?hn32; (case hw32 => rfl); (case hy32 => (go_simp; (try with_reducible rfl))); (try simp only [Act.put, zF, zG, zH]))
              (refine TD.load (v := ?v33) (p := ?p33) (Mod.refl _ _) (by simp only [zA, zB, zC]; rfl) rfl ?hw33 rfl ?hx33 (fun wq hSq => ?hy33) ?hn33; (case hw33 => rfl); (case hx33 => (simp only [Act.eval, zD, zA, zB, zC, zE]; (try rfl))); (case hy33 => (have kp1q := hSq.at kp1 (fun h => h); have kgq := hSq.at kg (fun h => h); go_simp; (try with_reducible rfl))); (try simp only [Act.put, zF, zG, zH]))
              (refine TD.val0 (v := ?v34) (by simp only [zA, zB, zC]; rfl) rfl ?hw34 (fun w1 => ?hy34) ?hn34; (case hw34 => rfl); (case hy34 => (go_simp; (try with_reducible rfl))); (try simp only [Act.put, zF, zG, zH]))
              (refine TD.val0 (v := ?v35) (by simp only [zA, zB, zC]; rfl) rfl ?hw35 (fun w1 => ?hy35) ?hn35; (case hw35 => rfl); (case hy35 => (go_simp; (try with_reducible rfl))); (try simp only [Act.put, zF, zG, zH]))
              (refine TD.val0 (v := ?v36) (by simp only [zA, zB, zC]; rfl) rfl ?hw36 (fun w1 => ?hy36) ?hn36; (case hw36 => rfl); (case hy36 => (go_simp; (try with_reducible rfl))); (try simp only [Act.put, zF, zG, zH]))
              (refine TD.val0 (v := ?v37) (by simp only [zA, zB, zC]; rfl) rfl ?hw37 (fun w1 => ?hy37) ?hn37; (case hw37 => rfl); (case hy37 => (go_simp; (try with_reducible rfl))); (try simp only [Act.put, zF, zG, zH]))
              (refine TD.val0 (v := ?v38) (by simp only [zA, zB, zC]; rfl) rfl ?hw38 (fun w1 => ?hy38) ?hn38; (case hw38 => rfl); (case hy38 => (go_simp; (try with_reducible rfl))); (try simp only [Act.put, zF, zG, zH]))
              (refine TD.load (v := ?v39) (p := ?p39) (Mod.refl _ _) (by simp only [zA, zB, zC]; rfl) rfl ?hw39 rfl ?hx39 (fun wq hSq => ?hy39) ?hn39; (case hw39 => rfl); (case hx39 => (simp only [Act.eval, zD, zA, zB, zC, zE]; (try rfl))); (case hy39 => (have kp1q := hSq.at kp1 (fun h => h); have kgq := hSq.at kg (fun h => h); go_simp; (try with_reducible rfl))); (try simp only [Act.put, zF, zG, zH]))
              (refine TD.val0 (v := ?v40) (by simp only [zA, zB, zC]; rfl) rfl ?hw40 (fun w1 => ?hy40) ?hn40; (case hw40 => rfl); (case hy40 => (go_simp; (try with_reducible rfl))); (try simp only [Act.put, zF, zG, zH]))
              (refine TD.val0 (v := ?v41) (by simp only [zA, zB, zC]; rfl) rfl ?hw41 (fun w1 => ?hy41) ?hn41; (case hw41 => rfl); (case hy41 => (go_simp; (try with_reducible rfl))); (try simp only [Act.put, zF, zG, zH]))
              (refine TD.val0 (v := ?v42) (by simp only [zA, zB, zC]; rfl) rfl ?hw42 (fun w1 => ?hy42) ?hn42; (case hw42 => rfl); (case hy42 => (go_simp; (try with_reducible rfl))); (try simp only [Act.put, zF, zG, zH]))
              (refine TD.load (v := ?v43) (p := ?p43) (Mod.refl _ _) (by simp only [zA, zB, zC]; rfl) rfl ?hw43 rfl ?hx43 (fun wq hSq => ?hy43) ?hn43; (case hw43 => rfl); (case hx43 => (simp only [Act.eval, zD, zA, zB, zC, zE]; (try rfl))); (case hy43 => (have kp1q := hSq.at kp1 (fun h => h); have kgq := hSq.at kg (fun h => h); go_simp; (try with_reducible rfl))); (try simp only [Act.put, zF, zG, zH]))
              (refine TD.val0 (v := ?v44) (by simp only [zA, zB, zC]; rfl) rfl ?hw44 (fun w1 => ?hy44) ?hn44; (case hw44 => rfl); (case hy44 => (go_simp; (try with_reducible rfl))); (try simp only [Act.put, zF, zG, zH]))
              (refine TD.val0 (v := ?v45) (by simp only [zA, zB, zC]; rfl) rfl ?hw45 (fun w1 => ?hy45) ?hn45; (case hw45 => rfl); (case hy45 => (go_simp; (try with_reducible rfl))); (try simp only [Act.put, zF, zG, zH]))
              (refine TD.val0 (v := ?v46) (by simp only [zA, zB, zC]; rfl) rfl ?hw46 (fun w1 => ?hy46) ?hn46; (case hw46 => rfl); (case hy46 => (go_simp; (try with_reducible rfl))); (try simp only [Act.put, zF, zG, zH]))
              refine TD.nil (fun w3 hr => ?_)
              have kp1 := hr.mod.at kp1 (fun h => h)
              have kg := hr.mod.at kg (fun h => h)
              have hm3 := hm.then0 hr.mod
              clear hr c1 c2 ha
              go_wp2_with fail
              go_roundw
              case rel => exact ⟨i + 1, _, by omega, rfl, by go_num, hm3⟩
              case measure => simp [intOf]; omega
            · have hdn := decide_eq_false hn
              go_upto_region 10 with fail
              by_cases hn : n > 10000
              · have hd := decide_eq_true hn
                go_wp2_with fail
                go_ret
                exact GrR.of true rfl (fun h => by cases h) mm
              · have hd := decide_eq_false hn
                by_cases hx1 : x.ins.l.length > 200
                · have hd1 : decide ((x.ins.l.length : Int) > 200) = true := decide_eq_true (by omega)
                  have hd1n : decide (200 < x.ins.l.length) = true := decide_eq_true (by omega)
                  have Lkp1 := lt_size kp1
                  refine wp_pass0 (C := fun _ _ _ => False) (κ := fun i => [0, 0, 0, 0, 0, 0, 1, 0, 0, 0, 0, 0, 1, 0, 0, 0, 0].getD i 0) [0, 1, 2, 3, 4, 5, 6, 7, 8, 9, 10, 11, 12, 13, 14, 15, 16] (by kernel_rfl) (by kernel_rfl) (fun _ _ d _ _ h => by cases d <;> first | exact h | exact absurd h (hP _ _ _)) ?_
                  (refine TD.val0 (v := ?v47) (by simp only [zA, zB, zC]; rfl) rfl ?hw47 (fun w1 => ?hy47) ?hn47; (case hw47 => rfl); (case hy47 => (go_simp; (try with_reducible rfl))); (try simp only [Act.put, zF, zG, zH]))
                  (refine TD.val0 (v := ?v48) (by simp only [zA, zB, zC]; rfl) rfl ?hw48 (fun w1 => ?hy48) ?hn48; (case hw48 => rfl); (case hy48 => (go_simp; (try with_reducible rfl))); (try simp only [Act.put, zF, zG, zH]))
                  (refine TD.val0 (v := ?v49) (by simp only [zA, zB, zC]; rfl) rfl ?hw49 (fun w1 => ?hy49) ?hn49; (case hw49 => rfl); (case hy49 => (go_simp; (try with_reducible rfl))); (try simp only [Act.put, zF, zG, zH]))
                  (refine TD.val0 (v := ?v50) (by simp only [zA, zB, zC]; rfl) rfl ?hw50 (fun w1 => ?hy50) ?hn50; (case hw50 => rfl); (case hy50 => (go_simp; (try with_reducible rfl))); (try simp only [Act.put, zF, zG, zH]))
                  (refine TD.val0 (v := ?v51) (by simp only [zA, zB, zC]; rfl) rfl ?hw51 (fun w1 => ?hy51) ?hn51; (case hw51 => rfl); (case hy51 => (go_simp; (try with_reducible rfl))); (try simp only [Act.put, zF, zG, zH]))
                  (refine TD.val0 (v := ?v52) (by simp only [zA, zB, zC]; rfl) rfl ?hw52 (fun w1 => ?hy52) ?hn52; (case hw52 => rfl); (case hy52 => (go_simp; (try with_reducible rfl))); (try simp only [Act.put, zF, zG, zH]))
                  (refine TD.load (v := ?v53) (p := ?p53) (Mod.refl _ _) (by simp only [zA, zB, zC]; rfl) rfl ?hw53 rfl ?hx53 (fun wq hSq => ?hy53) ?hn53; (case hw53 => rfl); (case hx53 => (simp only [Act.eval, zD, zA, zB, zC, zE]; (try rfl))); (case hy53 => (have kp1q := hSq.at kp1 (fun h => h); go_simp; (try with_reducible rfl))); (try simp only [Act.put, zF, zG, zH]))
                  (refine TD.val0 (v := ?v54) (by simp only [zA, zB, zC]; rfl) rfl ?hw54 (fun w1 => ?hy54) ?hn54; (case hw54 => rfl); (case hy54 => (go_simp; (try with_reducible rfl))); (try simp only [Act.put, zF, zG, zH]))
                  (refine TD.val0 (v := ?v55) (by simp only [zA, zB, zC]; rfl) rfl ?hw55 (fun w1 => ?hy55) ?hn55; (case hw55 => rfl); (case hy55 => (go_simp; (try with_reducible rfl))); (try simp only [Act.put, zF, zG, zH]))
                  (refine TD.val0 (v := ?v56) (by simp only [zA, zB, zC]; rfl) rfl ?hw56 (fun w1 => ?hy56) ?hn56; (case hw56 => rfl); (case hy56 => (go_simp; (try with_reducible rfl))); (try simp only [Act.put, zF, zG, zH]))
                  (refine TD.val0 (v := ?v57) (by simp only [zA, zB, zC]; rfl) rfl ?hw57 (fun w1 => ?hy57) ?hn57; (case hw57 => rfl); (case hy57 => (go_simp; (try with_reducible rfl))); (try simp only [Act.put, zF, zG, zH]))
                  (refine TD.pass (by simp only [zA, zB, zC]; rfl) rfl ?hw58 ?hn58; (case hw58 => rfl); (try simp only [Act.put, zF, zG, zH]))
                  (refine TD.pass1 (by simp only [zA, zB, zC]; rfl) rfl ?hw59 ?hn59; (case hw59 => rfl); (try simp only [Act.put, zF, zG, zH]))
                  (refine TD.pass (by simp only [zA, zB, zC]; rfl) rfl ?hw60 ?hn60; (case hw60 => rfl); (try simp only [Act.put, zF, zG, zH]))
                  (refine TD.pass (by simp only [zA, zB, zC]; rfl) rfl ?hw61 ?hn61; (case hw61 => rfl); (try simp only [Act.put, zF, zG, zH]))
                  (refine TD.val0 (v := ?v62) (by simp only [zA, zB, zC]; rfl) rfl ?hw62 (fun w1 => ?hy62) ?hn62; (case hw62 => rfl); (case hy62 => (go_simp; (try with_reducible rfl))); (try simp only [Act.put, zF, zG, zH]))
                  (refine TD.val0 (v := ?v63) (by simp only [zA, zB, zC]; rfl) rfl ?hw63 (fun w1 => ?hy63) ?hn63; (case hw63 => rfl); (case hy63 => (go_simp; (try with_reducible rfl))); (try simp only [Act.put, zF, zG, zH]))
                  refine TD.nil (fun we hr => ?_)
                  have kp1 := hr.mod.at kp1 (fun h => h)
                  have mm := mm.then0 hr.mod
                  clear hr
                  go_wp2_with fail
                  go_ret
                  exact GrR.of true rfl (fun h => by cases h) mm
                · have hd1 : decide ((x.ins.l.length : Int) > 200) = false := decide_eq_false (by omega)
                  have hd1n : decide (200 < x.ins.l.length) = false := decide_eq_false (by omega)
                  by_cases hx2 : x.ro.l.length > 300
                  · have hd2 : decide ((x.ro.l.length : Int) > 300) = true := decide_eq_true (by omega)
                    have hd2n : decide (300 < x.ro.l.length) = true := decide_eq_true (by omega)
                    have Lkp1 := lt_size kp1
                    refine wp_pass0 (C := fun _ _ _ => False) (κ := fun i => [0, 0, 0, 0, 0, 0, 1, 0, 0, 0, 0, 0, 1, 0, 0, 0, 0].getD i 0) [0, 1, 2, 3, 4, 5, 6, 7, 8, 9, 10, 11, 12, 13, 14, 15, 16] (by kernel_rfl) (by kernel_rfl) (fun _ _ d _ _ h => by cases d <;> first | exact h | exact absurd h (hP _ _ _)) ?_
                    (refine TD.val0 (v := ?v64) (by simp only [zA, zB, zC]; rfl) rfl ?hw64 (fun w1 => ?hy64) ?hn64; (case hw64 => rfl); (case hy64 => (go_simp; (try with_reducible rfl))); (try simp only [Act.put, zF, zG, zH]))
                    (refine TD.val0 (v := ?v65) (by simp only [zA, zB, zC]; rfl) rfl ?hw65 (fun w1 => ?hy65) ?hn65; (case hw65 => rfl); (case hy65 => (go_simp; (try with_reducible rfl))); (try simp only [Act.put, zF, zG, zH]))
                    (refine TD.val0 (v := ?v66) (by simp only [zA, zB, zC]; rfl) rfl ?hw66 (fun w1 => ?hy66) ?hn66; (case hw66 => rfl); (case hy66 => (go_simp; (try with_reducible rfl))); (try simp only [Act.put, zF, zG, zH]))
                    (refine TD.val0 (v := ?v67) (by simp only [zA, zB, zC]; rfl) rfl ?hw67 (fun w1 => ?hy67) ?hn67; (case hw67 => rfl); (case hy67 => (go_simp; (try with_reducible rfl))); (try simp only [Act.put, zF, zG, zH]))
                    (refine TD.val0 (v := ?v68) (by simp only [zA, zB, zC]; rfl) rfl ?hw68 (fun w1 => ?hy68) ?hn68; (case hw68 => rfl); (case hy68 => (go_simp; (try with_reducible rfl))); (try simp only [Act.put, zF, zG, zH]))
                    (refine TD.val0 (v := ?v69) (by simp only [zA, zB, zC]; rfl) rfl ?hw69 (fun w1 => ?hy69) ?hn69; (case hw69 => rfl); (case hy69 => (go_simp; (try with_reducible rfl))); (try simp only [Act.put, zF, zG, zH]))
                    (refine TD.load (v := ?v70) (p := ?p70) (Mod.refl _ _) (by simp only [zA, zB, zC]; rfl) rfl ?hw70 rfl ?hx70 (fun wq hSq => ?hy70) ?hn70; (case hw70 => rfl); (case hx70 => (simp only [Act.eval, zD, zA, zB, zC, zE]; (try rfl))); (case hy70 => (have kp1q := hSq.at kp1 (fun h => h); go_simp; (try with_reducible rfl))); (try simp only [Act.put, zF, zG, zH]))
                    (refine TD.val0 (v := ?v71) (by simp only [zA, zB, zC]; rfl) rfl ?hw71 (fun w1 => ?hy71) ?hn71; (case hw71 => rfl); (case hy71 => (go_simp; (try with_reducible rfl))); (try simp only [Act.put, zF, zG, zH]))
                    (refine TD.val0 (v := ?v72) (by simp only [zA, zB, zC]; rfl) rfl ?hw72 (fun w1 => ?hy72) ?hn72; (case hw72 => rfl); (case hy72 => (go_simp; (try with_reducible rfl))); (try simp only [Act.put, zF, zG, zH]))
                    (refine TD.val0 (v := ?v73) (by simp only [zA, zB, zC]; rfl) rfl ?hw73 (fun w1 => ?hy73) ?hn73; (case hw73 => rfl); (case hy73 => (go_simp; (try with_reducible rfl))); (try simp only [Act.put, zF, zG, zH]))
                    (refine TD.val0 (v := ?v74) (by simp only [zA, zB, zC]; rfl) rfl ?hw74 (fun w1 => ?hy74) ?hn74; (case hw74 => rfl); (case hy74 => (go_simp; (try with_reducible rfl))); (try simp only [Act.put, zF, zG, zH]))
                    (refine TD.val0 (v := ?v75) (by simp only [zA, zB, zC]; rfl) rfl ?hw75 (fun w1 => ?hy75) ?hn75; (case hw75 => rfl); (case hy75 => (go_simp; (try with_reducible rfl))); (try simp only [Act.put, zF, zG, zH]))
                    (refine TD.load (v := ?v76) (p := ?p76) (Mod.refl _ _) (by simp only [zA, zB, zC]; rfl) rfl ?hw76 rfl ?hx76 (fun wq hSq => ?hy76) ?hn76; (case hw76 => rfl); (case hx76 => (simp only [Act.eval, zD, zA, zB, zC, zE]; (try rfl))); (case hy76 => (have kp1q := hSq.at kp1 (fun h => h); go_simp; (try with_reducible rfl))); (try simp only [Act.put, zF, zG, zH]))
                    (refine TD.val0 (v := ?v77) (by simp only [zA, zB, zC]; rfl) rfl ?hw77 (fun w1 => ?hy77) ?hn77; (case hw77 => rfl); (case hy77 => (go_simp; (try with_reducible rfl))); (try simp only [Act.put, zF, zG, zH]))
                    (refine TD.val0 (v := ?v78) (by simp only [zA, zB, zC]; rfl) rfl ?hw78 (fun w1 => ?hy78) ?hn78; (case hw78 => rfl); (case hy78 => (go_simp; (try with_reducible rfl))); (try simp only [Act.put, zF, zG, zH]))
                    (refine TD.val0 (v := ?v79) (by simp only [zA, zB, zC]; rfl) rfl ?hw79 (fun w1 => ?hy79) ?hn79; (case hw79 => rfl); (case hy79 => (go_simp; (try with_reducible rfl))); (try simp only [Act.put, zF, zG, zH]))
                    (refine TD.val0 (v := ?v80) (by simp only [zA, zB, zC]; rfl) rfl ?hw80 (fun w1 => ?hy80) ?hn80; (case hw80 => rfl); (case hy80 => (go_simp; (try with_reducible rfl))); (try simp only [Act.put, zF, zG, zH]))
                    refine TD.nil (fun we hr => ?_)
                    have kp1 := hr.mod.at kp1 (fun h => h)
                    have mm := mm.then0 hr.mod
                    clear hr
                    go_wp2_with fail
                    go_ret
                    exact GrR.of true rfl (fun h => by cases h) mm
                  · have hd2 : decide ((x.ro.l.length : Int) > 300) = false := decide_eq_false (by omega)
                    have hd2n : decide (300 < x.ro.l.length) = false := decide_eq_false (by omega)
                    have Lkp1 := lt_size kp1
                    refine wp_pass0 (C := fun _ _ _ => False) (κ := fun i => [0, 0, 0, 0, 0, 0, 1, 0, 0, 0, 0, 0, 1, 0, 0, 0, 0].getD i 0) [0, 1, 2, 3, 4, 5, 6, 7, 8, 9, 10, 11, 12, 13, 14, 15, 16] (by kernel_rfl) (by kernel_rfl) (fun _ _ d _ _ h => by cases d <;> first | exact h | exact absurd h (hP _ _ _)) ?_
                    (refine TD.val0 (v := ?v81) (by simp only [zA, zB, zC]; rfl) rfl ?hw81 (fun w1 => ?hy81) ?hn81; (case hw81 => rfl); (case hy81 => (go_simp; (try with_reducible rfl))); (try simp only [Act.put, zF, zG, zH]))
                    (refine TD.val0 (v := ?v82) (by simp only [zA, zB, zC]; rfl) rfl ?hw82 (fun w1 => ?hy82) ?hn82; (case hw82 => rfl); (case hy82 => (go_simp; (try with_reducible rfl))); (try simp only [Act.put, zF, zG, zH]))
                    (refine TD.val0 (v := ?v83) (by simp only [zA, zB, zC]; rfl) rfl ?hw83 (fun w1 => ?hy83) ?hn83; (case hw83 => rfl); (case hy83 => (go_simp; (try with_reducible rfl))); (try simp only [Act.put, zF, zG, zH]))
                    (refine TD.val0 (v := ?v84) (by simp only [zA, zB, zC]; rfl) rfl ?hw84 (fun w1 => ?hy84) ?hn84; (case hw84 => rfl); (case hy84 => (go_simp; (try with_reducible rfl))); (try simp only [Act.put, zF, zG, zH]))
                    (refine TD.val0 (v := ?v85) (by simp only [zA, zB, zC]; rfl) rfl ?hw85 (fun w1 => ?hy85) ?hn85; (case hw85 => rfl); (case hy85 => (go_simp; (try with_reducible rfl))); (try simp only [Act.put, zF, zG, zH]))
                    (refine TD.val0 (v := ?v86) (by simp only [zA, zB, zC]; rfl) rfl ?hw86 (fun w1 => ?hy86) ?hn86; (case hw86 => rfl); (case hy86 => (go_simp; (try with_reducible rfl))); (try simp only [Act.put, zF, zG, zH]))
                    (refine TD.load (v := ?v87) (p := ?p87) (Mod.refl _ _) (by simp only [zA, zB, zC]; rfl) rfl ?hw87 rfl ?hx87 (fun wq hSq => ?hy87) ?hn87; (case hw87 => rfl); (case hx87 => (simp only [Act.eval, zD, zA, zB, zC, zE]; (try rfl))); (case hy87 => (have kp1q := hSq.at kp1 (fun h => h); go_simp; (try with_reducible rfl))); (try simp only [Act.put, zF, zG, zH]))
                    (refine TD.val0 (v := ?v88) (by simp only [zA, zB, zC]; rfl) rfl ?hw88 (fun w1 => ?hy88) ?hn88; (case hw88 => rfl); (case hy88 => (go_simp; (try with_reducible rfl))); (try simp only [Act.put, zF, zG, zH]))
                    (refine TD.val0 (v := ?v89) (by simp only [zA, zB, zC]; rfl) rfl ?hw89 (fun w1 => ?hy89) ?hn89; (case hw89 => rfl); (case hy89 => (go_simp; (try with_reducible rfl))); (try simp only [Act.put, zF, zG, zH]))
                    (refine TD.val0 (v := ?v90) (by simp only [zA, zB, zC]; rfl) rfl ?hw90 (fun w1 => ?hy90) ?hn90; (case hw90 => rfl); (case hy90 => (go_simp; (try with_reducible rfl))); (try simp only [Act.put, zF, zG, zH]))
                    (refine TD.val0 (v := ?v91) (by simp only [zA, zB, zC]; rfl) rfl ?hw91 (fun w1 => ?hy91) ?hn91; (case hw91 => rfl); (case hy91 => (go_simp; (try with_reducible rfl))); (try simp only [Act.put, zF, zG, zH]))
                    (refine TD.val0 (v := ?v92) (by simp only [zA, zB, zC]; rfl) rfl ?hw92 (fun w1 => ?hy92) ?hn92; (case hw92 => rfl); (case hy92 => (go_simp; (try with_reducible rfl))); (try simp only [Act.put, zF, zG, zH]))
                    (refine TD.load (v := ?v93) (p := ?p93) (Mod.refl _ _) (by simp only [zA, zB, zC]; rfl) rfl ?hw93 rfl ?hx93 (fun wq hSq => ?hy93) ?hn93; (case hw93 => rfl); (case hx93 => (simp only [Act.eval, zD, zA, zB, zC, zE]; (try rfl))); (case hy93 => (have kp1q := hSq.at kp1 (fun h => h); go_simp; (try with_reducible rfl))); (try simp only [Act.put, zF, zG, zH]))
                    (refine TD.val0 (v := ?v94) (by simp only [zA, zB, zC]; rfl) rfl ?hw94 (fun w1 => ?hy94) ?hn94; (case hw94 => rfl); (case hy94 => (go_simp; (try with_reducible rfl))); (try simp only [Act.put, zF, zG, zH]))
                    (refine TD.val0 (v := ?v95) (by simp only [zA, zB, zC]; rfl) rfl ?hw95 (fun w1 => ?hy95) ?hn95; (case hw95 => rfl); (case hy95 => (go_simp; (try with_reducible rfl))); (try simp only [Act.put, zF, zG, zH]))
                    (refine TD.val0 (v := ?v96) (by simp only [zA, zB, zC]; rfl) rfl ?hw96 (fun w1 => ?hy96) ?hn96; (case hw96 => rfl); (case hy96 => (go_simp; (try with_reducible rfl))); (try simp only [Act.put, zF, zG, zH]))
                    (refine TD.val0 (v := ?v97) (by simp only [zA, zB, zC]; rfl) rfl ?hw97 (fun w1 => ?hy97) ?hn97; (case hw97 => rfl); (case hy97 => (go_simp; (try with_reducible rfl))); (try simp only [Act.put, zF, zG, zH]))
                    refine TD.nil (fun we hr => ?_)
                    have kp1 := hr.mod.at kp1 (fun h => h)
                    have mm := mm.then0 hr.mod
                    clear hr
                    go_wp2_with fail
                    go_ret
                    exact GrR.of false rfl (fun _ => ⟨by omega, by omega⟩) mm
          · have hdl : decide ((i : Int) < (x.lks.l.length : Int)) = false := decide_eq_false (by omega)
            go_upto_region 10 with fail
            by_cases hn : n > 10000
            · have hd := decide_eq_true hn
              go_wp2_with fail
              go_ret
              exact GrR.of true rfl (fun h => by cases h) mm
            · have hd := decide_eq_false hn
              by_cases hx1 : x.ins.l.length > 200
              · have hd1 : decide ((x.ins.l.length : Int) > 200) = true := decide_eq_true (by omega)
                have hd1n : decide (200 < x.ins.l.length) = true := decide_eq_true (by omega)
                have Lkp1 := lt_size kp1
                refine wp_pass0 (C := fun _ _ _ => False) (κ := fun i => [0, 0, 0, 0, 0, 0, 1, 0, 0, 0, 0, 0, 1, 0, 0, 0, 0].getD i 0) [0, 1, 2, 3, 4, 5, 6, 7, 8, 9, 10, 11, 12, 13, 14, 15, 16] (by kernel_rfl) (by kernel_rfl) (fun _ _ d _ _ h => by cases d <;> first | exact h | exact absurd h (hP _ _ _)) ?_
                (refine TD.val0 (v := ?v98) (by simp only [zA, zB, zC]; rfl) rfl ?hw98 (fun w1 => ?hy98) ?hn98; (case hw98 => rfl); (case hy98 => (go_simp; (try with_reducible rfl))); (try simp only [Act.put, zF, zG, zH]))
                (refine TD.val0 (v := ?v99) (by simp only [zA, zB, zC]; rfl) rfl ?hw99 (fun w1 => ?hy99) ?hn99; (case hw99 => rfl); (case hy99 => (go_simp; (try with_reducible rfl))); (try simp only [Act.put, zF, zG, zH]))
                (refine TD.val0 (v := ?v100) (by simp only [zA, zB, zC]; rfl) rfl ?hw100 (fun w1 => ?hy100) ?hn100; (case hw100 => rfl); (case hy100 => (go_simp; (try with_reducible rfl))); (try simp only [Act.put, zF, zG, zH]))
                (refine TD.val0 (v := ?v101) (by simp only [zA, zB, zC]; rfl) rfl ?hw101 (fun w1 => ?hy101) ?hn101; (case hw101 => rfl); (case hy101 => (go_simp; (try with_reducible rfl))); (try simp only [Act.put, zF, zG, zH]))
                (refine TD.val0 (v := ?v102) (by simp only [zA, zB, zC]; rfl) rfl ?hw102 (fun w1 => ?hy102) ?hn102; (case hw102 => rfl); (case hy102 => (go_simp; (try with_reducible rfl))); (try simp only [Act.put, zF, zG, zH]))
                (refine TD.val0 (v := ?v103) (by simp only [zA, zB, zC]; rfl) rfl ?hw103 (fun w1 => ?hy103) ?hn103; (case hw103 => rfl); (case hy103 => (go_simp; (try with_reducible rfl))); (try simp only [Act.put, zF, zG, zH]))
                (refine TD.load (v := ?v104) (p := ?p104) (Mod.refl _ _) (by simp only [zA, zB, zC]; rfl) rfl ?hw104 rfl ?hx104 (fun wq hSq => ?hy104) ?hn104; (case hw104 => rfl); (case hx104 => (simp only [Act.eval, zD, zA, zB, zC, zE]; (try rfl))); (case hy104 => (have kp1q := hSq.at kp1 (fun h => h); go_simp; (try with_reducible rfl))); (try simp only [Act.put, zF, zG, zH]))
                (refine TD.val0 (v := ?v105) (by simp only [zA, zB, zC]; rfl) rfl ?hw105 (fun w1 => ?hy105) ?hn105; (case hw105 => rfl); (case hy105 => (go_simp; (try with_reducible rfl))); (try simp only [Act.put, zF, zG, zH]))
                (refine TD.val0 (v := ?v106) (by simp only [zA, zB, zC]; rfl) rfl ?hw106 (fun w1 => ?hy106) ?hn106; (case hw106 => rfl); (case hy106 => (go_simp; (try with_reducible rfl))); (try simp only [Act.put, zF, zG, zH]))
                (refine TD.val0 (v := ?v107) (by simp only [zA, zB, zC]; rfl) rfl ?hw107 (fun w1 => ?hy107) ?hn107; (case hw107 => rfl); (case hy107 => (go_simp; (try with_reducible rfl))); (try simp only [Act.put, zF, zG, zH]))
                (refine TD.val0 (v := ?v108) (by simp only [zA, zB, zC]; rfl) rfl ?hw108 (fun w1 => ?hy108) ?hn108; (case hw108 => rfl); (case hy108 => (go_simp; (try with_reducible rfl))); (try simp only [Act.put, zF, zG, zH]))
                (refine TD.pass (by simp only [zA, zB, zC]; rfl) rfl ?hw109 ?hn109; (case hw109 => rfl); (try simp only [Act.put, zF, zG, zH]))
                (refine TD.pass1 (by simp only [zA, zB, zC]; rfl) rfl ?hw110 ?hn110; (case hw110 => rfl); (try simp only [Act.put, zF, zG, zH]))
                (refine TD.pass (by simp only [zA, zB, zC]; rfl) rfl ?hw111 ?hn111; (case hw111 => rfl); (try simp only [Act.put, zF, zG, zH]))
                (refine TD.pass (by simp only [zA, zB, zC]; rfl) rfl ?hw112 ?hn112; (case hw112 => rfl); (try simp only [Act.put, zF, zG, zH]))
                (refine TD.val0 (v := ?v113) (by simp only [zA, zB, zC]; rfl) rfl ?hw113 (fun w1 => ?hy113) ?hn113; (case hw113 => rfl); (case hy113 => (go_simp; (try with_reducible rfl))); (try simp only [Act.put, zF, zG, zH]))
                (refine TD.val0 (v := ?v114) (by simp only [zA, zB, zC]; rfl) rfl ?hw114 (fun w1 => ?hy114) ?hn114; (case hw114 => rfl); (case hy114 => (go_simp; (try with_reducible rfl))); (try simp only [Act.put, zF, zG, zH]))
                refine TD.nil (fun we hr => ?_)
                have kp1 := hr.mod.at kp1 (fun h => h)
                have mm := mm.then0 hr.mod
                clear hr
                go_wp2_with fail
                go_ret
                exact GrR.of true rfl (fun h => by cases h) mm
              · have hd1 : decide ((x.ins.l.length : Int) > 200) = false := decide_eq_false (by omega)
                have hd1n : decide (200 < x.ins.l.length) = false := decide_eq_false (by omega)
                by_cases hx2 : x.ro.l.length > 300
                · have hd2 : decide ((x.ro.l.length : Int) > 300) = true := decide_eq_true (by omega)
                  have hd2n : decide (300 < x.ro.l.length) = true := decide_eq_true (by omega)
                  have Lkp1 := lt_size kp1
                  refine wp_pass0 (C := fun _ _ _ => False) (κ := fun i => [0, 0, 0, 0, 0, 0, 1, 0, 0, 0, 0, 0, 1, 0, 0, 0, 0].getD i 0) [0, 1, 2, 3, 4, 5, 6, 7, 8, 9, 10, 11, 12, 13, 14, 15, 16] (by kernel_rfl) (by kernel_rfl) (fun _ _ d _ _ h => by cases d <;> first | exact h | exact absurd h (hP _ _ _)) ?_
                  (refine TD.val0 (v := ?v115) (by simp only [zA, zB, zC]; rfl) rfl ?hw115 (fun w1 => ?hy115) ?hn115; (case hw115 => rfl); (case hy115 => (go_simp; (try with_reducible rfl))); (try simp only [Act.put, zF, zG, zH]))
                  (refine TD.val0 (v := ?v116) (by simp only [zA, zB, zC]; rfl) rfl ?hw116 (fun w1 => ?hy116) ?hn116; (case hw116 => rfl); (case hy116 => (go_simp; (try with_reducible rfl))); (try simp only [Act.put, zF, zG, zH]))
                  (refine TD.val0 (v := ?v117) (by simp only [zA, zB, zC]; rfl) rfl ?hw117 (fun w1 => ?hy117) ?hn117; (case hw117 => rfl); (case hy117 => (go_simp; (try with_reducible rfl))); (try simp only [Act.put, zF, zG, zH]))
                  (refine TD.val0 (v := ?v118) (by simp only [zA, zB, zC]; rfl) rfl ?hw118 (fun w1 => ?hy118) ?hn118; (case hw118 => rfl); (case hy118 => (go_simp; (try with_reducible rfl))); (try simp only [Act.put, zF, zG, zH]))
                  (refine TD.val0 (v := ?v119) (by simp only [zA, zB, zC]; rfl) rfl ?hw119 (fun w1 => ?hy119) ?hn119; (case hw119 => rfl); (case hy119 => (go_simp; (try with_reducible rfl))); (try simp only [Act.put, zF, zG, zH]))
                  (refine TD.val0 (v := ?v120) (by simp only [zA, zB, zC]; rfl) rfl ?hw120 (fun w1 => ?hy120) ?hn120; (case hw120 => rfl); (case hy120 => (go_simp; (try with_reducible rfl))); (try simp only [Act.put, zF, zG, zH]))
                  (refine TD.load (v := ?v121) (p := ?p121) (Mod.refl _ _) (by simp only [zA, zB, zC]; rfl) rfl ?hw121 rfl ?hx121 (fun wq hSq => ?hy121) ?hn121; (case hw121 => rfl); (case hx121 => (simp only [Act.eval, zD, zA, zB, zC, zE]; (try rfl))); (case hy121 => (have kp1q := hSq.at kp1 (fun h => h); go_simp; (try with_reducible rfl))); (try simp only [Act.put, zF, zG, zH]))
                  (refine TD.val0 (v := ?v122) (by simp only [zA, zB, zC]; rfl) rfl ?hw122 (fun w1 => ?hy122) ?hn122; (case hw122 => rfl); (case hy122 => (go_simp; (try with_reducible rfl))); (try simp only [Act.put, zF, zG, zH]))
                  (refine TD.val0 (v := ?v123) (by simp only [zA, zB, zC]; rfl) rfl ?hw123 (fun w1 => ?hy123) ?hn123; (case hw123 => rfl); (case hy123 => (go_simp; (try with_reducible rfl))); (try simp only [Act.put, zF, zG, zH]))
                  (refine TD.val0 (v := ?v124) (by simp only [zA, zB, zC]; rfl) rfl ?hw124 (fun w1 => ?hy124) ?hn124; (case hw124 => rfl); (case hy124 => (go_simp; (try with_reducible rfl))); (try simp only [Act.put, zF, zG, zH]))
                  (refine TD.val0 (v := ?v125) (by simp only [zA, zB, zC]; rfl) rfl ?hw125 (fun w1 => ?hy125) ?hn125; (case hw125 => rfl); (case hy125 => (go_simp; (try with_reducible rfl))); (try simp only [Act.put, zF, zG, zH]))
                  (refine TD.val0 (v := ?v126) (by simp only [zA, zB, zC]; rfl) rfl ?hw126 (fun w1 => ?hy126) ?hn126; (case hw126 => rfl); (case hy126 => (go_simp; (try with_reducible rfl))); (try simp only [Act.put, zF, zG, zH]))
                  (refine TD.load (v := ?v127) (p := ?p127) (Mod.refl _ _) (by simp only [zA, zB, zC]; rfl) rfl ?hw127 rfl ?hx127 (fun wq hSq => ?hy127) ?hn127; (case hw127 => rfl); (case hx127 => (simp only [Act.eval, zD, zA, zB, zC, zE]; (try rfl))); (case hy127 => (have kp1q := hSq.at kp1 (fun h => h); go_simp; (try with_reducible rfl))); (try simp only [Act.put, zF, zG, zH]))
                  (refine TD.val0 (v := ?v128) (by simp only [zA, zB, zC]; rfl) rfl ?hw128 (fun w1 => ?hy128) ?hn128; (case hw128 => rfl); (case hy128 => (go_simp; (try with_reducible rfl))); (try simp only [Act.put, zF, zG, zH]))
                  (refine TD.val0 (v := ?v129) (by simp only [zA, zB, zC]; rfl) rfl ?hw129 (fun w1 => ?hy129) ?hn129; (case hw129 => rfl); (case hy129 => (go_simp; (try with_reducible rfl))); (try simp only [Act.put, zF, zG, zH]))
                  (refine TD.val0 (v := ?v130) (by simp only [zA, zB, zC]; rfl) rfl ?hw130 (fun w1 => ?hy130) ?hn130; (case hw130 => rfl); (case hy130 => (go_simp; (try with_reducible rfl))); (try simp only [Act.put, zF, zG, zH]))
                  (refine TD.val0 (v := ?v131) (by simp only [zA, zB, zC]; rfl) rfl ?hw131 (fun w1 => ?hy131) ?hn131; (case hw131 => rfl); (case hy131 => (go_simp; (try with_reducible rfl))); (try simp only [Act.put, zF, zG, zH]))
                  refine TD.nil (fun we hr => ?_)
                  have kp1 := hr.mod.at kp1 (fun h => h)
                  have mm := mm.then0 hr.mod
                  clear hr
                  go_wp2_with fail
                  go_ret
                  exact GrR.of true rfl (fun h => by cases h) mm
                · have hd2 : decide ((x.ro.l.length : Int) > 300) = false := decide_eq_false (by omega)
                  have hd2n : decide (300 < x.ro.l.length) = false := decide_eq_false (by omega)
                  have Lkp1 := lt_size kp1
                  refine wp_pass0 (C := fun _ _ _ => False) (κ := fun i => [0, 0, 0, 0, 0, 0, 1, 0, 0, 0, 0, 0, 1, 0, 0, 0, 0].getD i 0) [0, 1, 2, 3, 4, 5, 6, 7, 8, 9, 10, 11, 12, 13, 14, 15, 16] (by kernel_rfl) (by kernel_rfl) (fun _ _ d _ _ h => by cases d <;> first | exact h | exact absurd h (hP _ _ _)) ?_
                  (refine TD.val0 (v := ?v132) (by simp only [zA, zB, zC]; rfl) rfl ?hw132 (fun w1 => ?hy132) ?hn132; (case hw132 => rfl); (case hy132 => (go_simp; (try with_reducible rfl))); (try simp only [Act.put, zF, zG, zH]))
                  (refine TD.val0 (v := ?v133) (by simp only [zA, zB, zC]; rfl) rfl ?hw133 (fun w1 => ?hy133) ?hn133; (case hw133 => rfl); (case hy133 => (go_simp; (try with_reducible rfl))); (try simp only [Act.put, zF, zG, zH]))
                  (refine TD.val0 (v := ?v134) (by simp only [zA, zB, zC]; rfl) rfl ?hw134 (fun w1 => ?hy134) ?hn134; (case hw134 => rfl); (case hy134 => (go_simp; (try with_reducible rfl))); (try simp only [Act.put, zF, zG, zH]))
                  (refine TD.val0 (v := ?v135) (by simp only [zA, zB, zC]; rfl) rfl ?hw135 (fun w1 => ?hy135) ?hn135; (case hw135 => rfl); (case hy135 => (go_simp; (try with_reducible rfl))); (try simp only [Act.put, zF, zG, zH]))
                  (refine TD.val0 (v := ?v136) (by simp only [zA, zB, zC]; rfl) rfl ?hw136 (fun w1 => ?hy136) ?hn136; (case hw136 => rfl); (case hy136 => (go_simp; (try with_reducible rfl))); (try simp only [Act.put, zF, zG, zH]))
                  (refine TD.val0 (v := ?v137) (by simp only [zA, zB, zC]; rfl) rfl ?hw137 (fun w1 => ?hy137) ?hn137; (case hw137 => rfl); (case hy137 => (go_simp; (try with_reducible rfl))); (try simp only [Act.put, zF, zG, zH]))
                  (refine TD.load (v := ?v138) (p := ?p138) (Mod.refl _ _) (by simp only [zA, zB, zC]; rfl) rfl ?hw138 rfl ?hx138 (fun wq hSq => ?hy138) ?hn138; (case hw138 => rfl); (case hx138 => (simp only [Act.eval, zD, zA, zB, zC, zE]; (try rfl))); (case hy138 => (have kp1q := hSq.at kp1 (fun h => h); go_simp; (try with_reducible rfl))); (try simp only [Act.put, zF, zG, zH]))
                  (refine TD.val0 (v := ?v139) (by simp only [zA, zB, zC]; rfl) rfl ?hw139 (fun w1 => ?hy139) ?hn139; (case hw139 => rfl); (case hy139 => (go_simp; (try with_reducible rfl))); (try simp only [Act.put, zF, zG, zH]))
                  (refine TD.val0 (v := ?v140) (by simp only [zA, zB, zC]; rfl) rfl ?hw140 (fun w1 => ?hy140) ?hn140; (case hw140 => rfl); (case hy140 => (go_simp; (try with_reducible rfl))); (try simp only [Act.put, zF, zG, zH]))
                  (refine TD.val0 (v := ?v141) (by simp only [zA, zB, zC]; rfl) rfl ?hw141 (fun w1 => ?hy141) ?hn141; (case hw141 => rfl); (case hy141 => (go_simp; (try with_reducible rfl))); (try simp only [Act.put, zF, zG, zH]))
                  (refine TD.val0 (v := ?v142) (by simp only [zA, zB, zC]; rfl) rfl ?hw142 (fun w1 => ?hy142) ?hn142; (case hw142 => rfl); (case hy142 => (go_simp; (try with_reducible rfl))); (try simp only [Act.put, zF, zG, zH]))
                  (refine TD.val0 (v := ?v143) (by simp only [zA, zB, zC]; rfl) rfl ?hw143 (fun w1 => ?hy143) ?hn143; (case hw143 => rfl); (case hy143 => (go_simp; (try with_reducible rfl))); (try simp only [Act.put, zF, zG, zH]))
                  (refine TD.load (v := ?v144) (p := ?p144) (Mod.refl _ _) (by simp only [zA, zB, zC]; rfl) rfl ?hw144 rfl ?hx144 (fun wq hSq => ?hy144) ?hn144; (case hw144 => rfl); (case hx144 => (simp only [Act.eval, zD, zA, zB, zC, zE]; (try rfl))); (case hy144 => (have kp1q := hSq.at kp1 (fun h => h); go_simp; (try with_reducible rfl))); (try simp only [Act.put, zF, zG, zH]))
                  (refine TD.val0 (v := ?v145) (by simp only [zA, zB, zC]; rfl) rfl ?hw145 (fun w1 => ?hy145) ?hn145; (case hw145 => rfl); (case hy145 => (go_simp; (try with_reducible rfl))); (try simp only [Act.put, zF, zG, zH]))
                  (refine TD.val0 (v := ?v146) (by simp only [zA, zB, zC]; rfl) rfl ?hw146 (fun w1 => ?hy146) ?hn146; (case hw146 => rfl); (case hy146 => (go_simp; (try with_reducible rfl))); (try simp only [Act.put, zF, zG, zH]))
                  (refine TD.val0 (v := ?v147) (by simp only [zA, zB, zC]; rfl) rfl ?hw147 (fun w1 => ?hy147) ?hn147; (case hw147 => rfl); (case hy147 => (go_simp; (try with_reducible rfl))); (try simp only [Act.put, zF, zG, zH]))
                  (refine TD.val0 (v := ?v148) (by simp only [zA, zB, zC]; rfl) rfl ?hw148 (fun w1 => ?hy148) ?hn148; (case hw148 => rfl); (case hy148 => (go_simp; (try with_reducible rfl))); (try simp only [Act.put, zF, zG, zH]))
                  refine TD.nil (fun we hr => ?_)
                  have kp1 := hr.mod.at kp1 (fun h => h)
                  have mm := mm.then0 hr.mod
                  clear hr
                  go_wp2_with fail
                  go_ret
                  exact GrR.of false rfl (fun _ => ⟨by omega, by omega⟩) mm
    · have hdl : decide ((i : Int) < (x.ins.l.length : Int)) = false := decide_eq_false (by omega)
      go_wp2_with fail
      obtain ⟨wa, rfl⟩ : ∃ wa : World, wa = wr := ⟨_, rfl⟩
      go_loopw [3, 5] (fun s3 s5 ws => ∃ (i : Nat) (n : Int), i ≤ x.lks.l.length ∧ s3 = .int .i64 n ∧ s5 = .int .i64 (i : Int) ∧ Mod (fun _ => False) w1 ws) (fun _ s5 _ => x.lks.l.length - (intOf s5).toNat)
      case atStart => exact ⟨0, _, by omega, rfl, rfl, hm⟩
      case round =>
        clear hm kp1 mm
        obtain ⟨i, n, hi, rfl, rfl, hm⟩ := hrel
        have kp1 := hm.at0 KP.out
        have mm := m1.trans hm
        by_cases hlt : i < x.lks.l.length
        · have hdl : decide ((i : Int) < (x.lks.l.length : Int)) = true := decide_eq_true (by omega)
          by_cases hn : n < 20000
          · have hdn := decide_eq_true hn
            obtain ⟨y, hy⟩ : ∃ y, x.lks.l[i]? = some y := ⟨_, List.getElem?_eq_getElem hlt⟩
            obtain ⟨g, o, C, U, fr, ha, kg, c1, c2⟩ := lo_parts (HK.out.mod0 mm) hy
            clear hy
            go_upto_region 9 with fail
            have Lkp1 := lt_size kp1
            have Lkg := lt_size kg
            refine wp_pass (C := fun _ _ _ => False) (κ := fun i => [0, 0, 0, 0, 1, 0, 0, 0, 1, 0, 0, 0, 0, 0, 1, 0, 0, 0, 1, 0, 0, 0].getD i 0) [0, 1, 2, 3, 4, 5, 6, 7, 8, 9, 10, 11, 12, 13, 14, 15, 16, 17, 18, 19, 20, 21] (by kernel_rfl) (by kernel_rfl) (fun _ _ d _ _ h => by cases d <;> first | exact h | exact absurd h (hP _ _ _)) ?_
            (refine TD.val0 (v := ?v149) (by simp only [zA, zB, zC]; rfl) rfl ?hw149 (fun w1 => ?hy149) ?hn149; (case hw149 => rfl); (case hy149 => (go_simp; (try with_reducible rfl))); (try simp only [Act.put, zF, zG, zH]))
            (refine TD.val0 (v := ?v150) (by simp only [zA, zB, zC]; rfl) rfl ?hw150 (fun w1 => ?hy150) ?hn150; (case hw150 => rfl); (case hy150 => (go_simp; (try with_reducible rfl))); (try simp only [Act.put, zF, zG, zH]))
            (refine TD.val0 (v := ?v151) (by simp only [zA, zB, zC]; rfl) rfl ?hw151 (fun w1 => ?hy151) ?hn151; (case hw151 => rfl); (case hy151 => (go_simp; (try with_reducible rfl))); (try simp only [Act.put, zF, zG, zH]))
            (refine TD.val0 (v := ?v152) (by simp only [zA, zB, zC]; rfl) rfl ?hw152 (fun w1 => ?hy152) ?hn152; (case hw152 => rfl); (case hy152 => (go_simp; (try with_reducible rfl))); (try simp only [Act.put, zF, zG, zH]))
            (refine TD.load (v := ?v153) (p := ?p153) (Mod.refl _ _) (by simp only [zA, zB, zC]; rfl) rfl ?hw153 rfl ?hx153 (fun wq hSq => ?hy153) ?hn153; (case hw153 => rfl); (case hx153 => (simp only [Act.eval, zD, zA, zB, zC, zE]; (try rfl))); (case hy153 => (have kp1q := hSq.at kp1 (fun h => h); have kgq := hSq.at kg (fun h => h); go_simp; (try with_reducible rfl))); (try simp only [Act.put, zF, zG, zH]))
            (refine TD.val0 (v := ?v154) (by simp only [zA, zB, zC]; rfl) rfl ?hw154 (fun w1 => ?hy154) ?hn154; (case hw154 => rfl); (case hy154 => (go_simp; (try with_reducible rfl))); (try simp only [Act.put, zF, zG, zH]))
            (refine TD.val0 (v := ?v155) (by simp only [zA, zB, zC]; rfl) rfl ?hw155 (fun w1 => ?hy155) ?hn155; (case hw155 => rfl); (case hy155 => (go_simp; (try with_reducible rfl))); (try simp only [Act.put, zF, zG, zH]))
            (refine TD.val0 (v := ?v156) (by simp only [zA, zB, zC]; rfl) rfl ?hw156 (fun w1 => ?hy156) ?hn156; (case hw156 => rfl); (case hy156 => (go_simp; (try with_reducible rfl))); (try simp only [Act.put, zF, zG, zH]))
            (refine TD.load (v := ?v157) (p := ?p157) (Mod.refl _ _) (by simp only [zA, zB, zC]; rfl) rfl ?hw157 rfl ?hx157 (fun wq hSq => ?hy157) ?hn157; (case hw157 => rfl); (case hx157 => (simp only [Act.eval, zD, zA, zB, zC, zE]; (try rfl))); (case hy157 => (have kp1q := hSq.at kp1 (fun h => h); have kgq := hSq.at kg (fun h => h); go_simp; (try with_reducible rfl))); (try simp only [Act.put, zF, zG, zH]))
            (refine TD.val0 (v := ?v158) (by simp only [zA, zB, zC]; rfl) rfl ?hw158 (fun w1 => ?hy158) ?hn158; (case hw158 => rfl); (case hy158 => (go_simp; (try with_reducible rfl))); (try simp only [Act.put, zF, zG, zH]))
            (refine TD.val0 (v := ?v159) (by simp only [zA, zB, zC]; rfl) rfl ?hw159 (fun w1 => ?hy159) ?hn159; (case hw159 => rfl); (case hy159 => (go_simp; (try with_reducible rfl))); (try simp only [Act.put, zF, zG, zH]))
            (refine TD.val0 (v := ?v160) (by simp only [zA, zB, zC]; rfl) rfl ?hw160 (fun w1 => ?hy160) ?hn160; (case hw160 => rfl); (case hy160 => (go_simp; (try with_reducible rfl))); (try simp only [Act.put, zF, zG, zH]))
            (refine TD.val0 (v := ?v161) (by simp only [zA, zB, zC]; rfl) rfl ?hw161 (fun w1 => ?hy161) ?hn161; (case hw161 => rfl); (case hy161 => (go_simp; (try with_reducible rfl))); (try simp only [Act.put, zF, zG, zH]))
            (refine TD.val0 (v := ?v162) (by simp only [zA, zB, zC]; rfl) rfl ?hw162 (fun w1 => ?hy162) ?hn162; (case hw162 => rfl); (case hy162 => (go_simp; (try with_reducible rfl))); (try simp only [Act.put, zF, zG, zH]))
            (refine TD.load (v := ?v163) (p := ?p163) (Mod.refl _ _) (by simp only [zA, zB, zC]; rfl) rfl ?hw163 rfl ?hx163 (fun wq hSq => ?hy163) ?hn163; (case hw163 => rfl); (case hx163 => (simp only [Act.eval, zD, zA, zB, zC, zE]; (try rfl))); (case hy163 => (have kp1q := hSq.at kp1 (fun h => h); have kgq := hSq.at kg (fun h => h); go_simp; (try with_reducible rfl))); (try simp only [Act.put, zF, zG, zH]))
            (refine TD.val0 (v := ?v164) (by simp only [zA, zB, zC]; rfl) rfl ?hw164 (fun w1 => ?hy164) ?hn164; (case hw164 => rfl); (case hy164 => (go_simp; (try with_reducible rfl))); (try simp only [Act.put, zF, zG, zH]))
            (refine TD.val0 (v := ?v165) (by simp only [zA, zB, zC]; rfl) rfl ?hw165 (fun w1 => ?hy165) ?hn165; (case hw165 => rfl); (case hy165 => (go_simp; (try with_reducible rfl))); (try simp only [Act.put, zF, zG, zH]))
            (refine TD.val0 (v := ?v166) (by simp only [zA, zB, zC]; rfl) rfl ?hw166 (fun w1 => ?hy166) ?hn166; (case hw166 => rfl); (case hy166 => (go_simp; (try with_reducible rfl))); (try simp only [Act.put, zF, zG, zH]))
            (refine TD.load (v := ?v167) (p := ?p167) (Mod.refl _ _) (by simp only [zA, zB, zC]; rfl) rfl ?hw167 rfl ?hx167 (fun wq hSq => ?hy167) ?hn167; (case hw167 => rfl); (case hx167 => (simp only [Act.eval, zD, zA, zB, zC, zE]; (try rfl))); (case hy167 => (have kp1q := hSq.at kp1 (fun h => h); have kgq := hSq.at kg (fun h => h); go_simp; (try with_reducible rfl))); (try simp only [Act.put, zF, zG, zH]))
            (refine TD.val0 (v := ?v168) (by simp only [zA, zB, zC]; rfl) rfl ?hw168 (fun w1 => ?hy168) ?hn168; (case hw168 => rfl); (case hy168 => (go_simp; (try with_reducible rfl))); (try simp only [Act.put, zF, zG, zH]))
            (refine TD.val0 (v := ?v169) (by simp only [zA, zB, zC]; rfl) rfl ?hw169 (fun w1 => ?hy169) ?hn169; (case hw169 => rfl); (case hy169 => (go_simp; (try with_reducible rfl))); (try simp only [Act.put, zF, zG, zH]))
            (refine TD.val0 (v := ?v170) (by simp only [zA, zB, zC]; rfl) rfl ?hw170 (fun w1 => ?hy170) ?hn170; (case hw170 => rfl); (case hy170 => (go_simp; (try with_reducible rfl))); (try simp only [Act.put, zF, zG, zH]))
            refine TD.nil (fun w3 hr => ?_)
            have kp1 := hr.mod.at kp1 (fun h => h)
            have kg := hr.mod.at kg (fun h => h)
            have hm3 := hm.then0 hr.mod
            clear hr c1 c2 ha
            go_wp2_with fail
            go_roundw
            case rel => exact ⟨i + 1, _, by omega, rfl, by go_num, hm3⟩
            case measure => simp [intOf]; omega
          · have hdn := decide_eq_false hn
            go_upto_region 10 with fail
            by_cases hn : n > 10000
            · have hd := decide_eq_true hn
              go_wp2_with fail
              go_ret
              exact GrR.of true rfl (fun h => by cases h) mm
            · have hd := decide_eq_false hn
              by_cases hx1 : x.ins.l.length > 200
              · have hd1 : decide ((x.ins.l.length : Int) > 200) = true := decide_eq_true (by omega)
                have hd1n : decide (200 < x.ins.l.length) = true := decide_eq_true (by omega)
                have Lkp1 := lt_size kp1
                refine wp_pass0 (C := fun _ _ _ => False) (κ := fun i => [0, 0, 0, 0, 0, 0, 1, 0, 0, 0, 0, 0, 1, 0, 0, 0, 0].getD i 0) [0, 1, 2, 3, 4, 5, 6, 7, 8, 9, 10, 11, 12, 13, 14, 15, 16] (by kernel_rfl) (by kernel_rfl) (fun _ _ d _ _ h => by cases d <;> first | exact h | exact absurd h (hP _ _ _)) ?_
                (refine TD.val0 (v := ?v171) (by simp only [zA, zB, zC]; rfl) rfl ?hw171 (fun w1 => ?hy171) ?hn171; (case hw171 => rfl); (case hy171 => (go_simp; (try with_reducible rfl))); (try simp only [Act.put, zF, zG, zH]))
                (refine TD.val0 (v := ?v172) (by simp only [zA, zB, zC]; rfl) rfl ?hw172 (fun w1 => ?hy172) ?hn172; (case hw172 => rfl); (case hy172 => (go_simp; (try with_reducible rfl))); (try simp only [Act.put, zF, zG, zH]))
                (refine TD.val0 (v := ?v173) (by simp only [zA, zB, zC]; rfl) rfl ?hw173 (fun w1 => ?hy173) ?hn173; (case hw173 => rfl); (case hy173 => (go_simp; (try with_reducible rfl))); (try simp only [Act.put, zF, zG, zH]))
                (refine TD.val0 (v := ?v174) (by simp only [zA, zB, zC]; rfl) rfl ?hw174 (fun w1 => ?hy174) ?hn174; (case hw174 => rfl); (case hy174 => (go_simp; (try with_reducible rfl))); (try simp only [Act.put, zF, zG, zH]))
                (refine TD.val0 (v := ?v175) (by simp only [zA, zB, zC]; rfl) rfl ?hw175 (fun w1 => ?hy175) ?hn175; (case hw175 => rfl); (case hy175 => (go_simp; (try with_reducible rfl))); (try simp only [Act.put, zF, zG, zH]))
                (refine TD.val0 (v := ?v176) (by simp only [zA, zB, zC]; rfl) rfl ?hw176 (fun w1 => ?hy176) ?hn176; (case hw176 => rfl); (case hy176 => (go_simp; (try with_reducible rfl))); (try simp only [Act.put, zF, zG, zH]))
                (refine TD.load (v := ?v177) (p := ?p177) (Mod.refl _ _) (by simp only [zA, zB, zC]; rfl) rfl ?hw177 rfl ?hx177 (fun wq hSq => ?hy177) ?hn177; (case hw177 => rfl); (case hx177 => (simp only [Act.eval, zD, zA, zB, zC, zE]; (try rfl))); (case hy177 => (have kp1q := hSq.at kp1 (fun h => h); go_simp; (try with_reducible rfl))); (try simp only [Act.put, zF, zG, zH]))
                (refine TD.val0 (v := ?v178) (by simp only [zA, zB, zC]; rfl) rfl ?hw178 (fun w1 => ?hy178) ?hn178; (case hw178 => rfl); (case hy178 => (go_simp; (try with_reducible rfl))); (try simp only [Act.put, zF, zG, zH]))
                (refine TD.val0 (v := ?v179) (by simp only [zA, zB, zC]; rfl) rfl ?hw179 (fun w1 => ?hy179) ?hn179; (case hw179 => rfl); (case hy179 => (go_simp; (try with_reducible rfl))); (try simp only [Act.put, zF, zG, zH]))
                (refine TD.val0 (v := ?v180) (by simp only [zA, zB, zC]; rfl) rfl ?hw180 (fun w1 => ?hy180) ?hn180; (case hw180 => rfl); (case hy180 => (go_simp; (try with_reducible rfl))); (try simp only [Act.put, zF, zG, zH]))
                (refine TD.val0 (v := ?v181) (by simp only [zA, zB, zC]; rfl) rfl ?hw181 (fun w1 => ?hy181) ?hn181; (case hw181 => rfl); (case hy181 => (go_simp; (try with_reducible rfl))); (try simp only [Act.put, zF, zG, zH]))
                (refine TD.pass (by simp only [zA, zB, zC]; rfl) rfl ?hw182 ?hn182; (case hw182 => rfl); (try simp only [Act.put, zF, zG, zH]))
                (refine TD.pass1 (by simp only [zA, zB, zC]; rfl) rfl ?hw183 ?hn183; (case hw183 => rfl); (try simp only [Act.put, zF, zG, zH]))
                (refine TD.pass (by simp only [zA, zB, zC]; rfl) rfl ?hw184 ?hn184; (case hw184 => rfl); (try simp only [Act.put, zF, zG, zH]))
                (refine TD.pass (by simp only [zA, zB, zC]; rfl) rfl ?hw185 ?hn185; (case hw185 => rfl); (try simp only [Act.put, zF, zG, zH]))
                (refine TD.val0 (v := ?v186) (by simp only [zA, zB, zC]; rfl) rfl ?hw186 (fun w1 => ?hy186) ?hn186; (case hw186 => rfl); (case hy186 => (go_simp; (try with_reducible rfl))); (try simp only [Act.put, zF, zG, zH]))
                (refine TD.val0 (v := ?v187) (by simp only [zA, zB, zC]; rfl) rfl ?hw187 (fun w1 => ?hy187) ?hn187; (case hw187 => rfl); (case hy187 => (go_simp; (try with_reducible rfl))); (try simp only [Act.put, zF, zG, zH]))
                refine TD.nil (fun we hr => ?_)
                have kp1 := hr.mod.at kp1 (fun h => h)
                have mm := mm.then0 hr.mod
                clear hr
                go_wp2_with fail
                go_ret
                exact GrR.of true rfl (fun h => by cases h) mm
              · have hd1 : decide ((x.ins.l.length : Int) > 200) = false := decide_eq_false (by omega)
                have hd1n : decide (200 < x.ins.l.length) = false := decide_eq_false (by omega)
                by_cases hx2 : x.ro.l.length > 300
                · have hd2 : decide ((x.ro.l.length : Int) > 300) = true := decide_eq_true (by omega)
                  have hd2n : decide (300 < x.ro.l.length) = true := decide_eq_true (by omega)
                  have Lkp1 := lt_size kp1
                  refine wp_pass0 (C := fun _ _ _ => False) (κ := fun i => [0, 0, 0, 0, 0, 0, 1, 0, 0, 0, 0, 0, 1, 0, 0, 0, 0].getD i 0) [0, 1, 2, 3, 4, 5, 6, 7, 8, 9, 10, 11, 12, 13, 14, 15, 16] (by kernel_rfl) (by kernel_rfl) (fun _ _ d _ _ h => by cases d <;> first | exact h | exact absurd h (hP _ _ _)) ?_
                  (refine TD.val0 (v := ?v188) (by simp only [zA, zB, zC]; rfl) rfl ?hw188 (fun w1 => ?hy188) ?hn188; (case hw188 => rfl); (case hy188 => (go_simp; (try with_reducible rfl))); (try simp only [Act.put, zF, zG, zH]))
                  (refine TD.val0 (v := ?v189) (by simp only [zA, zB, zC]; rfl) rfl ?hw189 (fun w1 => ?hy189) ?hn189; (case hw189 => rfl); (case hy189 => (go_simp; (try with_reducible rfl))); (try simp only [Act.put, zF, zG, zH]))
                  (refine TD.val0 (v := ?v190) (by simp only [zA, zB, zC]; rfl) rfl ?hw190 (fun w1 => ?hy190) ?hn190; (case hw190 => rfl); (case hy190 => (go_simp; (try with_reducible rfl))); (try simp only [Act.put, zF, zG, zH]))
                  (refine TD.val0 (v := ?v191) (by simp only [zA, zB, zC]; rfl) rfl ?hw191 (fun w1 => ?hy191) ?hn191; (case hw191 => rfl); (case hy191 => (go_simp; (try with_reducible rfl))); (try simp only [Act.put, zF, zG, zH]))
                  (refine TD.val0 (v := ?v192) (by simp only [zA, zB, zC]; rfl) rfl ?hw192 (fun w1 => ?hy192) ?hn192; (case hw192 => rfl); (case hy192 => (go_simp; (try with_reducible rfl))); (try simp only [Act.put, zF, zG, zH]))
                  (refine TD.val0 (v := ?v193) (by simp only [zA, zB, zC]; rfl) rfl ?hw193 (fun w1 => ?hy193) ?hn193; (case hw193 => rfl); (case hy193 => (go_simp; (try with_reducible rfl))); (try simp only [Act.put, zF, zG, zH]))
                  (refine TD.load (v := ?v194) (p := ?p194) (Mod.refl _ _) (by simp only [zA, zB, zC]; rfl) rfl ?hw194 rfl ?hx194 (fun wq hSq => ?hy194) ?hn194; (case hw194 => rfl); (case hx194 => (simp only [Act.eval, zD, zA, zB, zC, zE]; (try rfl))); (case hy194 => (have kp1q := hSq.at kp1 (fun h => h); go_simp; (try with_reducible rfl))); (try simp only [Act.put, zF, zG, zH]))
                  (refine TD.val0 (v := ?v195) (by simp only [zA, zB, zC]; rfl) rfl ?hw195 (fun w1 => ?hy195) ?hn195; (case hw195 => rfl); (case hy195 => (go_simp; (try with_reducible rfl))); (try simp only [Act.put, zF, zG, zH]))
                  (refine TD.val0 (v := ?v196) (by simp only [zA, zB, zC]; rfl) rfl ?hw196 (fun w1 => ?hy196) ?hn196; (case hw196 => rfl); (case hy196 => (go_simp; (try with_reducible rfl))); (try simp only [Act.put, zF, zG, zH]))
                  (refine TD.val0 (v := ?v197) (by simp only [zA, zB, zC]; rfl) rfl ?hw197 (fun w1 => ?hy197) ?hn197; (case hw197 => rfl); (case hy197 => (go_simp; (try with_reducible rfl))); (try simp only [Act.put, zF, zG, zH]))
                  (refine TD.val0 (v := ?v198) (by simp only [zA, zB, zC]; rfl) rfl ?hw198 (fun w1 => ?hy198) ?hn198; (case hw198 => rfl); (case hy198 => (go_simp; (try with_reducible rfl))); (try simp only [Act.put, zF, zG, zH]))
                  (refine TD.val0 (v := ?v199) (by simp only [zA, zB, zC]; rfl) rfl ?hw199 (fun w1 => ?hy199) ?hn199; (case hw199 => rfl); (case hy199 => (go_simp; (try with_reducible rfl))); (try simp only [Act.put, zF, zG, zH]))
                  (refine TD.load (v := ?v200) (p := ?p200) (Mod.refl _ _) (by simp only [zA, zB, zC]; rfl) rfl ?hw200 rfl ?hx200 (fun wq hSq => ?hy200) ?hn200; (case hw200 => rfl); (case hx200 => (simp only [Act.eval, zD, zA, zB, zC, zE]; (try rfl))); (case hy200 => (have kp1q := hSq.at kp1 (fun h => h); go_simp; (try with_reducible rfl))); (try simp only [Act.put, zF, zG, zH]))
                  (refine TD.val0 (v := ?v201) (by simp only [zA, zB, zC]; rfl) rfl ?hw201 (fun w1 => ?hy201) ?hn201; (case hw201 => rfl); (case hy201 => (go_simp; (try with_reducible rfl))); (try simp only [Act.put, zF, zG, zH]))
                  (refine TD.val0 (v := ?v202) (by simp only [zA, zB, zC]; rfl) rfl ?hw202 (fun w1 => ?hy202) ?hn202; (case hw202 => rfl); (case hy202 => (go_simp; (try with_reducible rfl))); (try simp only [Act.put, zF, zG, zH]))
                  (refine TD.val0 (v := ?v203) (by simp only [zA, zB, zC]; rfl) rfl ?hw203 (fun w1 => ?hy203) ?hn203; (case hw203 => rfl); (case hy203 => (go_simp; (try with_reducible rfl))); (try simp only [Act.put, zF, zG, zH]))
                  (refine TD.val0 (v := ?v204) (by simp only [zA, zB, zC]; rfl) rfl ?hw204 (fun w1 => ?hy204) ?hn204; (case hw204 => rfl); (case hy204 => (go_simp; (try with_reducible rfl))); (try simp only [Act.put, zF, zG, zH]))
                  refine TD.nil (fun we hr => ?_)
                  have kp1 := hr.mod.at kp1 (fun h => h)
                  have mm := mm.then0 hr.mod
                  clear hr
                  go_wp2_with fail
                  go_ret
                  exact GrR.of true rfl (fun h => by cases h) mm
                · have hd2 : decide ((x.ro.l.length : Int) > 300) = false := decide_eq_false (by omega)
                  have hd2n : decide (300 < x.ro.l.length) = false := decide_eq_false (by omega)
                  have Lkp1 := lt_size kp1
                  refine wp_pass0 (C := fun _ _ _ => False) (κ := fun i => [0, 0, 0, 0, 0, 0, 1, 0, 0, 0, 0, 0, 1, 0, 0, 0, 0].getD i 0) [0, 1, 2, 3, 4, 5, 6, 7, 8, 9, 10, 11, 12, 13, 14, 15, 16] (by kernel_rfl) (by kernel_rfl) (fun _ _ d _ _ h => by cases d <;> first | exact h | exact absurd h (hP _ _ _)) ?_
                  (refine TD.val0 (v := ?v205) (by simp only [zA, zB, zC]; rfl) rfl ?hw205 (fun w1 => ?hy205) ?hn205; (case hw205 => rfl); (case hy205 => (go_simp; (try with_reducible rfl))); (try simp only [Act.put, zF, zG, zH]))
                  (refine TD.val0 (v := ?v206) (by simp only [zA, zB, zC]; rfl) rfl ?hw206 (fun w1 => ?hy206) ?hn206; (case hw206 => rfl); (case hy206 => (go_simp; (try with_reducible rfl))); (try simp only [Act.put, zF, zG, zH]))
                  (refine TD.val0 (v := ?v207) (by simp only [zA, zB, zC]; rfl) rfl ?hw207 (fun w1 => ?hy207) ?hn207; (case hw207 => rfl); (case hy207 => (go_simp; (try with_reducible rfl))); (try simp only [Act.put, zF, zG, zH]))
                  (refine TD.val0 (v := ?v208) (by simp only [zA, zB, zC]; rfl) rfl ?hw208 (fun w1 => ?hy208) ?hn208; (case hw208 => rfl); (case hy208 => (go_simp; (try with_reducible rfl))); (try simp only [Act.put, zF, zG, zH]))
                  (refine TD.val0 (v := ?v209) (by simp only [zA, zB, zC]; rfl) rfl ?hw209 (fun w1 => ?hy209) ?hn209; (case hw209 => rfl); (case hy209 => (go_simp; (try with_reducible rfl))); (try simp only [Act.put, zF, zG, zH]))
                  (refine TD.val0 (v := ?v210) (by simp only [zA, zB, zC]; rfl) rfl ?hw210 (fun w1 => ?hy210) ?hn210; (case hw210 => rfl); (case hy210 => (go_simp; (try with_reducible rfl))); (try simp only [Act.put, zF, zG, zH]))
                  (refine TD.load (v := ?v211) (p := ?p211) (Mod.refl _ _) (by simp only [zA, zB, zC]; rfl) rfl ?hw211 rfl ?hx211 (fun wq hSq => ?hy211) ?hn211; (case hw211 => rfl); (case hx211 => (simp only [Act.eval, zD, zA, zB, zC, zE]; (try rfl))); (case hy211 => (have kp1q := hSq.at kp1 (fun h => h); go_simp; (try with_reducible rfl))); (try simp only [Act.put, zF, zG, zH]))
                  (refine TD.val0 (v := ?v212) (by simp only [zA, zB, zC]; rfl) rfl ?hw212 (fun w1 => ?hy212) ?hn212; (case hw212 => rfl); (case hy212 => (go_simp; (try with_reducible rfl))); (try simp only [Act.put, zF, zG, zH]))
                  (refine TD.val0 (v := ?v213) (by simp only [zA, zB, zC]; rfl) rfl ?hw213 (fun w1 => ?hy213) ?hn213; (case hw213 => rfl); (case hy213 => (go_simp; (try with_reducible rfl))); (try simp only [Act.put, zF, zG, zH]))
                  (refine TD.val0 (v := ?v214) (by simp only [zA, zB, zC]; rfl) rfl ?hw214 (fun w1 => ?hy214) ?hn214; (case hw214 => rfl); (case hy214 => (go_simp; (try with_reducible rfl))); (try simp only [Act.put, zF, zG, zH]))
                  (refine TD.val0 (v := ?v215) (by simp only [zA, zB, zC]; rfl) rfl ?hw215 (fun w1 => ?hy215) ?hn215; (case hw215 => rfl); (case hy215 => (go_simp; (try with_reducible rfl))); (try simp only [Act.put, zF, zG, zH]))
                  (refine TD.val0 (v := ?v216) (by simp only [zA, zB, zC]; rfl) rfl ?hw216 (fun w1 => ?hy216) ?hn216; (case hw216 => rfl); (case hy216 => (go_simp; (try with_reducible rfl))); (try simp only [Act.put, zF, zG, zH]))
                  (refine TD.load (v := ?v217) (p := ?p217) (Mod.refl _ _) (by simp only [zA, zB, zC]; rfl) rfl ?hw217 rfl ?hx217 (fun wq hSq => ?hy217) ?hn217; (case hw217 => rfl); (case hx217 => (simp only [Act.eval, zD, zA, zB, zC, zE]; (try rfl))); (case hy217 => (have kp1q := hSq.at kp1 (fun h => h); go_simp; (try with_reducible rfl))); (try simp only [Act.put, zF, zG, zH]))
                  (refine TD.val0 (v := ?v218) (by simp only [zA, zB, zC]; rfl) rfl ?hw218 (fun w1 => ?hy218) ?hn218; (case hw218 => rfl); (case hy218 => (go_simp; (try with_reducible rfl))); (try simp only [Act.put, zF, zG, zH]))
                  (refine TD.val0 (v := ?v219) (by simp only [zA, zB, zC]; rfl) rfl ?hw219 (fun w1 => ?hy219) ?hn219; (case hw219 => rfl); (case hy219 => (go_simp; (try with_reducible rfl))); (try simp only [Act.put, zF, zG, zH]))
                  (refine TD.val0 (v := ?v220) (by simp only [zA, zB, zC]; rfl) rfl ?hw220 (fun w1 => ?hy220) ?hn220; (case hw220 => rfl); (case hy220 => (go_simp; (try with_reducible rfl))); (try simp only [Act.put, zF, zG, zH]))
                  (refine TD.val0 (v := ?v221) (by simp only [zA, zB, zC]; rfl) rfl ?hw221 (fun w1 => ?hy221) ?hn221; (case hw221 => rfl); (case hy221 => (go_simp; (try with_reducible rfl))); (try simp only [Act.put, zF, zG, zH]))
                  refine TD.nil (fun we hr => ?_)
                  have kp1 := hr.mod.at kp1 (fun h => h)
                  have mm := mm.then0 hr.mod
                  clear hr
                  go_wp2_with fail
                  go_ret
                  exact GrR.of false rfl (fun _ => ⟨by omega, by omega⟩) mm
        · have hdl : decide ((i : Int) < (x.lks.l.length : Int)) = false := decide_eq_false (by omega)
          go_upto_region 10 with fail
          by_cases hn : n > 10000
          · have hd := decide_eq_true hn
            go_wp2_with fail
            go_ret
            exact GrR.of true rfl (fun h => by cases h) mm
          · have hd := decide_eq_false hn
            by_cases hx1 : x.ins.l.length > 200
            · have hd1 : decide ((x.ins.l.length : Int) > 200) = true := decide_eq_true (by omega)
              have hd1n : decide (200 < x.ins.l.length) = true := decide_eq_true (by omega)
              have Lkp1 := lt_size kp1
              refine wp_pass0 (C := fun _ _ _ => False) (κ := fun i => [0, 0, 0, 0, 0, 0, 1, 0, 0, 0, 0, 0, 1, 0, 0, 0, 0].getD i 0) [0, 1, 2, 3, 4, 5, 6, 7, 8, 9, 10, 11, 12, 13, 14, 15, 16] (by kernel_rfl) (by kernel_rfl) (fun _ _ d _ _ h => by cases d <;> first | exact h | exact absurd h (hP _ _ _)) ?_
              (refine TD.val0 (v := ?v222) (by simp only [zA, zB, zC]; rfl) rfl ?hw222 (fun w1 => ?hy222) ?hn222; (case hw222 => rfl); (case hy222 => (go_simp; (try with_reducible rfl))); (try simp only [Act.put, zF, zG, zH]))
              (refine TD.val0 (v := ?v223) (by simp only [zA, zB, zC]; rfl) rfl ?hw223 (fun w1 => ?hy223) ?hn223; (case hw223 => rfl); (case hy223 => (go_simp; (try with_reducible rfl))); (try simp only [Act.put, zF, zG, zH]))
              (refine TD.val0 (v := ?v224) (by simp only [zA, zB, zC]; rfl) rfl ?hw224 (fun w1 => ?hy224) ?hn224; (case hw224 => rfl); (case hy224 => (go_simp; (try with_reducible rfl))); (try simp only [Act.put, zF, zG, zH]))
              (refine TD.val0 (v := ?v225) (by simp only [zA, zB, zC]; rfl) rfl ?hw225 (fun w1 => ?hy225) ?hn225; (case hw225 => rfl); (case hy225 => (go_simp; (try with_reducible rfl))); (try simp only [Act.put, zF, zG, zH]))
              (refine TD.val0 (v := ?v226) (by simp only [zA, zB, zC]; rfl) rfl ?hw226 (fun w1 => ?hy226) ?hn226; (case hw226 => rfl); (case hy226 => (go_simp; (try with_reducible rfl))); (try simp only [Act.put, zF, zG, zH]))
              (refine TD.val0 (v := ?v227) (by simp only [zA, zB, zC]; rfl) rfl ?hw227 (fun w1 => ?hy227) ?hn227; (case hw227 => rfl); (case hy227 => (go_simp; (try with_reducible rfl))); (try simp only [Act.put, zF, zG, zH]))
              (refine TD.load (v := ?v228) (p := ?p228) (Mod.refl _ _) (by simp only [zA, zB, zC]; rfl) rfl ?hw228 rfl ?hx228 (fun wq hSq => ?hy228) ?hn228; (case hw228 => rfl); (case hx228 => (simp only [Act.eval, zD, zA, zB, zC, zE]; (try rfl))); (case hy228 => (have kp1q := hSq.at kp1 (fun h => h); go_simp; (try with_reducible rfl))); (try simp only [Act.put, zF, zG, zH]))
              (refine TD.val0 (v := ?v229) (by simp only [zA, zB, zC]; rfl) rfl ?hw229 (fun w1 => ?hy229) ?hn229; (case hw229 => rfl); (case hy229 => (go_simp; (try with_reducible rfl))); (try simp only [Act.put, zF, zG, zH]))
              (refine TD.val0 (v := ?v230) (by simp only [zA, zB, zC]; rfl) rfl ?hw230 (fun w1 => ?hy230) ?hn230; (case hw230 => rfl); (case hy230 => (go_simp; (try with_reducible rfl))); (try simp only [Act.put, zF, zG, zH]))
              (refine TD.val0 (v := ?v231) (by simp only [zA, zB, zC]; rfl) rfl ?hw231 (fun w1 => ?hy231) ?hn231; (case hw231 => rfl); (case hy231 => (go_simp; (try with_reducible rfl))); (try simp only [Act.put, zF, zG, zH]))
              (refine TD.val0 (v := ?v232) (by simp only [zA, zB, zC]; rfl) rfl ?hw232 (fun w1 => ?hy232) ?hn232; (case hw232 => rfl); (case hy232 => (go_simp; (try with_reducible rfl))); (try simp only [Act.put, zF, zG, zH]))
              (refine TD.pass (by simp only [zA, zB, zC]; rfl) rfl ?hw233 ?hn233; (case hw233 => rfl); (try simp only [Act.put, zF, zG, zH]))
              (refine TD.pass1 (by simp only [zA, zB, zC]; rfl) rfl ?hw234 ?hn234; (case hw234 => rfl); (try simp only [Act.put, zF, zG, zH]))
              (refine TD.pass (by simp only [zA, zB, zC]; rfl) rfl ?hw235 ?hn235; (case hw235 => rfl); (try simp only [Act.put, zF, zG, zH]))
              (refine TD.pass (by simp only [zA, zB, zC]; rfl) rfl ?hw236 ?hn236; (case hw236 => rfl); (try simp only [Act.put, zF, zG, zH]))
              (refine TD.val0 (v := ?v237) (by simp only [zA, zB, zC]; rfl) rfl ?hw237 (fun w1 => ?hy237) ?hn237; (case hw237 => rfl); (case hy237 => (go_simp; (try with_reducible rfl))); (try simp only [Act.put, zF, zG, zH]))
              (refine TD.val0 (v := ?v238) (by simp only [zA, zB, zC]; rfl) rfl ?hw238 (fun w1 => ?hy238) ?hn238; (case hw238 => rfl); (case hy238 => (go_simp; (try with_reducible rfl))); (try simp only [Act.put, zF, zG, zH]))
              refine TD.nil (fun we hr => ?_)
              have kp1 := hr.mod.at kp1 (fun h => h)
              have mm := mm.then0 hr.mod
              clear hr
              go_wp2_with fail
              go_ret
              exact GrR.of true rfl (fun h => by cases h) mm
            · have hd1 : decide ((x.ins.l.length : Int) > 200) = false := decide_eq_false (by omega)
              have hd1n : decide (200 < x.ins.l.length) = false := decide_eq_false (by omega)
              by_cases hx2 : x.ro.l.length > 300
              · have hd2 : decide ((x.ro.l.length : Int) > 300) = true := decide_eq_true (by omega)
                have hd2n : decide (300 < x.ro.l.length) = true := decide_eq_true (by omega)
                have Lkp1 := lt_size kp1
                refine wp_pass0 (C := fun _ _ _ => False) (κ := fun i => [0, 0, 0, 0, 0, 0, 1, 0, 0, 0, 0, 0, 1, 0, 0, 0, 0].getD i 0) [0, 1, 2, 3, 4, 5, 6, 7, 8, 9, 10, 11, 12, 13, 14, 15, 16] (by kernel_rfl) (by kernel_rfl) (fun _ _ d _ _ h => by cases d <;> first | exact h | exact absurd h (hP _ _ _)) ?_
                (refine TD.val0 (v := ?v239) (by simp only [zA, zB, zC]; rfl) rfl ?hw239 (fun w1 => ?hy239) ?hn239; (case hw239 => rfl); (case hy239 => (go_simp; (try with_reducible rfl))); (try simp only [Act.put, zF, zG, zH]))
                (refine TD.val0 (v := ?v240) (by simp only [zA, zB, zC]; rfl) rfl ?hw240 (fun w1 => ?hy240) ?hn240; (case hw240 => rfl); (case hy240 => (go_simp; (try with_reducible rfl))); (try simp only [Act.put, zF, zG, zH]))
                (refine TD.val0 (v := ?v241) (by simp only [zA, zB, zC]; rfl) rfl ?hw241 (fun w1 => ?hy241) ?hn241; (case hw241 => rfl); (case hy241 => (go_simp; (try with_reducible rfl))); (try simp only [Act.put, zF, zG, zH]))
                (refine TD.val0 (v := ?v242) (by simp only [zA, zB, zC]; rfl) rfl ?hw242 (fun w1 => ?hy242) ?hn242; (case hw242 => rfl); (case hy242 => (go_simp; (try with_reducible rfl))); (try simp only [Act.put, zF, zG, zH]))
                (refine TD.val0 (v := ?v243) (by simp only [zA, zB, zC]; rfl) rfl ?hw243 (fun w1 => ?hy243) ?hn243; (case hw243 => rfl); (case hy243 => (go_simp; (try with_reducible rfl))); (try simp only [Act.put, zF, zG, zH]))
                (refine TD.val0 (v := ?v244) (by simp only [zA, zB, zC]; rfl) rfl ?hw244 (fun w1 => ?hy244) ?hn244; (case hw244 => rfl); (case hy244 => (go_simp; (try with_reducible rfl))); (try simp only [Act.put, zF, zG, zH]))
                (refine TD.load (v := ?v245) (p := ?p245) (Mod.refl _ _) (by simp only [zA, zB, zC]; rfl) rfl ?hw245 rfl ?hx245 (fun wq hSq => ?hy245) ?hn245; (case hw245 => rfl); (case hx245 => (simp only [Act.eval, zD, zA, zB, zC, zE]; (try rfl))); (case hy245 => (have kp1q := hSq.at kp1 (fun h => h); go_simp; (try with_reducible rfl))); (try simp only [Act.put, zF, zG, zH]))
                (refine TD.val0 (v := ?v246) (by simp only [zA, zB, zC]; rfl) rfl ?hw246 (fun w1 => ?hy246) ?hn246; (case hw246 => rfl); (case hy246 => (go_simp; (try with_reducible rfl))); (try simp only [Act.put, zF, zG, zH]))
                (refine TD.val0 (v := ?v247) (by simp only [zA, zB, zC]; rfl) rfl ?hw247 (fun w1 => ?hy247) ?hn247; (case hw247 => rfl); (case hy247 => (go_simp; (try with_reducible rfl))); (try simp only [Act.put, zF, zG, zH]))
                (refine TD.val0 (v := ?v248) (by simp only [zA, zB, zC]; rfl) rfl ?hw248 (fun w1 => ?hy248) ?hn248; (case hw248 => rfl); (case hy248 => (go_simp; (try with_reducible rfl))); (try simp only [Act.put, zF, zG, zH]))
                (refine TD.val0 (v := ?v249) (by simp only [zA, zB, zC]; rfl) rfl ?hw249 (fun w1 => ?hy249) ?hn249; (case hw249 => rfl); (case hy249 => (go_simp; (try with_reducible rfl))); (try simp only [Act.put, zF, zG, zH]))
                (refine TD.val0 (v := ?v250) (by simp only [zA, zB, zC]; rfl) rfl ?hw250 (fun w1 => ?hy250) ?hn250; (case hw250 => rfl); (case hy250 => (go_simp; (try with_reducible rfl))); (try simp only [Act.put, zF, zG, zH]))
                (refine TD.load (v := ?v251) (p := ?p251) (Mod.refl _ _) (by simp only [zA, zB, zC]; rfl) rfl ?hw251 rfl ?hx251 (fun wq hSq => ?hy251) ?hn251; (case hw251 => rfl); (case hx251 => (simp only [Act.eval, zD, zA, zB, zC, zE]; (try rfl))); (case hy251 => (have kp1q := hSq.at kp1 (fun h => h); go_simp; (try with_reducible rfl))); (try simp only [Act.put, zF, zG, zH]))
                (refine TD.val0 (v := ?v252) (by simp only [zA, zB, zC]; rfl) rfl ?hw252 (fun w1 => ?hy252) ?hn252; (case hw252 => rfl); (case hy252 => (go_simp; (try with_reducible rfl))); (try simp only [Act.put, zF, zG, zH]))
                (refine TD.val0 (v := ?v253) (by simp only [zA, zB, zC]; rfl) rfl ?hw253 (fun w1 => ?hy253) ?hn253; (case hw253 => rfl); (case hy253 => (go_simp; (try with_reducible rfl))); (try simp only [Act.put, zF, zG, zH]))
                (refine TD.val0 (v := ?v254) (by simp only [zA, zB, zC]; rfl) rfl ?hw254 (fun w1 => ?hy254) ?hn254; (case hw254 => rfl); (case hy254 => (go_simp; (try with_reducible rfl))); (try simp only [Act.put, zF, zG, zH]))
                (refine TD.val0 (v := ?v255) (by simp only [zA, zB, zC]; rfl) rfl ?hw255 (fun w1 => ?hy255) ?hn255; (case hw255 => rfl); (case hy255 => (go_simp; (try with_reducible rfl))); (try simp only [Act.put, zF, zG, zH]))
                refine TD.nil (fun we hr => ?_)
                have kp1 := hr.mod.at kp1 (fun h => h)
                have mm := mm.then0 hr.mod
                clear hr
                go_wp2_with fail
                go_ret
                exact GrR.of true rfl (fun h => by cases h) mm
              · have hd2 : decide ((x.ro.l.length : Int) > 300) = false := decide_eq_false (by omega)
                have hd2n : decide (300 < x.ro.l.length) = false := decide_eq_false (by omega)
                have Lkp1 := lt_size kp1
                refine wp_pass0 (C := fun _ _ _ => False) (κ := fun i => [0, 0, 0, 0, 0, 0, 1, 0, 0, 0, 0, 0, 1, 0, 0, 0, 0].getD i 0) [0, 1, 2, 3, 4, 5, 6, 7, 8, 9, 10, 11, 12, 13, 14, 15, 16] (by kernel_rfl) (by kernel_rfl) (fun _ _ d _ _ h => by cases d <;> first | exact h | exact absurd h (hP _ _ _)) ?_
                (refine TD.val0 (v := ?v256) (by simp only [zA, zB, zC]; rfl) rfl ?hw256 (fun w1 => ?hy256) ?hn256; (case hw256 => rfl); (case hy256 => (go_simp; (try with_reducible rfl))); (try simp only [Act.put, zF, zG, zH]))
                (refine TD.val0 (v := ?v257) (by simp only [zA, zB, zC]; rfl) rfl ?hw257 (fun w1 => ?hy257) ?hn257; (case hw257 => rfl); (case hy257 => (go_simp; (try with_reducible rfl))); (try simp only [Act.put, zF, zG, zH]))
                (refine TD.val0 (v := ?v258) (by simp only [zA, zB, zC]; rfl) rfl ?hw258 (fun w1 => ?hy258) ?hn258; (case hw258 => rfl); (case hy258 => (go_simp; (try with_reducible rfl))); (try simp only [Act.put, zF, zG, zH]))
                (refine TD.val0 (v := ?v259) (by simp only [zA, zB, zC]; rfl) rfl ?hw259 (fun w1 => ?hy259) ?hn259; (case hw259 => rfl); (case hy259 => (go_simp; (try with_reducible rfl))); (try simp only [Act.put, zF, zG, zH]))
                (refine TD.val0 (v := ?v260) (by simp only [zA, zB, zC]; rfl) rfl ?hw260 (fun w1 => ?hy260) ?hn260; (case hw260 => rfl); (case hy260 => (go_simp; (try with_reducible rfl))); (try simp only [Act.put, zF, zG, zH]))
                (refine TD.val0 (v := ?v261) (by simp only [zA, zB, zC]; rfl) rfl ?hw261 (fun w1 => ?hy261) ?hn261; (case hw261 => rfl); (case hy261 => (go_simp; (try with_reducible rfl))); (try simp only [Act.put, zF, zG, zH]))
                (refine TD.load (v := ?v262) (p := ?p262) (Mod.refl _ _) (by simp only [zA, zB, zC]; rfl) rfl ?hw262 rfl ?hx262 (fun wq hSq => ?hy262) ?hn262; (case hw262 => rfl); (case hx262 => (simp only [Act.eval, zD, zA, zB, zC, zE]; (try rfl))); (case hy262 => (have kp1q := hSq.at kp1 (fun h => h); go_simp; (try with_reducible rfl))); (try simp only [Act.put, zF, zG, zH]))
                (refine TD.val0 (v := ?v263) (by simp only [zA, zB, zC]; rfl) rfl ?hw263 (fun w1 => ?hy263) ?hn263; (case hw263 => rfl); (case hy263 => (go_simp; (try with_reducible rfl))); (try simp only [Act.put, zF, zG, zH]))
                (refine TD.val0 (v := ?v264) (by simp only [zA, zB, zC]; rfl) rfl ?hw264 (fun w1 => ?hy264) ?hn264; (case hw264 => rfl); (case hy264 => (go_simp; (try with_reducible rfl))); (try simp only [Act.put, zF, zG, zH]))
                (refine TD.val0 (v := ?v265) (by simp only [zA, zB, zC]; rfl) rfl ?hw265 (fun w1 => ?hy265) ?hn265; (case hw265 => rfl); (case hy265 => (go_simp; (try with_reducible rfl))); (try simp only [Act.put, zF, zG, zH]))
                (refine TD.val0 (v := ?v266) (by simp only [zA, zB, zC]; rfl) rfl ?hw266 (fun w1 => ?hy266) ?hn266; (case hw266 => rfl); (case hy266 => (go_simp; (try with_reducible rfl))); (try simp only [Act.put, zF, zG, zH]))
                (refine TD.val0 (v := ?v267) (by simp only [zA, zB, zC]; rfl) rfl ?hw267 (fun w1 => ?hy267) ?hn267; (case hw267 => rfl); (case hy267 => (go_simp; (try with_reducible rfl))); (try simp only [Act.put, zF, zG, zH]))
                (refine TD.load (v := ?v268) (p := ?p268) (Mod.refl _ _) (by simp only [zA, zB, zC]; rfl) rfl ?hw268 rfl ?hx268 (fun wq hSq => ?hy268) ?hn268; (case hw268 => rfl); (case hx268 => (simp only [Act.eval, zD, zA, zB, zC, zE]; (try rfl))); (case hy268 => (have kp1q := hSq.at kp1 (fun h => h); go_simp; (try with_reducible rfl))); (try simp only [Act.put, zF, zG, zH]))
                (refine TD.val0 (v := ?v269) (by simp only [zA, zB, zC]; rfl) rfl ?hw269 (fun w1 => ?hy269) ?hn269; (case hw269 => rfl); (case hy269 => (go_simp; (try with_reducible rfl))); (try simp only [Act.put, zF, zG, zH]))
                (refine TD.val0 (v := ?v270) (by simp only [zA, zB, zC]; rfl) rfl ?hw270 (fun w1 => ?hy270) ?hn270; (case hw270 => rfl); (case hy270 => (go_simp; (try with_reducible rfl))); (try simp only [Act.put, zF, zG, zH]))
                (refine TD.val0 (v := ?v271) (by simp only [zA, zB, zC]; rfl) rfl ?hw271 (fun w1 => ?hy271) ?hn271; (case hw271 => rfl); (case hy271 => (go_simp; (try with_reducible rfl))); (try simp only [Act.put, zF, zG, zH]))
                (refine TD.val0 (v := ?v272) (by simp only [zA, zB, zC]; rfl) rfl ?hw272 (fun w1 => ?hy272) ?hn272; (case hw272 => rfl); (case hy272 => (go_simp; (try with_reducible rfl))); (try simp only [Act.put, zF, zG, zH]))
                refine TD.nil (fun we hr => ?_)
                have kp1 := hr.mod.at kp1 (fun h => h)
                have mm := mm.then0 hr.mod
                clear hr
                go_wp2_with fail
                go_ret
                exact GrR.of false rfl (fun _ => ⟨by omega, by omega⟩) mm
end Go.Proofs.Ytofpnmoeimjnnaa
