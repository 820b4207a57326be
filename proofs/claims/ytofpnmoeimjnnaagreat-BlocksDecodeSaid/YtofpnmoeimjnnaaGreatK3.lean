/- The lemmas of the proof, part 3: how the program and its data lie in memory, and what its functions do. -/
import Derived.Test.YtofpnmoeimjnnaaGreatK2
import Derived.Laws.CopyRow
namespace Go.Proofs.YtofpnmoeimjnnaaGreat
open Go.RowKit
open Go.ChangeMaps (setBlock)
set_option linter.unusedSimpArgs false
set_option linter.unusedVariables false
attribute [local go_sem] cell_blk frozen_blk one_int one_bool one_ptr one_slice one_map Value.cells
attribute [local go_sem ↓] wlKey ldKey stKey wlMsg ldMsg stMsg wlRg ldRg stRg wlTc ldTc stTc wlSg ldSg stSg
attribute [local go_sem] kc_ext kc_one kc_one0 kc_size zKey_size one_slice mgx_size mgx_ext mgx_one mgx_one0 zMsg_size zMsg_all zMsg_all0
theorem rgx0' {sa : Option Addr} {sn sc : Nat} {m : McR} {la : Option Addr} {ln lc : Nat} (h : 0 < (rgx sa sn sc m la ln lc).size) : (rgx sa sn sc m la ln lc)[0] = .slice sa sn sc := at_get (rgx0 ..) h
theorem rgx40' {sa : Option Addr} {sn sc : Nat} {m : McR} {la : Option Addr} {ln lc : Nat} (h : 40 < (rgx sa sn sc m la ln lc).size) : (rgx sa sn sc m la ln lc)[40] = .slice la ln lc := at_get (rgx40 ..) h
attribute [local go_sem] rgx_size rgx_ext rgx_one rgx_one0 rgx0 rgx40 rgx0' rgx40' sgc_size sgc_ext sgc_one0 sgc_one'
def RgA (p : Nat) (S : List Sg) (L : List UInt8) (w : World) : Prop := ∃ sa sc la lc, w.heap[p]? = some (.cells (rgx sa S.length sc mc0 la L.length lc) 148 (0, 0)) ∧ SlOwn sgc 64 66 w (p + 1) (.slice sa S.length sc) S ∧ SlAt uc 1 w la L ∧ L.length ≤ lc ∧ (la = none → lc = 0) ∧ (∀ x, la = some x → x.block < p) ∧ L.length + S.length ≤ 1000000
theorem arrSig2 (b o c : Nat) (w : World) : (Instr.arrayAt 66 (.slice (some ⟨b, o, none⟩) 64 c)).run Tryz.prog w = .ok (.pointer (some ⟨b, o, none⟩)) w := by kernel_rfl
theorem bsSg (k : Sg) (w : World) : (Instr.buildSlice 34 1 #[(0, .agg (sgc k))]).run Tryz.prog w = .ok (.slice (some ⟨w.heap.size, 0, none⟩) 1 1) (w.alloc (.cells (sgc k) 66)) := by
  obtain ⟨i0, hi, hz0, hz1, hz2⟩ := info_parts (show (Tryz.prog.info? 66).map (fun i => (i.zero, i.size, i.bytes)) = some (some (.agg zSg), 64, 64) by kernel_rfl)
  refine run_buildSlice w _ _ 1 _ _ i0 _ Tryz.underlying34 hi hz0 (by rw [hz1]; omega) (by rw [hz1]; omega) ?_
  rw [hz1]
  show Instr.fill _ _ [(0, _)] = _
  rw [fill_cons (off := 0) (n := 64) rfl (by simp [Value.cells, sgc_size]) (by simp [Value.cells, zSg, size_madeCells])]
  show some (wr _ 0 (sgc k).toList) = _
  rw [wr_whole (sgc k) _ (by simp [Value.cells, zSg, size_madeCells, sgc_size])]
theorem ldSgRow {b o : Nat} {C : Array Value} {U : TypeId} {fr : Nat × Nat} {x : Sg} {w : World} (h : w.heap[b]? = some (.cells C U fr)) (hr : C.extract o (o + 64) = sgc x ∧ o + 64 ≤ C.size) : (Instr.loadAt 66 (.pointer (some ⟨b, o, none⟩))).run Tryz.prog w = .ok (.agg (sgc x)) w := by
  rw [ldSg, h]
  simp [hr.1, hr.2]
set_option maxRecDepth 20000 in
set_option maxHeartbeats 3200000 in
theorem sigY_c {p : Nat} {S : List Sg} {L : List UInt8} {w : World} (h : RgA p S L w) (h64 : 64 ≤ L.length) :
    Calls Tryz.prog 58 #[pV p] w fun e w' => e = .returned (.bool true) ∧ RgA p (S ++ [⟨L.take 64, by rw [List.length_take]; omega⟩]) (L.drop 64) w' ∧ Mod (fun i => p ≤ i) w w' := by
  obtain ⟨sa, sc, la, lc, kp, hS, hL, hlc, hnl, hbl, hln⟩ := h
  obtain ⟨nL, hnL⟩ : ∃ nL, L.length = nL := ⟨_, rfl⟩
  obtain ⟨nS, hnS⟩ : ∃ nS, S.length = nS := ⟨_, rfl⟩
  have hL32 : (L.take 64).length = 64 := by rw [List.length_take]; omega
  obtain ⟨d, hd0⟩ : ∃ d, nL - 64 = d := ⟨_, rfl⟩
  obtain ⟨x, hx⟩ : ∃ x : Sg, x = ⟨L.take 64, hL32⟩ := ⟨_, rfl⟩
  rw [hnL, hnS] at kp
  rcases hL with h | ⟨b, o, C, U, fr, rfl, kb, hcc⟩
  · rw [h] at h64
    cases h64
  have hrow := row_of (C := C) (o := o) hL32 (fun i y hy => by
    rw [List.getElem?_take] at hy
    split at hy
    · exact hcc i y hy
    · cases hy) (by omega)
  have hx2 : sgc x = ((L.take 64).map bc).toArray := by rw [hx]; rfl
  rw [← hx2] at hrow
  have hbp := hbl _ rfl
  simp only at hbp
  have HI := Lib.hid (And.intro hnL (And.intro hnS (And.intro hln (And.intro hlc hx))))
  have HS := Lib.hid hS
  have hlt := hS.lt
  have HLT := Lib.hid hlt
  have HRW := Lib.hid hrow
  have HHD := Lib.hid (fun w2 => sl_head (P := Tryz.prog) bytesT (b := b) (o := o) (nn := nL) (c := lc) (m := 64) (by omega) (by omega) w2)
  obtain ⟨la2, hfr, hfs, hfb, hfn⟩ := sl_from (P := Tryz.prog) bytesT (w0 := w) (a := some ⟨b, o, none⟩) (c := lc) (k := 64) (.inr ⟨b, o, C, U, fr, rfl, kb, hcc⟩) h64 hlc (fun e => by cases e)
  rw [hnL] at hfr
  rw [hd0] at hfr
  have HFR := Lib.hid hfr
  have HD := Lib.hid hd0
  have HFS := Lib.hid (And.intro hfs (And.intro hfb hfn))
  have HKB : Hid (SlAt uc 1 w (some ⟨b, o, none⟩) L) := Lib.hid (.inr ⟨b, o, C, U, fr, rfl, kb, hcc⟩)
  have hdd : decide (nL < 64) = false := decide_eq_false (by omega)
  have hdd1 : decide ((nL : Int) < 64) = false := decide_eq_false (by omega)
  have har := arrSig2
  clear hS hlt hrow hx2 hfr hfs hfb hfn hx hcc hnl hln hbl hlc hnL hnS hd0
  go_enter Tryz.func58, Tryz.ntmps58
  go_upto_region 3 with fail
  have hsl := HHD.out
  have hbs := bsSg x
  have Lkp := lt_size kp
  have Lkb := lt_size kb
  refine wp_pass (C := fun _ _ _ => False) (κ := fun i => [0, 0, 0, 0, 0, 1, 0, 0, 0, 1, 0, 0, 1, 3, 5, 0, 0, 0, 6].getD i 0) [0, 1, 2, 3, 4, 5, 6, 7, 8, 9, 10, 11, 12, 13, 14, 15, 16, 17, 18] (by kernel_rfl) (by kernel_rfl) (fun _ _ d _ _ h => by cases d <;> first | exact h | exact absurd h (hP _ _ _)) ?_
  (refine TD.val0 (v := ?v1) (by simp only [zA, zB, zC]; rfl) rfl ?hw1 (fun w1 => ?hy1) ?hn1; (case hw1 => rfl); (case hy1 => (go_simp; (try with_reducible rfl))); (try simp only [Act.put, zF, zG, zH]))
  (refine TD.val0 (v := ?v2) (by simp only [zA, zB, zC]; rfl) rfl ?hw2 (fun w1 => ?hy2) ?hn2; (case hw2 => rfl); (case hy2 => (go_simp; (try with_reducible rfl))); (try simp only [Act.put, zF, zG, zH]))
  (refine TD.val0 (v := ?v3) (by simp only [zA, zB, zC]; rfl) rfl ?hw3 (fun w1 => ?hy3) ?hn3; (case hw3 => rfl); (case hy3 => (go_simp; (try with_reducible rfl))); (try simp only [Act.put, zF, zG, zH]))
  (refine TD.val0 (v := ?v4) (by simp only [zA, zB, zC]; rfl) rfl ?hw4 (fun w1 => ?hy4) ?hn4; (case hw4 => rfl); (case hy4 => (go_simp; (try with_reducible rfl))); (try simp only [Act.put, zF, zG, zH]))
  (refine TD.val0 (v := ?v5) (by simp only [zA, zB, zC]; rfl) rfl ?hw5 (fun w1 => ?hy5) ?hn5; (case hw5 => rfl); (case hy5 => (go_simp; (try with_reducible rfl))); (try simp only [Act.put, zF, zG, zH]))
  (refine TD.load (v := ?v6) (p := ?p6) (Mod.refl _ _) (by simp only [zA, zB, zC]; rfl) rfl ?hw6 rfl ?hx6 (fun wq hSq => ?hy6) ?hn6; (case hw6 => rfl); (case hx6 => (simp only [Act.eval, zD, zA, zB, zC, zE]; (try rfl))); (case hy6 => (have kpq := hSq.at kp (fun h => h); have kbq := hSq.at kb (fun h => h); go_simp; (try with_reducible rfl))); (try simp only [Act.put, zF, zG, zH]))
  (refine TD.val0 (v := ?v7) (by simp only [zA, zB, zC]; rfl) rfl ?hw7 (fun w1 => ?hy7) ?hn7; (case hw7 => rfl); (case hy7 => (go_simp; (try with_reducible rfl))); (try simp only [Act.put, zF, zG, zH]))
  (refine TD.val0 (v := ?v8) (by simp only [zA, zB, zC]; rfl) rfl ?hw8 (fun w1 => ?hy8) ?hn8; (case hw8 => rfl); (case hy8 => (go_simp; (try with_reducible rfl))); (try simp only [Act.put, zF, zG, zH]))
  (refine TD.val0 (v := ?v9) (by simp only [zA, zB, zC]; rfl) rfl ?hw9 (fun w1 => ?hy9) ?hn9; (case hw9 => rfl); (case hy9 => (go_simp; (try with_reducible rfl))); (try simp only [Act.put, zF, zG, zH]))
  (refine TD.load (v := ?v10) (p := ?p10) (Mod.refl _ _) (by simp only [zA, zB, zC]; rfl) rfl ?hw10 rfl ?hx10 (fun wq hSq => ?hy10) ?hn10; (case hw10 => rfl); (case hx10 => (simp only [Act.eval, zD, zA, zB, zC, zE]; (try rfl))); (case hy10 => (have kpq := hSq.at kp (fun h => h); have kbq := hSq.at kb (fun h => h); go_simp; (try with_reducible rfl))); (try simp only [Act.put, zF, zG, zH]))
  (refine TD.slice (by simp only [zA, zB, zC]; rfl) rfl ?hw11 rfl ?hs11 ?hl11 ?hh11 ?hm11 hsl ?hn11; (case hw11 => rfl); (case hs11 => (simp only [Act.eval, zD, zA, zB, zC, zE]; (try rfl))); (case hl11 => first | rfl | (simp only [Option.map_some, Act.eval, zD, zA, zB, zC, zE]; (try rfl))); (case hh11 => first | rfl | (simp only [Option.map_some, Act.eval, zD, zA, zB, zC, zE]; (try rfl))); (case hm11 => rfl); (try simp only [Act.put, zF, zG, zH]))
  (refine TD.val0 (v := ?v12) (by simp only [zA, zB, zC]; rfl) rfl ?hw12 (fun w1 => ?hy12) ?hn12; (case hw12 => rfl); (case hy12 => (go_simp; (try with_reducible rfl))); (try simp only [Act.put, zF, zG, zH]))
  (refine TD.load (v := ?v13) (p := ?p13) (Mod.refl _ _) (by simp only [zA, zB, zC]; rfl) rfl ?hw13 rfl ?hx13 (fun wq hSq => ?hy13) ?hn13; (case hw13 => rfl); (case hx13 => (simp only [Act.eval, zD, zA, zB, zC, zE]; (try rfl))); (case hy13 => (have kpq := hSq.at kp (fun h => h); have kbq := hSq.at kb (fun h => h); exact (ldSgRow kbq HRW.out))); (try simp only [Act.put, zF, zG, zH]))
  (refine TD.bslice (by simp only [zA, zB, zC]; rfl) rfl ?hw14 rfl rfl ?hx14 hbs (fun p22 hp22 => ?hn14); (case hw14 => rfl); (case hx14 => (simp only [List.map_toArray, List.map_cons, List.map_nil, Act.eval, zD, zA, zB, zC, zE]; (try rfl))); (try simp only [Act.put, zF, zG, zH]))
  refine TD.eff (by simp only [zA, zB, zC]; rfl) rfl (fun w2 hr => ?_)
  replace kp := hr.mod.at kp (fun h => h)
  replace kb := hr.mod.at kb (fun h => h)
  have kp22 := hr.box p22 _ (by first | exact Bx.set_same _ _ _ | (simp only [Bx.set_same]; rfl)); dsimp only [Value.cells] at kp22; obtain ⟨gp22, kp22⟩ := kp22
  have m2 := hr.mod
  have hpp := lt_size kp
  clear hr hsl hbs har
  have hO2 := HS.out.mod0 m2
  have hNS := HI.out.2.1
  obtain ⟨v4, w4, hap, hO4, m4, hn4⟩ := SlOwn.append sgT (q := [x]) (c := 1) hO2 (SlAt.one kp22 x rfl (sgc_size _)) (by have := HI.out.2.2.1; simp only [List.length_singleton]; omega) (by decide) (by omega) 34
  obtain ⟨a4, c4, rfl, -, -⟩ := hO4.at sgT
  have hlen : (S ++ [x]).length = nS + 1 := by rw [List.length_append, hNS]; rfl
  rw [hlen] at hap hO4
  rw [hNS] at hap
  have hlo := hO2.lt
  replace kp := m4.at kp (fun e => by have := (hlo p e).1; omega)
  have mF : Mod (fun i => p ≤ i) w w4 := (m2.mono (fun _ _ h => h.elim)).then m4 (fun i _ e => by have := (hlo i e).1; omega)
  have HF : Hid (SlOwn sgc 64 66 w4 (p + 1) (.slice a4 (nS + 1) c4) (S ++ [x]) ∧ Mod (fun i => p ≤ i) w w4) := Lib.hid ⟨hO4, mF⟩
  have HLN := Lib.hid hlen
  clear hO2 hO4 hlo hn4 m4 mF m2 hNS hlen kb kp22 gp22 hpp
  (refine eff_append (by simp only [zA, zB, zC]; rfl) ?hw16 rfl ?hx16 ?hz16 hap ?hn16; (case hw16 => rfl); (case hx16 => (simp only [Act.eval, zD, zA, zB, zC, zE]; (try rfl))); (case hz16 => (simp only [Act.eval, zD, zA, zB, zC, zE]; (try rfl))); (try simp only [Act.put, zF, zG, zH]))
  (refine TE.val0 (v := ?v17) (by simp only [zA, zB, zC]; rfl) ?hw17 (fun w1 => ?hy17) ?hn17; (case hw17 => rfl); (case hy17 => (go_simp; (try with_reducible rfl))); (try simp only [Act.put, zF, zG, zH]))
  (refine TE.val0 (v := ?v18) (by simp only [zA, zB, zC]; rfl) ?hw18 (fun w1 => ?hy18) ?hn18; (case hw18 => rfl); (case hy18 => (go_simp; (try with_reducible rfl))); (try simp only [Act.put, zF, zG, zH]))
  (refine TE.val0 (v := ?v19) (by simp only [zA, zB, zC]; rfl) ?hw19 (fun w1 => ?hy19) ?hn19; (case hw19 => rfl); (case hy19 => (go_simp; (try with_reducible rfl))); (try simp only [Act.put, zF, zG, zH]))
  refine TE.step (by simp only [zA, zB, zC]; rfl) rfl ?_
  (refine eff_store (X := ?X20) (Y := ?Y20) (w' := ?w20) (by simp only [zA, zB, zC]; rfl) ?hw20 rfl ?hx20 ?hz20 ?hy20 ?hn20; (case hw20 => rfl); (case hx20 => (simp only [Act.eval, zD, zA, zB, zC, zE]; (try rfl))); (case hz20 => (simp only [Act.eval, zD, zA, zB, zC, zE]; (try rfl))); (case hy20 => (go_simp; (try with_reducible rfl))))
  (first | refine TE.nil_set kp (fun wn kp mS => ?_) | refine TE.nil_setCell kp (fun wn kp mS => ?_))
  replace kp : wn.heap[p]? = some (.cells (rgx a4 (nS + 1) c4 mc0 (some ⟨b, o, none⟩) nL lc) 148 (0, 0)) := by
    rw [kp, rgx_s]
  have hO := HF.out.1.mod mS (fun i hi e => by have := (HF.out.1.lt i hi).1; omega)
  have HF2 := Lib.hid (And.intro hO (HF.out.2.trans (mS.mono (fun i _ e => by omega))))
  clear hO mS
  obtain ⟨w5, rfl⟩ : ∃ w5 : World, w5 = wn := ⟨_, rfl⟩
  go_upto_region 4 with fail
  have hfr := HFR.out
  have Lkp := lt_size kp
  refine wp_pass0 (C := fun _ _ _ => False) (κ := fun i => [0, 0, 0, 0, 1, 0, 0, 0, 5].getD i 0) [0, 1, 2, 3, 4, 5, 6, 7, 8] (by kernel_rfl) (by kernel_rfl) (fun _ _ d _ _ h => by cases d <;> first | exact h | exact absurd h (hP _ _ _)) ?_
  (refine TD.val0 (v := ?v21) (by simp only [zA, zB, zC]; rfl) rfl ?hw21 (fun w1 => ?hy21) ?hn21; (case hw21 => rfl); (case hy21 => (go_simp; (try with_reducible rfl))); (try simp only [Act.put, zF, zG, zH]))
  (refine TD.val0 (v := ?v22) (by simp only [zA, zB, zC]; rfl) rfl ?hw22 (fun w1 => ?hy22) ?hn22; (case hw22 => rfl); (case hy22 => (go_simp; (try with_reducible rfl))); (try simp only [Act.put, zF, zG, zH]))
  (refine TD.val0 (v := ?v23) (by simp only [zA, zB, zC]; rfl) rfl ?hw23 (fun w1 => ?hy23) ?hn23; (case hw23 => rfl); (case hy23 => (go_simp; (try with_reducible rfl))); (try simp only [Act.put, zF, zG, zH]))
  (refine TD.val0 (v := ?v24) (by simp only [zA, zB, zC]; rfl) rfl ?hw24 (fun w1 => ?hy24) ?hn24; (case hw24 => rfl); (case hy24 => (go_simp; (try with_reducible rfl))); (try simp only [Act.put, zF, zG, zH]))
  (refine TD.load (v := ?v25) (p := ?p25) (Mod.refl _ _) (by simp only [zA, zB, zC]; rfl) rfl ?hw25 rfl ?hx25 (fun wq hSq => ?hy25) ?hn25; (case hw25 => rfl); (case hx25 => (simp only [Act.eval, zD, zA, zB, zC, zE]; (try rfl))); (case hy25 => (have kpq := hSq.at kp (fun h => h); go_simp; (try with_reducible rfl))); (try simp only [Act.put, zF, zG, zH]))
  (refine TD.slice (by simp only [zA, zB, zC]; rfl) rfl ?hw26 rfl ?hs26 ?hl26 ?hh26 ?hm26 hfr ?hn26; (case hw26 => rfl); (case hs26 => (simp only [Act.eval, zD, zA, zB, zC, zE]; (try rfl))); (case hl26 => first | rfl | (simp only [Option.map_some, Act.eval, zD, zA, zB, zC, zE]; (try rfl))); (case hh26 => first | rfl | (simp only [Option.map_some, Act.eval, zD, zA, zB, zC, zE]; (try rfl))); (case hm26 => rfl); (try simp only [Act.put, zF, zG, zH]))
  (refine TD.val0 (v := ?v27) (by simp only [zA, zB, zC]; rfl) rfl ?hw27 (fun w1 => ?hy27) ?hn27; (case hw27 => rfl); (case hy27 => (go_simp; (try with_reducible rfl))); (try simp only [Act.put, zF, zG, zH]))
  (refine TD.val0 (v := ?v28) (by simp only [zA, zB, zC]; rfl) rfl ?hw28 (fun w1 => ?hy28) ?hn28; (case hw28 => rfl); (case hy28 => (go_simp; (try with_reducible rfl))); (try simp only [Act.put, zF, zG, zH]))
  refine TD.eff (by simp only [zA, zB, zC]; rfl) rfl (fun wE hr => ?_)
  replace kp := hr.mod.at0 kp
  have mE := hr.mod
  (refine eff_store (X := ?X29) (Y := ?Y29) (w' := ?w29) (by simp only [zA, zB, zC]; rfl) ?hw29 rfl ?hx29 ?hz29 ?hy29 ?hn29; (case hw29 => rfl); (case hx29 => (simp only [Act.eval, zD, zA, zB, zC, zE]; (try rfl))); (case hz29 => (simp only [Act.eval, zD, zA, zB, zC, zE]; (try rfl))); (case hy29 => (go_simp; (try with_reducible rfl))))
  (first | refine TE.nil_set kp (fun w6 kp mS => ?_) | refine TE.nil_setCell kp (fun w6 kp mS => ?_))
  replace kp : w6.heap[p]? = some (.cells (rgx a4 (nS + 1) c4 mc0 la2 d (lc - 64)) 148 (0, 0)) := by
    rw [kp, rgx_l]
  have hO := (HF2.out.1.mod0 mE).mod mS (fun i hi e => by have := (HF2.out.1.lt i hi).1; omega)
  have HF3 := Lib.hid (And.intro hO ((HF2.out.2.then0 mE).trans (mS.mono (fun i _ e => by omega))))
  have HKP := Lib.hid kp
  clear hO mS mE hr hfr kp
  go_wp2_with fail
  go_ret
  have hx := HI.out.2.2.2.2
  have hnL := HI.out.1
  have hln := HI.out.2.2.1
  have hdl : (L.drop 64).length = d := by rw [List.length_drop, hnL]; exact HD.out
  refine ⟨rfl, ⟨a4, c4, la2, lc - 64, ?_, ?_, HFS.out.1 _ (HKB.out.mod HF3.out.2 (fun b' o' e => by cases e; simp; omega)), by rw [hdl]; have := HI.out.2.2.2.1; have := HD.out; omega, fun e => absurd (HFS.out.2.2 e) (by simp), fun y e => by
    obtain ⟨z, hz, he⟩ := HFS.out.2.1 y e
    cases hz
    rw [← he]
    exact hbp, by rw [List.length_drop, List.length_append]; simp only [List.length_singleton]; omega⟩, HF3.out.2⟩
  · rw [← hx, HLN.out, hdl]
    exact HKP.out
  · rw [← hx, HLN.out]
    exact HF3.out.1
set_option maxRecDepth 20000 in
set_option maxHeartbeats 3200000 in
theorem sigN_c {p : Nat} {S : List Sg} {L : List UInt8} {w : World} (h : RgA p S L w) (h64 : L.length < 64) :
    Calls Tryz.prog 58 #[pV p] w fun e w' => e = .returned (.bool false) ∧ w' = w := by
  obtain ⟨sa, sc, la, lc, kp, hS, hL, hlc, hnl, hbl, hln⟩ := h
  obtain ⟨nL, hnL⟩ : ∃ nL, L.length = nL := ⟨_, rfl⟩
  obtain ⟨nS, hnS⟩ : ∃ nS, S.length = nS := ⟨_, rfl⟩
  rw [hnL, hnS] at kp
  rw [hnL] at h64
  have hdd : decide (nL < 64) = true := decide_eq_true (by omega)
  have hdd1 : decide ((nL : Int) < 64) = true := decide_eq_true (by omega)
  clear hS hL hlc hnl hbl hln hnL hnS
  go_enter Tryz.func58, Tryz.ntmps58
  go_wp2_with fail
  go_ret
  exact ⟨rfl, rfl⟩
end Go.Proofs.YtofpnmoeimjnnaaGreat
namespace Go.Proofs.YtofpnmoeimjnnaaGreat
open Go.RowKit
open Go.ChangeMaps (setBlock)
set_option linter.unusedVariables false
section
variable {P : Program} {ops : Array Oper} {Q : Exit → Act → World → Prop} {i : Nat} {r : List Nat} {a : Act} {o : Oper} {w : World}
theorem sq_alloc {T : TypeId} {z : Array Value} (ho : ops[i]? = some o) (hw : Region.wanted o (yielded ops a.tmps) = true) (hop : o.op = .alloc T)
    (hr : ∀ w, (Instr.alloc T true (.tuple #[])).run P w = .ok (.pointer (some ⟨w.heap.size, 0, none⟩)) (w.alloc (.cells z T)))
    (h : ∀ q w', w.heap.size = q → w'.heap[q]? = some (.cells z T (0, 0)) → Mod (fun _ => False) w w' → wpOps P ops Q r (a.put o.dst (.pointer (some ⟨q, 0, none⟩))) w') : wpOps P ops Q (i :: r) a w :=
  sq_eff ho hw (by simp [execOp, hop, hr w]) (h _ _ rfl (heap_alloc_new _ _) ((Mod.refl _ _).alloc _))
theorem sq_bldS {T : TypeId} {parts : Array (Nat × Operand)} {ps : Array (Nat × Value)} {v : Value} (ho : ops[i]? = some o) (hw : Region.wanted o (yielded ops a.tmps) = true) (hop : o.op = .build T parts)
    (hx : parts.map (fun (p : Nat × Operand) => (p.1, a.eval p.2)) = ps) (hr : (Instr.build T ps).run P w = .ok v w) (h : wpOps P ops Q r (a.put o.dst v) w) : wpOps P ops Q (i :: r) a w :=
  sq_eff ho hw (by subst hx; simp [execOp, hop, hr]) h
theorem sq_set {p : Nat} {o1 o' : Obj} (hb : w.heap[p]? = some o1) (h : ∀ w', w'.heap[p]? = some o' → Mod (fun i => i = p) w w' → wpOps P ops Q r a w') : wpOps P ops Q r a (setBlock w p o') :=
  h _ (heap_setBlock w _ (lt_size hb)) (mod_set w p o')
theorem sq_setCell {p i : Nat} {cs : Array Value} {U : TypeId} {fr : Nat × Nat} {v : Value} (hb : w.heap[p]? = some (.cells cs U fr))
    (h : ∀ w', w'.heap[p]? = some (.cells (cs.setIfInBounds i v) U fr) → Mod (fun i => i = p) w w' → wpOps P ops Q r a w') : wpOps P ops Q r a (w.setCell ⟨p, i, none⟩ v) := by
  rw [setCell_blk hb]
  exact sq_set hb h
end
end Go.Proofs.YtofpnmoeimjnnaaGreat
namespace Go.Proofs.YtofpnmoeimjnnaaGreat
open Go.RowKit
open Go.ChangeMaps (setBlock)
set_option linter.unusedSimpArgs false
set_option linter.unusedVariables false
attribute [local go_sem] cell_blk frozen_blk one_int one_bool one_ptr one_slice one_map Value.cells
attribute [local go_sem ↓] wlKey ldKey stKey wlMsg ldMsg stMsg wlRg ldRg stRg wlTc ldTc stTc wlSg ldSg stSg
attribute [local go_sem] kc_ext kc_one kc_one0 kc_size zKey_size one_slice mgx_size mgx_ext mgx_one mgx_one0 zMsg_size zMsg_all zMsg_all0
attribute [local go_sem] rgx0' rgx40' rgx_size rgx_ext rgx_one rgx_one0 rgx0 rgx40 tcx_size tcx_ext tcx_one tcx_one0 mcx_size mcx_one mcx_one0 mcx_ext rgx_tx
def takeS : Nat → List UInt8 → Option (List Sg × List UInt8)
  | 0, L => some ([], L)
  | n + 1, L => if h : 64 ≤ L.length then (takeS n (L.drop 64)).map (fun y => (⟨L.take 64, by rw [List.length_take]; omega⟩ :: y.1, y.2)) else none
def preS (S : List Sg) (r : Option (List Sg × List UInt8)) : Option (List Sg × List UInt8) := r.map (fun y => (S ++ y.1, y.2))
theorem preS_nil (r : Option (List Sg × List UInt8)) : preS [] r = r := by cases r <;> rfl
theorem preS_step {n : Nat} {S : List Sg} {L : List UInt8} (h : 64 ≤ L.length) : preS S (takeS (n + 1) L) = preS (S ++ [⟨L.take 64, by rw [List.length_take]; omega⟩]) (takeS n (L.drop 64)) := by
  rw [takeS, dif_pos h]
  cases takeS n (L.drop 64) <;> simp [preS]
theorem preS_none {n : Nat} {S : List Sg} {L : List UInt8} (h : L.length < 64) : preS S (takeS (n + 1) L) = none := by
  rw [takeS, dif_neg (by omega)]
  rfl
theorem takeS_len : ∀ {n : Nat} {L : List UInt8} {S : List Sg} {R : List UInt8}, takeS n L = some (S, R) → S.length = n ∧ R.length + 64 * n = L.length
  | 0, L, S, R, h => by
    cases h
    simp
  | n + 1, L, S, R, h => by
    rw [takeS] at h
    split at h
    · rename_i h64
      cases h2 : takeS n (L.drop 64) with
      | none => rw [h2] at h; cases h
      | some y =>
        rw [h2] at h
        cases h
        have := takeS_len h2
        rw [List.length_drop] at this
        simp only [List.length_cons]
        omega
    · cases h
structure TxP where
  sg : List Sg
  m : MsP
def pTx (l : List UInt8) : PR TxP := if (gsh 0 0 l).2.2 = 0 then (match takeS (gsh 0 0 l).1 (l.drop (gsh 0 0 l).2.1) with
  | none => .error 5
  | some (S, R) => pBind (pMsg R 0) fun m k => .ok (⟨S, m⟩, l.length - R.length + k)) else .error (gsh 0 0 l).2.2
def VTx (b : Nat) (w : World) (v : Value) (x : TxP) : Prop := ∃ (sa : Option Addr) (m : McR), v = .agg (tcx sa x.sg.length x.sg.length m) ∧ NewS sgc 64 66 b w (.slice sa x.sg.length x.sg.length) x.sg ∧ VMsg b w (.agg (mcx m)) x.m
def PgetP (w : World) (l : List UInt8) (e : Ending) (w' : World) : Prop := Mod (fun _ => False) w w' ∧ match pTx l with
  | .ok (x, k) => ∃ v, e = .returned (.tuple #[v, i64n k, i64n 0]) ∧ VTx w.heap.size w' v x ∧ k ≤ l.length
  | .error n => e = .returned (.tuple #[.agg zTc, i64n 0, i64n n])
theorem bRg (a : Option Addr) (n c : Nat) (w : World) : (Instr.build 148 #[(1, .slice a n c)]).run Tryz.prog w = .ok (.agg (rgx none 0 0 mc0 a n c)) w := by kernel_rfl
theorem bTx0 (w : World) : (Instr.build 45 #[]).run Tryz.prog w = .ok (.agg zTc) w := by kernel_rfl
theorem zTc_size : zTc.size = 40 := tcx_size ..
theorem zTc_ext : zTc.extract 0 40 = zTc := tcx_ext ..
theorem zTc_all : zTc.all (·.oneCell') = true := tcx_one ..
theorem zTc_all0 : zTc.all (·.oneCell') 0 40 = true := tcx_one0 ..
theorem zRg_size : zRg.size = 41 := rgx_size ..
attribute [local go_sem] zTc_size zTc_ext zTc_all zTc_all0 zRg_size
theorem rgx_pop (sa : Option Addr) (sn sc : Nat) (m : McR) (la : Option Addr) (ln lc : Nat) : (rgx sa sn sc m la ln lc).pop = tcx sa sn sc m := by
  rw [← rgx_tx sa sn sc m la ln lc]
  simp [rgx_size]
attribute [local go_sem] rgx_pop
theorem results_ctt {P : Program} {fn : Func} {t1 t2 t3 : Tmp} {T1 : TypeId} {tmps : Array Value} {p1 : Addr} {v1 : Value} {w : World} (h : fn.results = #[.cell t1 T1, .tmp t2, .tmp t3])
    (h1 : tmps.getD t1 undef = .pointer (some p1)) (k1 : (Instr.loadAt T1 (.pointer (some p1))).run P w = .ok v1 w) : (results fn tmps).run P w = .ok (.tuple #[v1, tmps.getD t2 undef, tmps.getD t3 undef]) w := by
  have l1 : (loadVar T1 p1).run P w = .ok v1 w := by simpa [Instr.loadAt, Instr.sureAddr] using k1
  unfold results
  rw [h]
  have hmap : ∀ {α β : Type} (f : α → β) (x : Sem α) (w : World), (f <$> x).run P w = (x.run P w).andThen fun a w => .ok (f a) w := fun f x w => by
    show (x >>= fun a => pure (f a)).run P w = _
    rw [Sem.run_bind]
    rfl
  simp only [List.mapM_toArray, List.mapM_cons, List.mapM_nil, h1, asAddr, Sem.run_bind, hmap, Sem.run_pure, Result.andThen_ok, l1]
  rfl
theorem ldTcx {w : World} {p : Nat} {sa : Option Addr} {sn sc : Nat} {m : McR} (h : w.heap[p]? = some (.cells (tcx sa sn sc m) 45 (0, 0))) : (Instr.loadAt 45 (.pointer (some ⟨p, 0, none⟩))).run Tryz.prog w = .ok (.agg (tcx sa sn sc m)) w := by
  rw [ldTc, h]
  simp [tcx_size, tcx_ext]
theorem ldTcZ {w : World} {p : Nat} (h : w.heap[p]? = some (.cells zTc 45 (0, 0))) : (Instr.loadAt 45 (.pointer (some ⟨p, 0, none⟩))).run Tryz.prog w = .ok (.agg zTc) w := by
  rw [ldTc, h]
  simp [zTc_size, zTc_ext]
def NE {α : Type} (r : PR α) : Prop := r ≠ .error 0
theorem NE.bind {α β : Type} {r : PR α} {f : α → Nat → PR β} (h : NE r) (hf : ∀ x k, NE (f x k)) : NE (pBind r f) := by
  unfold NE at *
  cases r with
  | error e => simpa [pBind] using h
  | ok y => exact hf _ _
theorem NE.byte (l : List UInt8) (k : Nat) : NE (pByte l k) := by
  unfold NE pByte
  split <;> simp
theorem NE.bytes (l : List UInt8) (k n : Nat) : NE (pBytes l k n) := by
  unfold NE pBytes
  split <;> simp
theorem NE.short (l : List UInt8) (k : Nat) : NE (pShort l k) := by
  unfold NE pShort
  split
  · simp
  · rename_i h
    simpa using h
theorem NE.list (l : List UInt8) (k : Nat) : NE (pList l k) := by
  have h := NE.short l k
  unfold NE pList at *
  split
  · exact NE.bytes l _ _
  · rename_i e he
    rw [he] at h
    simpa [NE] using h
theorem NE.key (l : List UInt8) (k : Nat) : NE (pKey l k) := by
  unfold NE pKey
  split <;> simp
theorem NE.instr (l : List UInt8) (k : Nat) : NE (pInstr l k) := by
  unfold NE pInstr
  split
  · rename_i e he
    have h := NE.byte l k
    rw [he] at h
    simpa [NE] using h
  · rename_i q k1 _
    split
    · rename_i e he
      have h := NE.list l k1
      rw [he] at h
      simpa [NE] using h
    · rename_i x k2 _
      split
      · rename_i e he
        have h := NE.list l k2
        rw [he] at h
        simpa [NE] using h
      · simp
theorem NE.look (l : List UInt8) (k : Nat) : NE (pLook l k) := by
  unfold NE pLook
  split
  · rename_i e he
    have h := NE.key l k
    rw [he] at h
    simpa [NE] using h
  · rename_i q k1 _
    split
    · rename_i e he
      have h := NE.list l k1
      rw [he] at h
      simpa [NE] using h
    · rename_i x k2 _
      split
      · rename_i e he
        have h := NE.list l k2
        rw [he] at h
        simpa [NE] using h
      · simp
theorem NE.rep {α : Type} {one : Nat → PR α} (h : ∀ k, NE (one k)) : ∀ n k, NE (pRep one n k)
  | 0, k => by simp [NE, pRep]
  | n + 1, k => by
    have h1 := h k
    unfold NE at *
    rw [pRep]
    split
    · rename_i e he
      rw [he] at h1
      simpa [NE] using h1
    · rename_i x k1 _
      have h2 := NE.rep h n k1
      unfold NE at h2
      split
      · rename_i e he
        rw [he] at h2
        simpa [NE] using h2
      · simp
theorem NE.all {α : Type} {one : Nat → PR α} (h : ∀ k, NE (one k)) (l : List UInt8) (k : Nat) : NE (pAll one l k) := by
  have h1 := NE.short l k
  unfold NE pAll at *
  split
  · rename_i e he
    rw [he] at h1
    simpa [NE] using h1
  · exact NE.rep h _ _
theorem NE.msg (l : List UInt8) (k : Nat) : NE (pMsg l k) := by
  refine (NE.byte l k).bind fun c k1 => ?_
  split
  · simp [NE]
  · refine NE.bind ?_ fun h0 k2 => (NE.byte l k2).bind fun h1 k3 => (NE.byte l k3).bind fun h2 k4 => (NE.all (NE.key l) l k4).bind fun ks k5 => (NE.key l k5).bind fun rc k6 => (NE.all (NE.instr l) l k6).bind fun ins k7 => NE.bind ?_ fun lks k8 => by simp [NE]
    · split
      · exact NE.byte l k1
      · simp [NE]
    · split
      · exact NE.all (NE.look l) l k7
      · simp [NE]
set_option maxRecDepth 20000 in
theorem clipSgs_c (v2 : Value) (w : World) (n : Nat) {a : Option Addr} {c : Nat} (h : ∀ w2, (Instr.sliceAt 34 (.slice a n c) none (some (.int .i64 (n : Int))) (some (.int .i64 (n : Int)))).run Tryz.prog w2 = .ok v2 w2) :
    Calls Tryz.prog 60 #[.slice a n c] w fun e w' => e = .returned v2 ∧ w' = w := by
  go_enter Tryz.func60, Tryz.ntmps60
  go_wp2_with fail
  go_ret
  exact ⟨rfl, rfl⟩
theorem VMsg.form {b : Nat} {w : World} {v : Value} {x : MsP} (h : VMsg b w v x) : ∃ m : McR, v = .agg (mcx m) ∧ VMsg b w (.agg (mcx m)) x := by
  obtain ⟨ka, ia, la, L, M, rfl, h⟩ := h
  exact ⟨⟨x.v0, x.h0, x.h1, x.h2, ka, x.ks.length, x.ks.length, x.rc, ia, L.length, L.length, la, M.length, M.length⟩, rfl, ka, ia, la, L, M, rfl, h⟩
theorem VMsg.mod {b : Nat} {w w' : World} {v : Value} {x : MsP} {S : Nat → Prop} (h : VMsg b w v x) (hm : Mod S w w') (hS : ∀ g, b ≤ g → g < w.heap.size → ¬ S g) : VMsg b w' v x := by
  obtain ⟨ka, ia, la, L, M, rfl, h1, h2, h3, h4, h5, h6⟩ := h
  exact ⟨ka, ia, la, L, M, rfl, h1.mod hm (fun g hg => hS g (h1.lt g hg).1 (h1.lt g hg).2), h2.mod hm (fun g hg => hS g (h2.lt g hg).1 (h2.lt g hg).2), h3.mod hm (fun g h1 h2 _ => hS g h1 h2), h4.mod hm (fun g hg => hS g (h4.lt g hg).1 (h4.lt g hg).2), h5.mod hm (fun g h1 h2 _ => hS g h1 h2), h6⟩
theorem VMsg.base {b b' : Nat} {w : World} {v : Value} {x : MsP} (h : VMsg b w v x) (hb : b' ≤ b) : VMsg b' w v x := by
  obtain ⟨ka, ia, la, L, M, rfl, h1, h2, h3, h4, h5, h6⟩ := h
  exact ⟨ka, ia, la, L, M, rfl, h1.base hb, h2.base hb, h3.base hb, h4.base hb, h5.base hb, h6⟩
set_option maxRecDepth 20000 in
set_option maxHeartbeats 3200000 in
theorem pget_c {a : Option Addr} {l : List UInt8} {c : Nat} (w : World) (hl : SlAt uc 1 w a l) (hc : l.length ≤ c) (hn : a = none → c = 0) (hln : l.length ≤ 900000) (hin : ∀ x, a = some x → x.block < w.heap.size) :
    Calls Tryz.prog 28 #[.slice a l.length c] w (PgetP w l) := by
  have HL := Lib.hid (And.intro hl (And.intro hc (And.intro hn (And.intro hln hin))))
  obtain ⟨ll, hll⟩ : ∃ ll, l.length = ll := ⟨_, rfl⟩
  have HLL := Lib.hid hll
  rw [hll] at hln ⊢
  obtain ⟨n, took, er, hg⟩ : ∃ n took er, gsh 0 0 l = (n, took, er) := ⟨_, _, _, rfl⟩
  have HG := Lib.hid hg
  clear hl hc hn hln hin hll hg
  go_enter Tryz.func28, Tryz.ntmps28
  go_upto_region 0 with fail
  refine wp_pass0 (C := fun _ _ _ => False) (κ := fun i => [3, 0, 0].getD i 0) [0, 1, 2] (by kernel_rfl) (by kernel_rfl) (fun _ _ d _ _ h => by cases d <;> first | exact h | exact absurd h (hP _ _ _)) ?_
  (refine TD.allocB (by simp only [zA, zB, zC]; rfl) rfl ?hw1 rfl rfl alTc (fun p2 hp2 => ?hn1); (case hw1 => rfl); (try simp only [Act.put, zF, zG, zH]))
  (refine TD.val0 (v := ?v2) (by simp only [zA, zB, zC]; rfl) rfl ?hw2 (fun w1 => ?hy2) ?hn2; (case hw2 => rfl); (case hy2 => (go_simp; (try with_reducible rfl))); (try simp only [Act.put, zF, zG, zH]))
  (refine TD.val0 (v := ?v3) (by simp only [zA, zB, zC]; rfl) rfl ?hw3 (fun w1 => ?hy3) ?hn3; (case hw3 => rfl); (case hy3 => (go_simp; (try with_reducible rfl))); (try simp only [Act.put, zF, zG, zH]))
  refine TD.nil (fun w1 hr => ?_)
  have kp2 := hr.box p2 _ (by first | exact Bx.set_same _ _ _ | (simp only [Bx.set_same]; rfl)); dsimp only [Value.cells] at kp2; obtain ⟨gp2, kp2⟩ := kp2
  have m1 := hr.mod
  clear hr
  replace kp2 : w1.heap[p2]? = some (.cells zTc 45 (0, 0)) := kp2
  have HM1 := Lib.hid m1
  have hG := gsh_c a l c w1 (HL.out.1.mod0 m1) (by have := HL.out.2.2.2.1; omega)
  rw [HLL.out, HG.out] at hG
  have HG1 := Lib.hid hG
  clear hG
  go_wp2_with fail
  go_at_call 57
  refine HG1.out.mono ?_
  rintro e w2 ⟨rfl, m2⟩
  replace kp2 := m2.at0 kp2
  have m12 := m1.trans m2
  have HM2 := Lib.hid m12
  clear m1 m2 HM1 HG1 m12
  have hb := bTx0
  by_cases he : er = 0
  · subst he
    have hne : ((0 : Int) != 0) = false := rfl
    have hfit := gsh_fit l 0 0 (by decide) (by omega) (by rw [HG.out])
    rw [HG.out] at hfit
    simp only at hfit
    obtain ⟨sp, hsp, hss, hsb, hsn⟩ := sl_from (P := Tryz.prog) bytesT (c := c) (k := took) HL.out.1 (by omega) HL.out.2.1 HL.out.2.2.1
    have hdl : (l.drop took).length = ll - took := by rw [List.length_drop, HLL.out]
    rw [HLL.out] at hsp
    have HSS := Lib.hid (And.intro hss (And.intro hsb (And.intro hsn (And.intro hdl hfit))))
    clear hss hsb hsn hfit hdl
    go_upto_region 4 with fail
    have hbr := bRg
    have Lkp2 := lt_size kp2
    refine wp_pass0 (C := fun _ _ _ => False) (κ := fun i => [0, 0, 0, 0, 3, 4].getD i 0) [0, 1, 2, 3, 4, 5] (by kernel_rfl) (by kernel_rfl) (fun _ _ d _ _ h => by cases d <;> first | exact h | exact absurd h (hP _ _ _)) ?_
    (refine TD.val0 (v := ?v4) (by simp only [zA, zB, zC]; rfl) rfl ?hw4 (fun w1 => ?hy4) ?hn4; (case hw4 => rfl); (case hy4 => (go_simp; (try with_reducible rfl))); (try simp only [Act.put, zF, zG, zH]))
    (refine TD.val0 (v := ?v5) (by simp only [zA, zB, zC]; rfl) rfl ?hw5 (fun w1 => ?hy5) ?hn5; (case hw5 => rfl); (case hy5 => (go_simp; (try with_reducible rfl))); (try simp only [Act.put, zF, zG, zH]))
    (refine TD.slice (by simp only [zA, zB, zC]; rfl) rfl ?hw6 rfl ?hs6 ?hl6 ?hh6 ?hm6 hsp ?hn6; (case hw6 => rfl); (case hs6 => (simp only [Act.eval, zD, zA, zB, zC, zE]; (try rfl))); (case hl6 => first | rfl | (simp only [Option.map_some, Act.eval, zD, zA, zB, zC, zE]; (try rfl))); (case hh6 => first | rfl | (simp only [Option.map_some, Act.eval, zD, zA, zB, zC, zE]; (try rfl))); (case hm6 => rfl); (try simp only [Act.put, zF, zG, zH]))
    (refine TD.build (v := ?v7) (ps := ?p7) (by simp only [zA, zB, zC]; rfl) rfl ?hw7 rfl ?hx7 (fun w1 => ?hy7) ?hn7; (case hw7 => rfl); (case hx7 => (simp only [List.map_toArray, List.map_cons, List.map_nil, Act.eval, zD, zA, zB, zC, zE]; (try rfl))); (case hy7 => (rw [hbr]; (try with_reducible rfl))); (try simp only [Act.put, zF, zG, zH]))
    (refine TD.allocB (by simp only [zA, zB, zC]; rfl) rfl ?hw8 rfl rfl alRg (fun p6 hp6 => ?hn8); (case hw8 => rfl); (try simp only [Act.put, zF, zG, zH]))
    (refine TD.storeB (d := ?d9) (T := ?T9) (y := ?y9) (p := ?p9) (b := ?b9) (v := ?v9) (by simp only [zA, zB, zC]; rfl) rfl ?hw9 ?hd9 ?hop9 ?hev9 ?hx9 ?hb9 ?htag9 (fun w1 hb1 => ?hy9) ?hn9; (case hw9 => rfl); (case hd9 => rfl); (case hop9 => rfl); (case hev9 => (simp only [Act.eval, zD, zA, zB, zC, zE]; (try rfl))); (case hx9 => (simp only [Act.eval, zD, zA, zB, zC, zE]; (try rfl))); (case hb9 => first | exact Bx.set_same _ _ _ | (simp only [Bx.set_same]; rfl)); (case hy9 => (go_simp; (try first | with_reducible rfl | (rw [setCell_blk hb1]; rfl)))); (try simp only [Act.put, zF, zG, zH]))
    refine TD.nil (fun w3 hr => ?_)
    replace kp2 := hr.mod.at kp2 (fun h => h)
    have kp6 := hr.box p6 _ (by first | exact Bx.set_same _ _ _ | (simp only [Bx.set_same]; rfl)); dsimp only [Value.cells] at kp6; obtain ⟨gp6, kp6⟩ := kp6
    have h26 : p2 < p6 := by omega
    have hw6 : w.heap.size ≤ p2 := gp2
    have m3 := hr.mod
    have hsz3 := lt_size kp6
    have hR0 : RgA p6 [] (l.drop took) w3 := by
      refine ⟨none, 0, sp, c - took, by rw [HSS.out.2.2.2.1]; exact kp6, SlOwn.nil _ _, HSS.out.1 _ (HL.out.1.mod0 (HM2.out.trans m3)), ?_, ?_, ?_, ?_⟩
      · rw [HSS.out.2.2.2.1]
        have := HL.out.2.1
        have := HLL.out
        omega
      · intro e
        have := HL.out.2.2.1 (HSS.out.2.2.1 e)
        omega
      · intro x e
        obtain ⟨y, hy, hyx⟩ := HSS.out.2.1 x e
        have := HL.out.2.2.2.2 y hy
        omega
      · rw [HSS.out.2.2.2.1]
        have := HL.out.2.2.2.1
        have := HLL.out
        simp only [List.length_nil]
        omega
    have HR0 := Lib.hid hR0
    have HM3 := Lib.hid (HM2.out.trans m3)
    have hn65 := HSS.out.2.2.2.2.1
    clear hr hsp hbr hR0 m3 HM2 kp6
    obtain ⟨L0, hL0⟩ : ∃ L0, l.drop took = L0 := ⟨_, rfl⟩
    have HL0 := Lib.hid hL0
    go_wp2_with fail
    go_loopw [24] (fun s24 ws => ∃ (i : Nat) (S : List Sg) (L : List UInt8), i ≤ n ∧ s24 = .int .i64 (i : Int) ∧ Hid (S.length = i) ∧ Hid (RgA p6 S L ws) ∧ Hid (Mod (fun _ => False) w ws) ∧ Hid (takeS n (l.drop took) = preS S (takeS (n - i) L)) ∧ ws.heap[p2]? = some (.cells zTc 45 (0, 0))) (fun s24 _ => n - (intOf s24).toNat)
    case atStart => exact ⟨0, [], l.drop took, by omega, rfl, Lib.hid rfl, HR0, HM3, Lib.hid (by rw [preS_nil, Nat.sub_zero]), kp2⟩
    case round =>
      obtain ⟨i, S, L, hi, rfl, HSi, HR, HM, HT, kp2⟩ := hrel
      by_cases hlt : i < n
      · have hd := decide_eq_true hlt
        by_cases h64 : 64 ≤ L.length
        · have H64 := Lib.hid h64
          clear h64
          go_wp2_with fail
          go_at_call 58
          refine (sigY_c HR.out H64.out).mono ?_
          rintro e w4 ⟨rfl, hR, hm⟩
          have HF := Lib.hid (And.intro hR (HM.out.then hm (fun i hi e => by omega)))
          replace kp2 := hm.at kp2 (by omega)
          clear hR hm
          go_wp2_with fail
          go_roundw
          case rel => exact ⟨i + 1, _, _, by omega, by go_num, Lib.hid (by rw [List.length_append, HSi.out]; rfl), Lib.hid HF.out.1, Lib.hid HF.out.2, Lib.hid (by rw [HT.out, show n - i = (n - (i + 1)) + 1 by omega]; exact preS_step H64.out), kp2⟩
          case measure => simp [intOf]; omega
        · have HE : Hid (pTx l = .error 5) := Lib.hid (by
            unfold pTx
            rw [HG.out]
            simp only [if_true]
            rw [HT.out, show n - i = (n - (i + 1)) + 1 by omega, preS_none (by omega)])
          have H64 : Hid (L.length < 64) := Lib.hid (by omega)
          clear h64
          go_wp2_with fail
          go_at_call 58
          refine (sigN_c HR.out H64.out).mono ?_
          rintro e w4 ⟨rfl, rfl⟩
          go_upto_region 8 with fail
          have Lkp2 := lt_size kp2
          refine wp_pass0 (C := fun _ _ _ => False) (κ := fun i => [0, 5, 0, 0].getD i 0) [0, 1, 2, 3] (by kernel_rfl) (by kernel_rfl) (fun _ _ d _ _ h => by cases d <;> first | exact h | exact absurd h (hP _ _ _)) ?_
          (refine TD.build (v := ?v10) (ps := ?p10) (by simp only [zA, zB, zC]; rfl) rfl ?hw10 rfl ?hx10 (fun w1 => ?hy10) ?hn10; (case hw10 => rfl); (case hx10 => (simp only [List.map_toArray, List.map_cons, List.map_nil, Act.eval, zD, zA, zB, zC, zE]; (try rfl))); (case hy10 => (rw [hb]; (try with_reducible rfl))); (try simp only [Act.put, zF, zG, zH]))
          refine TD.eff (by simp only [zA, zB, zC]; rfl) rfl (fun w5 hr => ?_)
          replace kp2 := hr.mod.at kp2 (fun h => h)
          have HM5 := Lib.hid (HM.out.then0 hr.mod)
          clear hr
          (refine eff_store (X := ?X12) (Y := ?Y12) (w' := ?w12) (by simp only [zA, zB, zC]; rfl) ?hw12 rfl ?hx12 ?hz12 ?hy12 ?hn12; (case hw12 => rfl); (case hx12 => (simp only [Act.eval, zD, zA, zB, zC, zE]; (try rfl))); (case hz12 => (simp only [Act.eval, zD, zA, zB, zC, zE]; (try rfl))); (case hy12 => (go_simp; (try with_reducible rfl))))
          (first | refine TE.mid_set kp2 (fun wn kp2 mS => ?_) | refine TE.mid_setCell kp2 (fun wn kp2 mS => ?_))
          have HM6 := Lib.hid (HM5.out.then mS (fun i hi e => by omega))
          clear mS
          (refine TE.val0 (v := ?v13) (by simp only [zA, zB, zC]; rfl) ?hw13 (fun w1 => ?hy13) ?hn13; (case hw13 => rfl); (case hy13 => (go_simp; (try with_reducible rfl))); (try simp only [Act.put, zF, zG, zH]))
          (refine TE.val0 (v := ?v14) (by simp only [zA, zB, zC]; rfl) ?hw14 (fun w1 => ?hy14) ?hn14; (case hw14 => rfl); (case hy14 => (go_simp; (try with_reducible rfl))); (try simp only [Act.put, zF, zG, zH]))
          refine TE.nil ?_
          go_wp2_with fail
          refine bodyPost_ret (results_ctt rfl rfl (ldTcZ kp2)) rfl ?_
          unfold PgetP
          rw [HE.out]
          exact ⟨HM6.out, rfl⟩
      · have hd := decide_eq_false hlt
        obtain rfl : n = i := by omega
        have HT2 : Hid (pTx l = pBind (pMsg L 0) fun m k => .ok (⟨S, m⟩, l.length - L.length + k)) := Lib.hid (by
          have h0 : takeS n (l.drop took) = some (S, L) := by
            rw [HT.out, Nat.sub_self, takeS]
            simp [preS]
          unfold pTx
          rw [HG.out]
          simp only [if_true]
          rw [h0])
        have HLn : Hid (L.length ≤ ll) := Lib.hid (by
          have h0 : takeS n (l.drop took) = some (S, L) := by
            rw [HT.out, Nat.sub_self, takeS]
            simp [preS]
          have := (takeS_len h0).2
          have := HSS.out.2.2.2.1
          omega)
        clear HT
        obtain ⟨sa, sc, la, lc, kp6, hS, hLL, hlc, hnl, hbl, hln⟩ := HR.out
        obtain ⟨nL, hnL⟩ : ∃ nL, L.length = nL := ⟨_, rfl⟩
        rw [hnL, HSi.out] at kp6
        have HNL := Lib.hid hnL
        have hsz := lt_size kp6
        have HSZ := Lib.hid hsz
        have HG6 := Lib.hid (mget_c wr hLL hlc hnl (by omega) (fun x e => by have := hbl x e; omega))
        have HSO := Lib.hid hS
        clear hS hLL hlc hnl hbl hln hsz HR
        have HG6' := HG6.out
        rw [hnL] at HG6'
        have HG7 := Lib.hid HG6'
        clear HG6' HG6 hnL
        have hG7 := HG7.out
        clear HG7
        have ha1 := alMsg
        go_upto_region 10 with fail
        refine region_seq 11 rfl ?_
        simp only [List.range, List.range.loop]
        (refine sq_val (v := ?v15) (by simp only [zA, zB, zC]; rfl) ?hw15 ?hy15 ?hn15; (case hw15 => rfl); (case hy15 => (go_simp; (try with_reducible rfl))); (try simp only [Act.put, zF, zG, zH]))
        (refine sq_load (v := ?v16) (p := ?p16) (by simp only [zA, zB, zC]; rfl) ?hw16 rfl ?hx16 ?hy16 ?hn16; (case hw16 => rfl); (case hx16 => (simp only [Act.eval, zD, zA, zB, zC, zE]; (try rfl))); (case hy16 => (go_simp; (try with_reducible rfl))); (try simp only [Act.put, zF, zG, zH]))
        (refine sq_callT (by simp only [zA, zB, zC]; rfl) ?hw17 ?hy17 hG7 ?hout (fun vn wn hR => ?hret) (fun ch wn hR => ?hpan); (case hw17 => rfl); (case hy17 => (go_simp; (try (first | with_reducible rfl | (constructor <;> with_reducible rfl))))))
        case hout =>
          intro w' h
          unfold MgetP at h
          split at h
          · obtain ⟨_, _, h, _⟩ := h
            cases h
          · cases h.2
        case hpan =>
          exfalso
          unfold MgetP at hR
          split at hR
          · obtain ⟨_, _, h, _⟩ := hR
            cases h
          · cases hR.2
        case hret =>
        obtain ⟨hm, hr⟩ := hR
        have hSO := HSO.out.mod0 hm
        have HSO4 := Lib.hid hSO
        have HM4 := Lib.hid (HM.out.trans hm)
        replace kp2 := hm.at0 kp2
        replace kp6 := hm.at0 kp6
        clear hm hSO hG7
        cases hres : pMsg L 0 with
        | error e0 =>
          rw [hres] at hr
          simp only at hr
          cases hr
          have HE : Hid (pTx l = .error e0) := Lib.hid (HT2.out.trans (pBind_err hres))
          have he0 : ((e0 : Int) != 0) = true := by
            have h1 := NE.msg L 0
            rw [NE, hres] at h1
            simpa using fun e => h1 (by rw [e])
          (try simp only [Act.put, zF, zG, zH])
          obtain ⟨w4, rfl⟩ : ∃ w4 : World, w4 = wn := ⟨_, rfl⟩
          (refine sq_val (v := ?v18) (by simp only [zA, zB, zC]; rfl) ?hw18 ?hy18 ?hn18; (case hw18 => rfl); (case hy18 => (go_simp; (try with_reducible rfl))); (try simp only [Act.put, zF, zG, zH]))
          (refine sq_val (v := ?v19) (by simp only [zA, zB, zC]; rfl) ?hw19 ?hy19 ?hn19; (case hw19 => rfl); (case hy19 => (go_simp; (try with_reducible rfl))); (try simp only [Act.put, zF, zG, zH]))
          (refine sq_val (v := ?v20) (by simp only [zA, zB, zC]; rfl) ?hw20 ?hy20 ?hn20; (case hw20 => rfl); (case hy20 => (go_simp; (try with_reducible rfl))); (try simp only [Act.put, zF, zG, zH]))
          (refine sq_val (v := ?v21) (by simp only [zA, zB, zC]; rfl) ?hw21 ?hy21 ?hn21; (case hw21 => rfl); (case hy21 => (go_simp; (try with_reducible rfl))); (try simp only [Act.put, zF, zG, zH]))
          (refine sq_alloc (by simp only [zA, zB, zC]; rfl) ?hw22 rfl alMsg (fun p7 wn gp7 kp7 mp7 => ?hn22); (case hw22 => rfl); (try simp only [Act.put, zF, zG, zH]))
          (refine sq_store (X := ?X23) (Y := ?Y23) (w' := ?w23) (by simp only [zA, zB, zC]; rfl) ?hw23 rfl rfl ?hx23 ?hz23 ?hy23 ?hn23; (case hw23 => rfl); (case hx23 => (simp only [Act.eval, zD, zA, zB, zC, zE]; (try rfl))); (case hz23 => (simp only [Act.eval, zD, zA, zB, zC, zE]; (try rfl))); (case hy23 => (go_simp; (try with_reducible rfl))))
          (first | refine sq_set kp7 (fun wn kp7 mS => ?_) | refine sq_setCell kp7 (fun wn kp7 mS => ?_))
          (refine sq_val (v := ?v24) (by simp only [zA, zB, zC]; rfl) ?hw24 ?hy24 ?hn24; (case hw24 => rfl); (case hy24 => (go_simp; (try with_reducible rfl))); (try simp only [Act.put, zF, zG, zH]))
          (refine sq_val (v := ?v25) (by simp only [zA, zB, zC]; rfl) ?hw25 ?hy25 ?hn25; (case hw25 => rfl); (case hy25 => (go_simp; (try with_reducible rfl))); (try simp only [Act.put, zF, zG, zH]))
          refine sq_nil ?_
          have HM5 : Hid (Mod (fun _ => False) w wn) := Lib.hid ((HM4.out.trans mp7).then mS (fun i hi e => by have := HM4.out.size; omega))
          replace kp2 := mS.at_ne (mp7.at0 kp2) (by have := lt_size kp2; omega)
          clear mS mp7 kp7 kp6
          obtain ⟨w5, rfl⟩ : ∃ w5 : World, w5 = wn := ⟨_, rfl⟩
          go_upto_region 12 with fail
          have Lkp2 := lt_size kp2
          refine wp_pass0 (C := fun _ _ _ => False) (κ := fun i => [0, 0, 5, 0, 0].getD i 0) [0, 1, 2, 3, 4] (by kernel_rfl) (by kernel_rfl) (fun _ _ d _ _ h => by cases d <;> first | exact h | exact absurd h (hP _ _ _)) ?_
          (refine TD.build (v := ?v26) (ps := ?p26) (by simp only [zA, zB, zC]; rfl) rfl ?hw26 rfl ?hx26 (fun w1 => ?hy26) ?hn26; (case hw26 => rfl); (case hx26 => (simp only [List.map_toArray, List.map_cons, List.map_nil, Act.eval, zD, zA, zB, zC, zE]; (try rfl))); (case hy26 => (rw [hb]; (try with_reducible rfl))); (try simp only [Act.put, zF, zG, zH]))
          (refine TD.val0 (v := ?v27) (by simp only [zA, zB, zC]; rfl) rfl ?hw27 (fun w1 => ?hy27) ?hn27; (case hw27 => rfl); (case hy27 => (go_simp; (try with_reducible rfl))); (try simp only [Act.put, zF, zG, zH]))
          refine TD.eff (by simp only [zA, zB, zC]; rfl) rfl (fun w6 hr => ?_)
          replace kp2 := hr.mod.at kp2 (fun h => h)
          have HM6 := Lib.hid (HM5.out.then0 hr.mod)
          clear hr
          (refine eff_store (X := ?X29) (Y := ?Y29) (w' := ?w29) (by simp only [zA, zB, zC]; rfl) ?hw29 rfl ?hx29 ?hz29 ?hy29 ?hn29; (case hw29 => rfl); (case hx29 => (simp only [Act.eval, zD, zA, zB, zC, zE]; (try rfl))); (case hz29 => (simp only [Act.eval, zD, zA, zB, zC, zE]; (try rfl))); (case hy29 => (go_simp; (try with_reducible rfl))))
          (first | refine TE.mid_set kp2 (fun wn kp2 mS => ?_) | refine TE.mid_setCell kp2 (fun wn kp2 mS => ?_))
          have HM7 := Lib.hid (HM6.out.then mS (fun i hi e => by omega))
          clear mS
          (refine TE.val0 (v := ?v30) (by simp only [zA, zB, zC]; rfl) ?hw30 (fun w1 => ?hy30) ?hn30; (case hw30 => rfl); (case hy30 => (go_simp; (try with_reducible rfl))); (try simp only [Act.put, zF, zG, zH]))
          (refine TE.val0 (v := ?v31) (by simp only [zA, zB, zC]; rfl) ?hw31 (fun w1 => ?hy31) ?hn31; (case hw31 => rfl); (case hy31 => (go_simp; (try with_reducible rfl))); (try simp only [Act.put, zF, zG, zH]))
          refine TE.nil ?_
          go_wp2_with fail
          refine bodyPost_ret (results_ctt rfl rfl (ldTcZ kp2)) rfl ?_
          unfold PgetP
          rw [HE.out]
          exact ⟨HM7.out, rfl⟩
        | ok y =>
          obtain ⟨x, k1⟩ := y
          rw [hres] at hr
          obtain ⟨v, hv0, hv, hk1⟩ := hr
          have HK1 := Lib.hid hk1
          clear hk1
          cases hv0
          obtain ⟨m, rfl, hv⟩ := hv.form
          have HE : Hid (pTx l = .ok (⟨S, x⟩, l.length - L.length + k1)) := Lib.hid (HT2.out.trans (pBind_ok hres))
          have h46 := HM4.out.size
          have HV := Lib.hid hv
          have hwr := lt_size kp6
          (try simp only [Act.put, zF, zG, zH])
          obtain ⟨w4, rfl⟩ : ∃ w4 : World, w4 = wn := ⟨_, rfl⟩
          clear hv hwr h46
          (refine sq_val (v := ?v32) (by simp only [zA, zB, zC]; rfl) ?hw32 ?hy32 ?hn32; (case hw32 => rfl); (case hy32 => (go_simp; (try with_reducible rfl))); (try simp only [Act.put, zF, zG, zH]))
          (refine sq_val (v := ?v33) (by simp only [zA, zB, zC]; rfl) ?hw33 ?hy33 ?hn33; (case hw33 => rfl); (case hy33 => (go_simp; (try with_reducible rfl))); (try simp only [Act.put, zF, zG, zH]))
          (refine sq_val (v := ?v34) (by simp only [zA, zB, zC]; rfl) ?hw34 ?hy34 ?hn34; (case hw34 => rfl); (case hy34 => (go_simp; (try with_reducible rfl))); (try simp only [Act.put, zF, zG, zH]))
          (refine sq_val (v := ?v35) (by simp only [zA, zB, zC]; rfl) ?hw35 ?hy35 ?hn35; (case hw35 => rfl); (case hy35 => (go_simp; (try with_reducible rfl))); (try simp only [Act.put, zF, zG, zH]))
          (refine sq_alloc (by simp only [zA, zB, zC]; rfl) ?hw36 rfl alMsg (fun p7 wn gp7 kp7 mp7 => ?hn36); (case hw36 => rfl); (try simp only [Act.put, zF, zG, zH]))
          (refine sq_store (X := ?X37) (Y := ?Y37) (w' := ?w37) (by simp only [zA, zB, zC]; rfl) ?hw37 rfl rfl ?hx37 ?hz37 ?hy37 ?hn37; (case hw37 => rfl); (case hx37 => (simp only [Act.eval, zD, zA, zB, zC, zE]; (try rfl))); (case hz37 => (simp only [Act.eval, zD, zA, zB, zC, zE]; (try rfl))); (case hy37 => (go_simp; (try with_reducible rfl))))
          (first | refine sq_set kp7 (fun wn kp7 mS => ?_) | refine sq_setCell kp7 (fun wn kp7 mS => ?_))
          (refine sq_val (v := ?v38) (by simp only [zA, zB, zC]; rfl) ?hw38 ?hy38 ?hn38; (case hw38 => rfl); (case hy38 => (go_simp; (try with_reducible rfl))); (try simp only [Act.put, zF, zG, zH]))
          (refine sq_val (v := ?v39) (by simp only [zA, zB, zC]; rfl) ?hw39 ?hy39 ?hn39; (case hw39 => rfl); (case hy39 => (go_simp; (try with_reducible rfl))); (try simp only [Act.put, zF, zG, zH]))
          refine sq_nil ?_
          replace kp7 : wn.heap[p7]? = some (.cells (mcx m) 43 (0, 0)) := kp7
          have hp26 := lt_size kp2
          have hp66 := lt_size kp6
          have h47 : p2 ≠ p7 ∧ p6 ≠ p7 := by omega
          have m47 : Mod (fun _ => False) w4 wn := mp7.then mS (fun i hi e => by omega)
          have HM5 : Hid (Mod (fun _ => False) w wn) := Lib.hid (HM4.out.trans m47)
          replace kp2 := m47.at0 kp2
          replace kp6 := m47.at0 kp6
          have HSO5 := Lib.hid (HSO4.out.mod0 m47)
          have HV5 := Lib.hid (HV.out.mod m47 (fun _ _ _ h => h))
          clear mS mp7 gp7 m47 hp26 hp66
          obtain ⟨w5, rfl⟩ : ∃ w5 : World, w5 = wn := ⟨_, rfl⟩
          go_upto_region 13 with fail
          obtain ⟨a9, c9, v9, e9, hcl, hnew⟩ := HSO5.out.clip sgT
          obtain ⟨sa9, rfl⟩ := NewS.form2 hnew
          rw [HSi.out] at hcl hnew
          have HCL := Lib.hid hcl
          have HNW := Lib.hid hnew
          clear e9 hcl hnew
          have Lkp7 := lt_size kp7
          have Lkp6 := lt_size kp6
          have Lkp2 := lt_size kp2
          refine wp_pass (C := fun _ _ v => v = .slice sa9 n n) (κ := fun i => [1, 0, 0, 1, 2, 0, 0, 5, 0, 0, 6].getD i 0) [0, 1, 2, 3, 4, 5, 6, 7, 8, 9, 10] (by kernel_rfl) (by kernel_rfl) (fun _ _ d _ _ h => by cases d <;> first | exact h | exact absurd h (hP _ _ _)) ?_
          (refine TD.load (v := ?v40) (p := ?p40) (Mod.refl _ _) (by simp only [zA, zB, zC]; rfl) rfl ?hw40 rfl ?hx40 (fun wq hSq => ?hy40) ?hn40; (case hw40 => rfl); (case hx40 => (simp only [Act.eval, zD, zA, zB, zC, zE]; (try rfl))); (case hy40 => (have kp7q := hSq.at kp7 (fun h => h); have kp6q := hSq.at kp6 (fun h => h); have kp2q := hSq.at kp2 (fun h => h); go_simp; (try with_reducible rfl))); (try simp only [Act.put, zF, zG, zH]))
          (refine TD.val0 (v := ?v41) (by simp only [zA, zB, zC]; rfl) rfl ?hw41 (fun w1 => ?hy41) ?hn41; (case hw41 => rfl); (case hy41 => (go_simp; (try with_reducible rfl))); (try simp only [Act.put, zF, zG, zH]))
          (refine TD.val0 (v := ?v42) (by simp only [zA, zB, zC]; rfl) rfl ?hw42 (fun w1 => ?hy42) ?hn42; (case hw42 => rfl); (case hy42 => (go_simp; (try with_reducible rfl))); (try simp only [Act.put, zF, zG, zH]))
          (refine TD.load (v := ?v43) (p := ?p43) (Mod.refl _ _) (by simp only [zA, zB, zC]; rfl) rfl ?hw43 rfl ?hx43 (fun wq hSq => ?hy43) ?hn43; (case hw43 => rfl); (case hx43 => (simp only [Act.eval, zD, zA, zB, zC, zE]; (try rfl))); (case hy43 => (have kp7q := hSq.at kp7 (fun h => h); have kp6q := hSq.at kp6 (fun h => h); have kp2q := hSq.at kp2 (fun h => h); go_simp; (try with_reducible rfl))); (try simp only [Act.put, zF, zG, zH]))
          (refine TD.call (f := ?f44) (args := ?r44) (Mod.refl _ _) (by simp only [zA, zB, zC]; rfl) rfl ?hw44 (fun w1 => ?hy44) ?hsp44 ?hn44; (case hw44 => rfl); (case hy44 => (go_simp; (first | with_reducible rfl | (constructor <;> with_reducible rfl)))); (case hsp44 => (intro wq hSq; have kp7q := hSq.at kp7 (fun h => h); have kp6q := hSq.at kp6 (fun h => h); have kp2q := hSq.at kp2 (fun h => h); exact (clipSgs_c _ _ _ HCL.out).mono (fun e w' h => ⟨_, h.1, rfl, by rw [h.2]; exact Mod.refl _ _⟩))); rintro _ hC; subst hC; (try simp only [Act.put, zF, zG, zH]))
          (refine TD.val0 (v := ?v45) (by simp only [zA, zB, zC]; rfl) rfl ?hw45 (fun w1 => ?hy45) ?hn45; (case hw45 => rfl); (case hy45 => (go_simp; (try with_reducible rfl))); (try simp only [Act.put, zF, zG, zH]))
          (refine TD.val0 (v := ?v46) (by simp only [zA, zB, zC]; rfl) rfl ?hw46 (fun w1 => ?hy46) ?hn46; (case hw46 => rfl); (case hy46 => (go_simp; (try with_reducible rfl))); (try simp only [Act.put, zF, zG, zH]))
          refine TD.eff (by simp only [zA, zB, zC]; rfl) rfl (fun w6 hr => ?_)
          replace kp7 := hr.mod.at kp7 (fun h => h)
          replace kp6 := hr.mod.at kp6 (fun h => h)
          replace kp2 := hr.mod.at kp2 (fun h => h)
          have m56 := hr.mod
          have HM6 := Lib.hid (HM5.out.trans m56)
          have HSO6 := Lib.hid (HNW.out.mod0 m56)
          have HV6 := Lib.hid (HV5.out.mod m56 (fun _ _ _ h => h))
          clear hr m56
          (refine eff_store (X := ?X48) (Y := ?Y48) (w' := ?w48) (by simp only [zA, zB, zC]; rfl) ?hw48 rfl ?hx48 ?hz48 ?hy48 ?hn48; (case hw48 => rfl); (case hx48 => (simp only [Act.eval, zD, zA, zB, zC, zE]; (try rfl))); (case hz48 => (simp only [Act.eval, zD, zA, zB, zC, zE]; (try rfl))); (case hy48 => (go_simp; (try with_reducible rfl))))
          (first | refine TE.mid_set kp6 (fun wn kp6 mS => ?_) | refine TE.mid_setCell kp6 (fun wn kp6 mS => ?_))
          replace kp6 : wn.heap[p6]? = some (.cells (rgx sa n sc m la nL lc) 148 (0, 0)) := by
            rw [kp6]
            first | rw [rgx_m] | (simp [rgx_m, rgx_size]; done)
          have HM7 := Lib.hid (HM6.out.then mS (fun i hi e => by omega))
          have HSO7 := Lib.hid (HSO6.out.mod mS (fun g hg e => by have := (HSO6.out.lt g hg).1; omega))
          have HV7 := Lib.hid (HV6.out.mod mS (fun g hg _ e => by have := HSZ.out; omega))
          replace kp2 := mS.at_ne kp2 (by omega)
          clear mS
          (refine TE.val0 (v := ?v49) (by simp only [zA, zB, zC]; rfl) ?hw49 (fun w1 => ?hy49) ?hn49; (case hw49 => rfl); (case hy49 => (go_simp; (try with_reducible rfl))); (try simp only [Act.put, zF, zG, zH]))
          (refine TE.val0 (v := ?v50) (by simp only [zA, zB, zC]; rfl) ?hw50 (fun w1 => ?hy50) ?hn50; (case hw50 => rfl); (case hy50 => (go_simp; (try with_reducible rfl))); (try simp only [Act.put, zF, zG, zH]))
          refine TE.step (by simp only [zA, zB, zC]; rfl) rfl ?_
          (refine eff_store (X := ?X51) (Y := ?Y51) (w' := ?w51) (by simp only [zA, zB, zC]; rfl) ?hw51 rfl ?hx51 ?hz51 ?hy51 ?hn51; (case hw51 => rfl); (case hx51 => (simp only [Act.eval, zD, zA, zB, zC, zE]; (try rfl))); (case hz51 => (simp only [Act.eval, zD, zA, zB, zC, zE]; (try rfl))); (case hy51 => (go_simp; (try with_reducible rfl))))
          (first | refine TE.nil_set kp6 (fun wn kp6 mS => ?_) | refine TE.nil_setCell kp6 (fun wn kp6 mS => ?_))
          replace kp6 : wn.heap[p6]? = some (.cells (rgx sa9 n n m la nL lc) 148 (0, 0)) := by
            rw [kp6, rgx_s]
          have HM8 := Lib.hid (HM7.out.then mS (fun i hi e => by omega))
          have HSO8 := Lib.hid (HSO7.out.mod mS (fun g hg e => by have := (HSO7.out.lt g hg).1; omega))
          have HV8 := Lib.hid (HV7.out.mod mS (fun g hg _ e => by have := HSZ.out; omega))
          replace kp2 := mS.at_ne kp2 (by omega)
          clear mS kp7
          obtain ⟨w8, rfl⟩ : ∃ w8 : World, w8 = wn := ⟨_, rfl⟩
          obtain ⟨d, hd0⟩ : ∃ d, ll - nL = d := ⟨_, rfl⟩
          obtain ⟨kk, hkk⟩ : ∃ kk, d + k1 = kk := ⟨_, rfl⟩
          have hll9 := HL.out.2.2.2.1
          have hll8 := HLL.out
          have hnl8 := HNL.out
          have hlm8 := HLn.out
          have hk18 := HK1.out
          have hdw : IntKind.i64.wrap ((ll : Int) - (nL : Int)) = (d : Int) := by rw [IntKind.wrap_i64]; omega
          have hkw : IntKind.i64.wrap ((d : Int) + (k1 : Int)) = (kk : Int) := by rw [IntKind.wrap_i64]; omega
          have HKK : Hid (l.length - L.length + k1 = kk ∧ kk ≤ l.length) := Lib.hid ⟨by omega, by omega⟩
          have nW : ¬ (fun i => i = p2) p6 := by simp only; omega
          clear hll9 hll8 hnl8 hlm8 hk18 hd0 hkk
          go_upto_region 14 with fail
          have Lkp6 := lt_size kp6
          refine wp_gpass (T0 := fun i => i = p2) (K := fun T w => T p2 ∧ w.heap[p2]? = some (.cells zTc 45 (0, 0))) (κ := fun i => [0, 0, 0, 0, 0, 0, 0, 0, 0, 0, 6, 0, 0].getD i 0) (υ := fun i => [[], [], [], [], [], [], [], [], [], [], [], [], []].getD i []) [0, 1, 2, 3, 4, 5, 6, 7, 8, 9, 10, 11, 12] (by kernel_rfl) (by kernel_rfl) (Good.at p2 (.cells zTc 45 (0, 0))).cl (⟨rfl, kp2⟩) (fun i hi => by subst hi; exact lt_size kp2) ?_
          have gK := Good.at p2 (.cells zTc 45 (0, 0))
          (refine TG.v0 (v := ?v52) (by simp only [zA, zB, zC]; rfl) rfl ?hw52 (fun w1 => ?hy52) ?hn52; (case hw52 => rfl); (case hy52 => (go_simp; (try with_reducible rfl))); (try simp only [Act.put, zF, zG, zH]))
          (refine TG.load (v := ?v53) (p := ?p53) (by simp only [zA, zB, zC]; rfl) rfl ?hw53 rfl ?hx53 (fun wq hSq => ?hy53) ?hn53; (case hw53 => rfl); (case hx53 => (simp only [Act.eval, zD, zA, zB, zC, zE]; (try rfl))); (case hy53 => (have kp6q := hSq.at kp6 (by intro hT; first | exact hT | exact absurd hT (by assumption) | omega | (simp only at hT; omega)); go_simp; (try with_reducible rfl))); (try simp only [Act.put, zF, zG, zH]))
          (refine TG.v0 (v := ?v54) (by simp only [zA, zB, zC]; rfl) rfl ?hw54 (fun w1 => ?hy54) ?hn54; (case hw54 => rfl); (case hy54 => (go_simp; (try with_reducible rfl))); (try simp only [Act.put, zF, zG, zH]))
          (refine TG.v0 (v := ?v55) (by simp only [zA, zB, zC]; rfl) rfl ?hw55 (fun w1 => ?hy55) ?hn55; (case hw55 => rfl); (case hy55 => (go_simp; (try with_reducible rfl))); (try simp only [Act.put, zF, zG, zH]))
          (refine TG.v0 (v := ?v56) (by simp only [zA, zB, zC]; rfl) rfl ?hw56 (fun w1 => ?hy56) ?hn56; (case hw56 => rfl); (case hy56 => (go_simp; (try with_reducible rfl))); (try simp only [Act.put, zF, zG, zH]))
          (refine TG.load (v := ?v57) (p := ?p57) (by simp only [zA, zB, zC]; rfl) rfl ?hw57 rfl ?hx57 (fun wq hSq => ?hy57) ?hn57; (case hw57 => rfl); (case hx57 => (simp only [Act.eval, zD, zA, zB, zC, zE]; (try rfl))); (case hy57 => (have kp6q := hSq.at kp6 (by intro hT; first | exact hT | exact absurd hT (by assumption) | omega | (simp only at hT; omega)); go_simp; (try with_reducible rfl))); (try simp only [Act.put, zF, zG, zH]))
          (refine TG.v0 (v := ?v58) (by simp only [zA, zB, zC]; rfl) rfl ?hw58 (fun w1 => ?hy58) ?hn58; (case hw58 => rfl); (case hy58 => (go_simp; (try with_reducible rfl))); (try simp only [Act.put, zF, zG, zH]))
          (refine TG.v0 (v := ?v59) (by simp only [zA, zB, zC]; rfl) rfl ?hw59 (fun w1 => ?hy59) ?hn59; (case hw59 => rfl); (case hy59 => (go_simp; (try with_reducible rfl))); (try simp only [Act.put, zF, zG, zH]))
          (refine TG.v0 (v := ?v60) (by simp only [zA, zB, zC]; rfl) rfl ?hw60 (fun w1 => ?hy60) ?hn60; (case hw60 => rfl); (case hy60 => (go_simp; (try with_reducible rfl))); (try simp only [Act.put, zF, zG, zH]))
          (refine TG.v0 (v := ?v61) (by simp only [zA, zB, zC]; rfl) rfl ?hw61 (fun w1 => ?hy61) ?hn61; (case hw61 => rfl); (case hy61 => (go_simp; (try with_reducible rfl))); (try simp only [Act.put, zF, zG, zH]))
          (refine TG.storeO (X := ?X62) (Y := ?Y62) (fun T w => T p2 ∧ w.heap[p2]? = some (.cells (tcx sa9 n n m) 45 (0, 0))) (Good.at p2 (.cells (tcx sa9 n n m) 45 (0, 0))) (by simp only [zA, zB, zC]; rfl) rfl ?hw62 rfl rfl ?hx62 ?hz62 (fun T wq kq => ?hy62) (fun _ => ?hn62); (case hw62 => rfl); (case hx62 => (simp only [Act.eval, zD, zA, zB, zC, zE]; (try rfl))); (case hz62 => (simp only [Act.eval, zD, zA, zB, zC, zE]; (try rfl))); (case hy62 => (obtain ⟨k1, k2⟩ := kq; refine ⟨setBlock wq p2 (.cells (tcx sa9 n n m) 45 (0, 0)), ?_, (mod_set wq p2 _).mono (fun i _ e => by rw [e]; exact k1), k1, heap_setBlock wq _ (lt_size k2)⟩; exact run_store_box k2 (by rw [tcx_size sa9 n n m]; kernel_rfl) (by rw [tcx_size sa9 n n m, zTc_size]) (tcx_one sa9 n n m))); replace gK := (Good.at p2 (.cells (tcx sa9 n n m) 45 (0, 0))); (try simp only [Act.put, zF, zG, zH]))
          (refine TG.v0 (v := ?v63) (by simp only [zA, zB, zC]; rfl) rfl ?hw63 (fun w1 => ?hy63) ?hn63; (case hw63 => rfl); (case hy63 => (go_simp; (try with_reducible rfl))); (try simp only [Act.put, zF, zG, zH]))
          (refine TG.v0 (v := ?v64) (by simp only [zA, zB, zC]; rfl) rfl ?hw64 (fun w1 => ?hy64) ?hn64; (case hw64 => rfl); (case hy64 => (go_simp; (try with_reducible rfl))); (try simp only [Act.put, zF, zG, zH]))
          refine TG.nil (fun w9 ⟨TR, hr⟩ => ?_)
          replace kp6 := hr.mod.at kp6 (by intro hT; first | exact hT | exact absurd hT (by assumption) | omega | (simp only at hT; omega))
          clear gK
          have HF : Hid (w9.heap[p2]? = some (.cells (tcx sa9 n n m) 45 (0, 0)) ∧ Mod (fun i => i = p2) w8 w9) := Lib.hid ⟨hr.k.2, hr.mod⟩
          clear hr kp2
          go_wp2_with fail
          refine bodyPost_ret (results_ctt rfl rfl (ldTcx HF.out.1)) rfl ?_
          unfold PgetP
          rw [HE.out, HKK.out.1]
          have hb : w.heap.size ≤ p6 + 1 := by omega
          have hb2 : w.heap.size ≤ wr.heap.size := by have := HSZ.out; omega
          refine ⟨HM8.out.then HF.out.2 (fun i hi e => by omega), _, rfl, ⟨sa9, m, by rw [HSi.out], ?_, ?_⟩, HKK.out.2⟩
          · rw [HSi.out]
            exact (HSO8.out.mod HF.out.2 (fun g hg e => by have := (HSO8.out.lt g hg).1; omega)).base hb
          · exact (HV8.out.mod HF.out.2 (fun g hg _ e => by have := HSZ.out; omega)).base hb2
  · have HE : Hid (pTx l = .error er) := Lib.hid (by
      unfold pTx
      rw [HG.out]
      simp only
      rw [if_neg he])
    have hne : ((er : Int) != 0) = true := by simpa using he
    go_upto_region 3 with fail
    have Lkp2 := lt_size kp2
    refine wp_pass0 (C := fun _ _ _ => False) (κ := fun i => [0, 0, 5, 0, 0].getD i 0) [0, 1, 2, 3, 4] (by kernel_rfl) (by kernel_rfl) (fun _ _ d _ _ h => by cases d <;> first | exact h | exact absurd h (hP _ _ _)) ?_
    (refine TD.build (v := ?v65) (ps := ?p65) (by simp only [zA, zB, zC]; rfl) rfl ?hw65 rfl ?hx65 (fun w1 => ?hy65) ?hn65; (case hw65 => rfl); (case hx65 => (simp only [List.map_toArray, List.map_cons, List.map_nil, Act.eval, zD, zA, zB, zC, zE]; (try rfl))); (case hy65 => (rw [hb]; (try with_reducible rfl))); (try simp only [Act.put, zF, zG, zH]))
    (refine TD.val0 (v := ?v66) (by simp only [zA, zB, zC]; rfl) rfl ?hw66 (fun w1 => ?hy66) ?hn66; (case hw66 => rfl); (case hy66 => (go_simp; (try with_reducible rfl))); (try simp only [Act.put, zF, zG, zH]))
    refine TD.eff (by simp only [zA, zB, zC]; rfl) rfl (fun w6 hr => ?_)
    replace kp2 := hr.mod.at kp2 (fun h => h)
    have HM6 := Lib.hid (HM2.out.then0 hr.mod)
    clear hr
    (refine eff_store (X := ?X68) (Y := ?Y68) (w' := ?w68) (by simp only [zA, zB, zC]; rfl) ?hw68 rfl ?hx68 ?hz68 ?hy68 ?hn68; (case hw68 => rfl); (case hx68 => (simp only [Act.eval, zD, zA, zB, zC, zE]; (try rfl))); (case hz68 => (simp only [Act.eval, zD, zA, zB, zC, zE]; (try rfl))); (case hy68 => (go_simp; (try with_reducible rfl))))
    (first | refine TE.mid_set kp2 (fun wn kp2 mS => ?_) | refine TE.mid_setCell kp2 (fun wn kp2 mS => ?_))
    have HM7 := Lib.hid (HM6.out.then mS (fun i hi e => by omega))
    clear mS
    (refine TE.val0 (v := ?v69) (by simp only [zA, zB, zC]; rfl) ?hw69 (fun w1 => ?hy69) ?hn69; (case hw69 => rfl); (case hy69 => (go_simp; (try with_reducible rfl))); (try simp only [Act.put, zF, zG, zH]))
    (refine TE.val0 (v := ?v70) (by simp only [zA, zB, zC]; rfl) ?hw70 (fun w1 => ?hy70) ?hn70; (case hw70 => rfl); (case hy70 => (go_simp; (try with_reducible rfl))); (try simp only [Act.put, zF, zG, zH]))
    refine TE.nil ?_
    go_wp2_with fail
    refine bodyPost_ret (results_ctt rfl rfl (ldTcZ kp2)) rfl ?_
    unfold PgetP
    rw [HE.out]
    exact ⟨HM7.out, rfl⟩
end Go.Proofs.YtofpnmoeimjnnaaGreat
namespace Go.Proofs.YtofpnmoeimjnnaaGreat
open Go.RowKit
open Go.ChangeMaps (setBlock)
set_option linter.unusedSimpArgs false
set_option linter.unusedVariables false
attribute [local go_sem] cell_blk frozen_blk one_int one_bool one_ptr one_slice one_map Value.cells
attribute [local go_sem ↓] wlKey ldKey stKey wlMsg ldMsg stMsg wlRg ldRg stRg wlTc ldTc stTc wlSg ldSg stSg
attribute [local go_sem] kc_ext kc_one kc_one0 kc_size zKey_size one_slice mgx_size mgx_ext mgx_one mgx_one0 zMsg_size zMsg_all zMsg_all0
def inP (r : InR) : InP := ⟨r.p, r.a.l, r.d.l⟩
def loP (r : LoR) : LoP := ⟨r.t, r.w.l, r.r.l⟩
def msgP (x : RdR) : MsP := ⟨x.v0, x.h0, x.h1, x.h2, x.ks.l, x.rc, x.ins.l.map inP, x.lks.l.map loP⟩
def txP (x : RdR) : TxP := ⟨x.sg.l, msgP x⟩
def TxO (b : Nat) (w : World) (x : RdR) : Prop := NewS sgc 64 66 b w (.slice x.sg.a x.sg.l.length x.sg.c) x.sg.l ∧ NewS kc 32 153 b w (.slice x.ks.a x.ks.l.length x.ks.c) x.ks.l ∧
  NewS inr 3 155 b w (.slice x.ins.a x.ins.l.length x.ins.c) x.ins.l ∧ InsOk b w x.ins.l (x.ins.l.map inP) ∧ NewS lor 34 157 b w (.slice x.lks.a x.lks.l.length x.lks.c) x.lks.l ∧ LosOk b w x.lks.l (x.lks.l.map loP) ∧ ∀ g ∈ insB x.ins.l, ∀ h ∈ losB x.lks.l, g < h
theorem ins_map {b : Nat} {w : World} {L : List InR} {xs : List InP} (h : All2 (In1 b w) L xs) : xs = L.map inP := by
  induction h with
  | nil => rfl
  | @cons r x l m hx _ ih =>
    rw [List.map_cons, ← ih]
    obtain ⟨p, a, d⟩ := x
    obtain ⟨h1, h2, h3, _⟩ := hx
    simp only at h1 h2 h3
    rw [inP, h1, h2, h3]
theorem los_map {b : Nat} {w : World} {L : List LoR} {xs : List LoP} (h : All2 (Lo1 b w) L xs) : xs = L.map loP := by
  induction h with
  | nil => rfl
  | @cons r x l m hx _ ih =>
    rw [List.map_cons, ← ih]
    obtain ⟨p, a, d⟩ := x
    obtain ⟨h1, h2, h3, _⟩ := hx
    simp only at h1 h2 h3
    rw [loP, h1, h2, h3]
theorem VTx.toO {b : Nat} {w : World} {v : Value} {x : TxP} (h : VTx b w v x) : ∃ r : RdR, v = .agg (txr r) ∧ txP r = x ∧ TxO b w r := by
  obtain ⟨sa, m, rfl, h1, ka, ia, la, L, M, hm, h2, h3, h4, h5, h6, h7⟩ := h
  obtain ⟨sg, v0, q0, q1, q2, ks, rc, ins, lks⟩ := x
  simp only at h1 h2 h3 h4 h5 h6 h7 hm
  obtain rfl := ins_map h4.1
  obtain rfl := los_map h6.1
  refine ⟨⟨⟨none, [], 0⟩, ⟨sa, sg, sg.length⟩, v0, q0, q1, q2, ⟨ka, ks, ks.length⟩, rc, ⟨ia, L, L.length⟩, ⟨la, M, M.length⟩, ⟨none, [], 0⟩, 0, 0, 0, 0, 0, 0⟩, ?_, rfl, h1, h2, h3, h4, h5, h6, h7⟩
  have hm2 : mcx m = mgx v0 q0 q1 q2 ka ks.length ks.length rc ia L.length L.length la M.length M.length := by injection hm
  have e1 : (tcx sa sg.length sg.length m).toList = .slice sa sg.length sg.length :: (mcx m).toList := rfl
  congr 1
  apply Array.toList_inj.1
  rw [e1, hm2]
  rfl
theorem NewS.ty {α : Type} {f : α → Array Value} {n : Nat} {E : TypeId} {base : Nat} {w : World} {v : Value} {l : List α} (h : NewS f n E base w v l) {g : Nat} (hg : v.ownBlock = some g) : ∃ cur, w.heap[g]? = some (.cells cur E (0, 0)) := by
  rcases h with ⟨rfl, _⟩ | ⟨g', cur, rfl, _, hk, _⟩
  · cases hg
  · cases hg
    exact ⟨cur, hk⟩
def Apt (w : World) (S : Nat → Prop) (b : Nat) : Prop := ∀ g C E, b ≤ g → w.heap[g]? = some (.cells C E (0, 0)) → (E = 66 ∨ E = 153 ∨ E = 155 ∨ E = 157 ∨ E = 5) → ¬ S g
theorem Apt.below {w : World} {S : Nat → Prop} {b : Nat} (h : ∀ i, S i → i < b) : Apt w S b := fun g _ _ hb _ _ hs => by
  have := h g hs
  omega
theorem Apt.old {w : World} {S : Nat → Prop} {b : Nat} (h : ∀ i, S i → w.heap.size ≤ i) : Apt w S b := fun g _ _ _ hk _ hs => by
  have := h g hs
  have := lt_size hk
  omega
theorem TxO.mod {b : Nat} {w w' : World} {x : RdR} {S : Nat → Prop} (h : TxO b w x) (hm : Mod S w w') (hS : Apt w S b) : TxO b w' x := by
  obtain ⟨h1, h2, h3, h4, h5, h6, h7⟩ := h
  exact ⟨h1.mod hm (fun g hg => by obtain ⟨C, hk⟩ := h1.ty hg; exact hS g C _ (h1.lt g hg).1 hk (.inl rfl)),
    h2.mod hm (fun g hg => by obtain ⟨C, hk⟩ := h2.ty hg; exact hS g C _ (h2.lt g hg).1 hk (.inr (.inl rfl))),
    h3.mod hm (fun g hg => by obtain ⟨C, hk⟩ := h3.ty hg; exact hS g C _ (h3.lt g hg).1 hk (.inr (.inr (.inl rfl)))),
    h4.mod hm (fun g hb _ ⟨C, hk⟩ => hS g C _ hb hk (.inr (.inr (.inr (.inr rfl))))),
    h5.mod hm (fun g hg => by obtain ⟨C, hk⟩ := h5.ty hg; exact hS g C _ (h5.lt g hg).1 hk (.inr (.inr (.inr (.inl rfl))))),
    h6.mod hm (fun g hb _ ⟨C, hk⟩ => hS g C _ hb hk (.inr (.inr (.inr (.inr rfl))))), h7⟩
theorem TxO.base {b b' : Nat} {w : World} {x : RdR} (h : TxO b w x) (hb : b' ≤ b) : TxO b' w x := by
  obtain ⟨h1, h2, h3, h4, h5, h6, h7⟩ := h
  exact ⟨h1.base hb, h2.base hb, h3.base hb, h4.base hb, h5.base hb, h6.base hb, h7⟩
def blk (x : RdR) : List Nat := (Value.slice x.sg.a x.sg.l.length x.sg.c).ownBlock.toList ++ ((Value.slice x.ks.a x.ks.l.length x.ks.c).ownBlock.toList ++ (insB x.ins.l ++ losB x.lks.l))
theorem TxO.blk {b : Nat} {w : World} {x : RdR} (h : TxO b w x) : ∀ g ∈ blk x, b ≤ g ∧ g < w.heap.size := by
  obtain ⟨h1, h2, h3, h4, h5, h6, h7⟩ := h
  intro g hg
  simp only [Go.Proofs.YtofpnmoeimjnnaaGreat.blk, List.mem_append, Option.mem_toList] at hg
  rcases hg with hg | hg | hg | hg
  · exact h1.lt g hg
  · exact h2.lt g hg
  · exact ⟨(h4.2.2 g hg).1, (h4.2.2 g hg).2.1⟩
  · exact ⟨(h6.2.2 g hg).1, (h6.2.2 g hg).2.1⟩
theorem txT : ElT Tryz.prog 25 45 txr 40 136 where
  u := Tryz.underlying25
  info := by
    obtain ⟨i0, hi, hz0, hz1, hz2⟩ := info_parts (show (Tryz.prog.info? 45).map (fun i => (i.zero, i.size, i.bytes)) = some (some (.agg zTx), 40, 136) by kernel_rfl)
    exact ⟨i0, _, hi, hz0, hz1, hz2, by simp [Value.cells, zTx_size]⟩
  pos := by omega
  size x := txr_size x
  one x := by
    have := txr_one' x
    rw [Array.all_eq_true_iff_forall_mem] at this
    intro u hu
    exact this u (by simpa using hu)
end Go.Proofs.YtofpnmoeimjnnaaGreat
namespace Go.Proofs.YtofpnmoeimjnnaaGreat
open Go.RowKit
open Go.ChangeMaps (setBlock)
set_option linter.unusedSimpArgs false
set_option linter.unusedVariables false
attribute [local go_sem] cell_blk frozen_blk one_int one_bool one_ptr one_slice one_map Value.cells
attribute [local go_sem ↓] wlKey ldKey stKey
attribute [local go_sem] kc_ext kc_one kc_one0 kc_size zKey_size one_slice
theorem sigIsS : IsSigT Tryz.prog 66 5 where
  laid := laid
  row := of_decide_eq_true (by kernel_rfl)
  at2 := by kernel_rfl
  u := Tryz.underlying66
  e := Tryz.underlying5
  cK := by kernel_rfl
  cE := by kernel_rfl
  kt := by kernel_rfl
theorem eqSigS (a b : Sg) (w : World) : (Op.equalIn 10000 66 (.agg (sgc a)) (.agg (sgc b))).run Tryz.prog w = .ok (decide (a = b)) w := sigIsS.eqIn 9998 a b w
attribute [local go_sem ↓] wlSg ldSg stSg eqSigS eqKey1
attribute [local go_sem] sgc_size sgc_ext sgc_one0 sgc_one'
set_option maxRecDepth 20000 in
set_option maxHeartbeats 1600000 in
theorem sameK_c (a a2 : Option Addr) (l l2 : List Key) (c c2 : Nat) (w : World) (h1 : SlAt kc 32 w a l) (h2 : SlAt kc 32 w a2 l2) (hb : l.length ≤ 1000000) : Calls Tryz.prog 64 #[.slice a l.length c, .slice a2 l2.length c2] w fun e w' => e = .returned (.bool (decide (l = l2))) ∧ Mod (fun _ => False) w w' := by
  by_cases hl : l.length = l2.length
  · have HL := Lib.hid hl
    have hd0 : ((l.length : Int) != (l2.length : Int)) = false := by simp [hl]
    clear hl
    go_enter Tryz.func64, Tryz.ntmps64
    go_wp2_with fail
    clear hd0
    go_loopw [5] (fun s5 ws => ∃ i : Nat, i ≤ l.length ∧ s5 = .int .i64 (i : Int) ∧ Hid (l.take i = l2.take i) ∧ Mod (fun _ => False) w ws) (fun s5 _ => l.length - (intOf s5).toNat)
    case atStart => exact ⟨0, by omega, rfl, Lib.hid (by simp), Mod.refl _ _⟩
    case round =>
      obtain ⟨i, hi, rfl, HT, hm⟩ := hrel
      by_cases hlt : i < l.length
      · obtain ⟨x, hx⟩ : ∃ x, l[i]? = some x := ⟨_, List.getElem?_eq_getElem hlt⟩
        obtain ⟨y, hy⟩ : ∃ y, l2[i]? = some y := ⟨_, List.getElem?_eq_getElem (by have := HL.out; omega)⟩
        obtain ⟨g, o, C, U, fr, rfl, kl, he, hle⟩ := (h1.mod0 hm).block hx
        obtain ⟨g2, o2, C2, U2, fr2, rfl, kl2, he2, hle2⟩ := (h2.mod0 hm).block hy
        have hlt2 : (i : Int) < (l2.length : Int) := by
          have := HL.out
          omega
        have HX := Lib.hid hx
        have HY := Lib.hid hy
        have H1 := Lib.hid h1
        have H2 := Lib.hid h2
        clear h1 h2 hx hy
        by_cases hxy : x = y
        · subst hxy
          go_upto_region 6 with fail
          have Lkl := lt_size kl
          have Lkl2 := lt_size kl2
          refine wp_pass (C := fun _ _ _ => False) (κ := fun i => [0, 0, 0, 1, 0, 0, 0, 1, 0].getD i 0) [0, 1, 2, 3, 4, 5, 6, 7, 8] (by kernel_rfl) (by kernel_rfl) (fun _ _ d _ _ h => by cases d <;> first | exact h | exact absurd h (hP _ _ _)) ?_
          (refine TD.val0 (v := ?v1) (by simp only [zA, zB, zC]; rfl) rfl ?hw1 (fun w1 => ?hy1) ?hn1; (case hw1 => rfl); (case hy1 => (go_simp; (try with_reducible rfl))); (try simp only [Act.put, zF, zG, zH]))
          (refine TD.val0 (v := ?v2) (by simp only [zA, zB, zC]; rfl) rfl ?hw2 (fun w1 => ?hy2) ?hn2; (case hw2 => rfl); (case hy2 => (go_simp; (try with_reducible rfl))); (try simp only [Act.put, zF, zG, zH]))
          (refine TD.val0 (v := ?v3) (by simp only [zA, zB, zC]; rfl) rfl ?hw3 (fun w1 => ?hy3) ?hn3; (case hw3 => rfl); (case hy3 => (go_simp; (try with_reducible rfl))); (try simp only [Act.put, zF, zG, zH]))
          (refine TD.load (v := ?v4) (p := ?p4) (Mod.refl _ _) (by simp only [zA, zB, zC]; rfl) rfl ?hw4 rfl ?hx4 (fun wq hSq => ?hy4) ?hn4; (case hw4 => rfl); (case hx4 => (simp only [Act.eval, zD, zA, zB, zC, zE]; (try rfl))); (case hy4 => (have klq := hSq.at kl (fun h => h); have kl2q := hSq.at kl2 (fun h => h); go_simp; (try with_reducible rfl))); (try simp only [Act.put, zF, zG, zH]))
          (refine TD.val0 (v := ?v5) (by simp only [zA, zB, zC]; rfl) rfl ?hw5 (fun w1 => ?hy5) ?hn5; (case hw5 => rfl); (case hy5 => (go_simp; (try with_reducible rfl))); (try simp only [Act.put, zF, zG, zH]))
          (refine TD.val0 (v := ?v6) (by simp only [zA, zB, zC]; rfl) rfl ?hw6 (fun w1 => ?hy6) ?hn6; (case hw6 => rfl); (case hy6 => (go_simp; (try with_reducible rfl))); (try simp only [Act.put, zF, zG, zH]))
          (refine TD.val0 (v := ?v7) (by simp only [zA, zB, zC]; rfl) rfl ?hw7 (fun w1 => ?hy7) ?hn7; (case hw7 => rfl); (case hy7 => (go_simp; (try with_reducible rfl))); (try simp only [Act.put, zF, zG, zH]))
          (refine TD.load (v := ?v8) (p := ?p8) (Mod.refl _ _) (by simp only [zA, zB, zC]; rfl) rfl ?hw8 rfl ?hx8 (fun wq hSq => ?hy8) ?hn8; (case hw8 => rfl); (case hx8 => (simp only [Act.eval, zD, zA, zB, zC, zE]; (try rfl))); (case hy8 => (have klq := hSq.at kl (fun h => h); have kl2q := hSq.at kl2 (fun h => h); go_simp; (try with_reducible rfl))); (try simp only [Act.put, zF, zG, zH]))
          (refine TD.val0 (v := ?v9) (by simp only [zA, zB, zC]; rfl) rfl ?hw9 (fun w1 => ?hy9) ?hn9; (case hw9 => rfl); (case hy9 => (go_simp; (try with_reducible rfl))); (try simp only [Act.put, zF, zG, zH]))
          refine TD.nil (fun w2 hr => ?_)
          replace kl := hr.mod.at kl (fun h => h)
          replace kl2 := hr.mod.at kl2 (fun h => h)
          have mm := hm.then0 hr.mod
          clear he he2 hle hle2
          go_wp2_with fail
          go_roundw
          case rel => exact ⟨i + 1, by omega, by go_num, Lib.hid (by
            rw [List.take_add_one, List.take_add_one, HT.out, HX.out, HY.out]), mm⟩
          case measure => first | omega | (simp [intOf]; omega)
        · go_upto_region 6 with fail
          have Lkl := lt_size kl
          have Lkl2 := lt_size kl2
          refine wp_pass (C := fun _ _ _ => False) (κ := fun i => [0, 0, 0, 1, 0, 0, 0, 1, 0].getD i 0) [0, 1, 2, 3, 4, 5, 6, 7, 8] (by kernel_rfl) (by kernel_rfl) (fun _ _ d _ _ h => by cases d <;> first | exact h | exact absurd h (hP _ _ _)) ?_
          (refine TD.val0 (v := ?v10) (by simp only [zA, zB, zC]; rfl) rfl ?hw10 (fun w1 => ?hy10) ?hn10; (case hw10 => rfl); (case hy10 => (go_simp; (try with_reducible rfl))); (try simp only [Act.put, zF, zG, zH]))
          (refine TD.val0 (v := ?v11) (by simp only [zA, zB, zC]; rfl) rfl ?hw11 (fun w1 => ?hy11) ?hn11; (case hw11 => rfl); (case hy11 => (go_simp; (try with_reducible rfl))); (try simp only [Act.put, zF, zG, zH]))
          (refine TD.val0 (v := ?v12) (by simp only [zA, zB, zC]; rfl) rfl ?hw12 (fun w1 => ?hy12) ?hn12; (case hw12 => rfl); (case hy12 => (go_simp; (try with_reducible rfl))); (try simp only [Act.put, zF, zG, zH]))
          (refine TD.load (v := ?v13) (p := ?p13) (Mod.refl _ _) (by simp only [zA, zB, zC]; rfl) rfl ?hw13 rfl ?hx13 (fun wq hSq => ?hy13) ?hn13; (case hw13 => rfl); (case hx13 => (simp only [Act.eval, zD, zA, zB, zC, zE]; (try rfl))); (case hy13 => (have klq := hSq.at kl (fun h => h); have kl2q := hSq.at kl2 (fun h => h); go_simp; (try with_reducible rfl))); (try simp only [Act.put, zF, zG, zH]))
          (refine TD.val0 (v := ?v14) (by simp only [zA, zB, zC]; rfl) rfl ?hw14 (fun w1 => ?hy14) ?hn14; (case hw14 => rfl); (case hy14 => (go_simp; (try with_reducible rfl))); (try simp only [Act.put, zF, zG, zH]))
          (refine TD.val0 (v := ?v15) (by simp only [zA, zB, zC]; rfl) rfl ?hw15 (fun w1 => ?hy15) ?hn15; (case hw15 => rfl); (case hy15 => (go_simp; (try with_reducible rfl))); (try simp only [Act.put, zF, zG, zH]))
          (refine TD.val0 (v := ?v16) (by simp only [zA, zB, zC]; rfl) rfl ?hw16 (fun w1 => ?hy16) ?hn16; (case hw16 => rfl); (case hy16 => (go_simp; (try with_reducible rfl))); (try simp only [Act.put, zF, zG, zH]))
          (refine TD.load (v := ?v17) (p := ?p17) (Mod.refl _ _) (by simp only [zA, zB, zC]; rfl) rfl ?hw17 rfl ?hx17 (fun wq hSq => ?hy17) ?hn17; (case hw17 => rfl); (case hx17 => (simp only [Act.eval, zD, zA, zB, zC, zE]; (try rfl))); (case hy17 => (have klq := hSq.at kl (fun h => h); have kl2q := hSq.at kl2 (fun h => h); go_simp; (try with_reducible rfl))); (try simp only [Act.put, zF, zG, zH]))
          (refine TD.val0 (v := ?v18) (by simp only [zA, zB, zC]; rfl) rfl ?hw18 (fun w1 => ?hy18) ?hn18; (case hw18 => rfl); (case hy18 => (go_simp; (try with_reducible rfl))); (try simp only [Act.put, zF, zG, zH]))
          refine TD.nil (fun w2 hr => ?_)
          replace kl := hr.mod.at kl (fun h => h)
          replace kl2 := hr.mod.at kl2 (fun h => h)
          have mm := hm.then0 hr.mod
          clear he he2 hle hle2
          go_wp2_with fail
          go_ret
          refine ⟨?_, mm⟩
          rw [show decide (l = l2) = false from decide_eq_false (fun e => by
            subst e
            have h1 := HX.out
            have h2 := HY.out
            rw [h1] at h2
            exact hxy (by injection h2))]
          rfl
      · have hll : l = l2 := by
          have := HT.out
          rw [List.take_of_length_le (by omega), List.take_of_length_le (by have := HL.out; omega)] at this
          exact this
        have HLL := Lib.hid hll
        clear hll HT
        go_wp2_with fail
        go_ret
        exact ⟨by rw [HLL.out]; simp, hm⟩
  · have hd0 : ((l.length : Int) != (l2.length : Int)) = true := by
      simp only [bne_iff_ne, ne_eq]
      omega
    have HD : Hid (decide (l = l2) = false) := Lib.hid (decide_eq_false (fun e => hl (by rw [e])))
    clear hl
    go_enter Tryz.func64, Tryz.ntmps64
    go_wp2_with fail
    go_ret
    exact ⟨by rw [HD.out]; rfl, Mod.refl _ _⟩
set_option maxRecDepth 20000 in
set_option maxHeartbeats 1600000 in
theorem sameS_c (a a2 : Option Addr) (l l2 : List Sg) (c c2 : Nat) (w : World) (h1 : SlAt sgc 64 w a l) (h2 : SlAt sgc 64 w a2 l2) (hb : l.length ≤ 1000000) : Calls Tryz.prog 33 #[.slice a l.length c, .slice a2 l2.length c2] w fun e w' => e = .returned (.bool (decide (l = l2))) ∧ Mod (fun _ => False) w w' := by
  by_cases hl : l.length = l2.length
  · have HL := Lib.hid hl
    have hd0 : ((l.length : Int) != (l2.length : Int)) = false := by simp [hl]
    clear hl
    go_enter Tryz.func33, Tryz.ntmps33
    go_wp2_with fail
    clear hd0
    go_loopw [5] (fun s5 ws => ∃ i : Nat, i ≤ l.length ∧ s5 = .int .i64 (i : Int) ∧ Hid (l.take i = l2.take i) ∧ Mod (fun _ => False) w ws) (fun s5 _ => l.length - (intOf s5).toNat)
    case atStart => exact ⟨0, by omega, rfl, Lib.hid (by simp), Mod.refl _ _⟩
    case round =>
      obtain ⟨i, hi, rfl, HT, hm⟩ := hrel
      by_cases hlt : i < l.length
      · obtain ⟨x, hx⟩ : ∃ x, l[i]? = some x := ⟨_, List.getElem?_eq_getElem hlt⟩
        obtain ⟨y, hy⟩ : ∃ y, l2[i]? = some y := ⟨_, List.getElem?_eq_getElem (by have := HL.out; omega)⟩
        obtain ⟨g, o, C, U, fr, rfl, kl, he, hle⟩ := (h1.mod0 hm).block hx
        obtain ⟨g2, o2, C2, U2, fr2, rfl, kl2, he2, hle2⟩ := (h2.mod0 hm).block hy
        have hlt2 : (i : Int) < (l2.length : Int) := by
          have := HL.out
          omega
        have HX := Lib.hid hx
        have HY := Lib.hid hy
        have H1 := Lib.hid h1
        have H2 := Lib.hid h2
        clear h1 h2 hx hy
        by_cases hxy : x = y
        · subst hxy
          go_upto_region 6 with fail
          have Lkl := lt_size kl
          have Lkl2 := lt_size kl2
          refine wp_pass (C := fun _ _ _ => False) (κ := fun i => [0, 0, 0, 1, 0, 0, 0, 1, 0].getD i 0) [0, 1, 2, 3, 4, 5, 6, 7, 8] (by kernel_rfl) (by kernel_rfl) (fun _ _ d _ _ h => by cases d <;> first | exact h | exact absurd h (hP _ _ _)) ?_
          (refine TD.val0 (v := ?v19) (by simp only [zA, zB, zC]; rfl) rfl ?hw19 (fun w1 => ?hy19) ?hn19; (case hw19 => rfl); (case hy19 => (go_simp; (try with_reducible rfl))); (try simp only [Act.put, zF, zG, zH]))
          (refine TD.val0 (v := ?v20) (by simp only [zA, zB, zC]; rfl) rfl ?hw20 (fun w1 => ?hy20) ?hn20; (case hw20 => rfl); (case hy20 => (go_simp; (try with_reducible rfl))); (try simp only [Act.put, zF, zG, zH]))
          (refine TD.val0 (v := ?v21) (by simp only [zA, zB, zC]; rfl) rfl ?hw21 (fun w1 => ?hy21) ?hn21; (case hw21 => rfl); (case hy21 => (go_simp; (try with_reducible rfl))); (try simp only [Act.put, zF, zG, zH]))
          (refine TD.load (v := ?v22) (p := ?p22) (Mod.refl _ _) (by simp only [zA, zB, zC]; rfl) rfl ?hw22 rfl ?hx22 (fun wq hSq => ?hy22) ?hn22; (case hw22 => rfl); (case hx22 => (simp only [Act.eval, zD, zA, zB, zC, zE]; (try rfl))); (case hy22 => (have klq := hSq.at kl (fun h => h); have kl2q := hSq.at kl2 (fun h => h); go_simp; (try with_reducible rfl))); (try simp only [Act.put, zF, zG, zH]))
          (refine TD.val0 (v := ?v23) (by simp only [zA, zB, zC]; rfl) rfl ?hw23 (fun w1 => ?hy23) ?hn23; (case hw23 => rfl); (case hy23 => (go_simp; (try with_reducible rfl))); (try simp only [Act.put, zF, zG, zH]))
          (refine TD.val0 (v := ?v24) (by simp only [zA, zB, zC]; rfl) rfl ?hw24 (fun w1 => ?hy24) ?hn24; (case hw24 => rfl); (case hy24 => (go_simp; (try with_reducible rfl))); (try simp only [Act.put, zF, zG, zH]))
          (refine TD.val0 (v := ?v25) (by simp only [zA, zB, zC]; rfl) rfl ?hw25 (fun w1 => ?hy25) ?hn25; (case hw25 => rfl); (case hy25 => (go_simp; (try with_reducible rfl))); (try simp only [Act.put, zF, zG, zH]))
          (refine TD.load (v := ?v26) (p := ?p26) (Mod.refl _ _) (by simp only [zA, zB, zC]; rfl) rfl ?hw26 rfl ?hx26 (fun wq hSq => ?hy26) ?hn26; (case hw26 => rfl); (case hx26 => (simp only [Act.eval, zD, zA, zB, zC, zE]; (try rfl))); (case hy26 => (have klq := hSq.at kl (fun h => h); have kl2q := hSq.at kl2 (fun h => h); go_simp; (try with_reducible rfl))); (try simp only [Act.put, zF, zG, zH]))
          (refine TD.val0 (v := ?v27) (by simp only [zA, zB, zC]; rfl) rfl ?hw27 (fun w1 => ?hy27) ?hn27; (case hw27 => rfl); (case hy27 => (go_simp; (try with_reducible rfl))); (try simp only [Act.put, zF, zG, zH]))
          refine TD.nil (fun w2 hr => ?_)
          replace kl := hr.mod.at kl (fun h => h)
          replace kl2 := hr.mod.at kl2 (fun h => h)
          have mm := hm.then0 hr.mod
          clear he he2 hle hle2
          go_wp2_with fail
          go_roundw
          case rel => exact ⟨i + 1, by omega, by go_num, Lib.hid (by
            rw [List.take_add_one, List.take_add_one, HT.out, HX.out, HY.out]), mm⟩
          case measure => first | omega | (simp [intOf]; omega)
        · go_upto_region 6 with fail
          have Lkl := lt_size kl
          have Lkl2 := lt_size kl2
          refine wp_pass (C := fun _ _ _ => False) (κ := fun i => [0, 0, 0, 1, 0, 0, 0, 1, 0].getD i 0) [0, 1, 2, 3, 4, 5, 6, 7, 8] (by kernel_rfl) (by kernel_rfl) (fun _ _ d _ _ h => by cases d <;> first | exact h | exact absurd h (hP _ _ _)) ?_
          (refine TD.val0 (v := ?v28) (by simp only [zA, zB, zC]; rfl) rfl ?hw28 (fun w1 => ?hy28) ?hn28; (case hw28 => rfl); (case hy28 => (go_simp; (try with_reducible rfl))); (try simp only [Act.put, zF, zG, zH]))
          (refine TD.val0 (v := ?v29) (by simp only [zA, zB, zC]; rfl) rfl ?hw29 (fun w1 => ?hy29) ?hn29; (case hw29 => rfl); (case hy29 => (go_simp; (try with_reducible rfl))); (try simp only [Act.put, zF, zG, zH]))
          (refine TD.val0 (v := ?v30) (by simp only [zA, zB, zC]; rfl) rfl ?hw30 (fun w1 => ?hy30) ?hn30; (case hw30 => rfl); (case hy30 => (go_simp; (try with_reducible rfl))); (try simp only [Act.put, zF, zG, zH]))
          (refine TD.load (v := ?v31) (p := ?p31) (Mod.refl _ _) (by simp only [zA, zB, zC]; rfl) rfl ?hw31 rfl ?hx31 (fun wq hSq => ?hy31) ?hn31; (case hw31 => rfl); (case hx31 => (simp only [Act.eval, zD, zA, zB, zC, zE]; (try rfl))); (case hy31 => (have klq := hSq.at kl (fun h => h); have kl2q := hSq.at kl2 (fun h => h); go_simp; (try with_reducible rfl))); (try simp only [Act.put, zF, zG, zH]))
          (refine TD.val0 (v := ?v32) (by simp only [zA, zB, zC]; rfl) rfl ?hw32 (fun w1 => ?hy32) ?hn32; (case hw32 => rfl); (case hy32 => (go_simp; (try with_reducible rfl))); (try simp only [Act.put, zF, zG, zH]))
          (refine TD.val0 (v := ?v33) (by simp only [zA, zB, zC]; rfl) rfl ?hw33 (fun w1 => ?hy33) ?hn33; (case hw33 => rfl); (case hy33 => (go_simp; (try with_reducible rfl))); (try simp only [Act.put, zF, zG, zH]))
          (refine TD.val0 (v := ?v34) (by simp only [zA, zB, zC]; rfl) rfl ?hw34 (fun w1 => ?hy34) ?hn34; (case hw34 => rfl); (case hy34 => (go_simp; (try with_reducible rfl))); (try simp only [Act.put, zF, zG, zH]))
          (refine TD.load (v := ?v35) (p := ?p35) (Mod.refl _ _) (by simp only [zA, zB, zC]; rfl) rfl ?hw35 rfl ?hx35 (fun wq hSq => ?hy35) ?hn35; (case hw35 => rfl); (case hx35 => (simp only [Act.eval, zD, zA, zB, zC, zE]; (try rfl))); (case hy35 => (have klq := hSq.at kl (fun h => h); have kl2q := hSq.at kl2 (fun h => h); go_simp; (try with_reducible rfl))); (try simp only [Act.put, zF, zG, zH]))
          (refine TD.val0 (v := ?v36) (by simp only [zA, zB, zC]; rfl) rfl ?hw36 (fun w1 => ?hy36) ?hn36; (case hw36 => rfl); (case hy36 => (go_simp; (try with_reducible rfl))); (try simp only [Act.put, zF, zG, zH]))
          refine TD.nil (fun w2 hr => ?_)
          replace kl := hr.mod.at kl (fun h => h)
          replace kl2 := hr.mod.at kl2 (fun h => h)
          have mm := hm.then0 hr.mod
          clear he he2 hle hle2
          go_wp2_with fail
          go_ret
          refine ⟨?_, mm⟩
          rw [show decide (l = l2) = false from decide_eq_false (fun e => by
            subst e
            have h1 := HX.out
            have h2 := HY.out
            rw [h1] at h2
            exact hxy (by injection h2))]
          rfl
      · have hll : l = l2 := by
          have := HT.out
          rw [List.take_of_length_le (by omega), List.take_of_length_le (by have := HL.out; omega)] at this
          exact this
        have HLL := Lib.hid hll
        clear hll HT
        go_wp2_with fail
        go_ret
        exact ⟨by rw [HLL.out]; simp, hm⟩
  · have hd0 : ((l.length : Int) != (l2.length : Int)) = true := by
      simp only [bne_iff_ne, ne_eq]
      omega
    have HD : Hid (decide (l = l2) = false) := Lib.hid (decide_eq_false (fun e => hl (by rw [e])))
    clear hl
    go_enter Tryz.func33, Tryz.ntmps33
    go_wp2_with fail
    go_ret
    exact ⟨by rw [HD.out]; rfl, Mod.refl _ _⟩
set_option maxRecDepth 20000 in
set_option maxHeartbeats 1600000 in
theorem sameB_c (a a2 : Option Addr) (l l2 : List UInt8) (c c2 : Nat) (w : World) (h1 : SlAt uc 1 w a l) (h2 : SlAt uc 1 w a2 l2) (hb : l.length ≤ 1000000) : Calls Tryz.prog 63 #[.slice a l.length c, .slice a2 l2.length c2] w fun e w' => e = .returned (.bool (decide (l = l2))) ∧ Mod (fun _ => False) w w' := by
  by_cases hl : l.length = l2.length
  · have HL := Lib.hid hl
    have hd0 : ((l.length : Int) != (l2.length : Int)) = false := by simp [hl]
    clear hl
    go_enter Tryz.func63, Tryz.ntmps63
    go_wp2_with fail
    clear hd0
    go_loopw [5] (fun s5 ws => ∃ i : Nat, i ≤ l.length ∧ s5 = .int .i64 (i : Int) ∧ Hid (l.take i = l2.take i) ∧ Mod (fun _ => False) w ws) (fun s5 _ => l.length - (intOf s5).toNat)
    case atStart => exact ⟨0, by omega, rfl, Lib.hid (by simp), Mod.refl _ _⟩
    case round =>
      obtain ⟨i, hi, rfl, HT, hm⟩ := hrel
      by_cases hlt : i < l.length
      · obtain ⟨x, hx⟩ : ∃ x, l[i]? = some x := ⟨_, List.getElem?_eq_getElem hlt⟩
        obtain ⟨y, hy⟩ : ∃ y, l2[i]? = some y := ⟨_, List.getElem?_eq_getElem (by have := HL.out; omega)⟩
        obtain ⟨g, o, C, U, fr, rfl, kl, he⟩ := u8_at (h1.mod0 hm) hx
        obtain ⟨g2, o2, C2, U2, fr2, rfl, kl2, he2⟩ := u8_at (h2.mod0 hm) hy
        have hlt2 : (i : Int) < (l2.length : Int) := by
          have := HL.out
          omega
        have HX := Lib.hid hx
        have HY := Lib.hid hy
        have H1 := Lib.hid h1
        have H2 := Lib.hid h2
        clear h1 h2 hx hy
        by_cases hxy : x = y
        · have hd1 : ((x.toNat : Int) != (y.toNat : Int)) = false := by simp [hxy]
          have hd2 : (x.toNat != y.toNat) = false := by simp [hxy]
          have HXY := Lib.hid hxy
          clear hxy
          go_upto_region 6 with fail
          have Lkl := lt_size kl
          have Lkl2 := lt_size kl2
          refine wp_pass (C := fun _ _ _ => False) (κ := fun i => [0, 0, 0, 1, 0, 0, 0, 1, 0].getD i 0) [0, 1, 2, 3, 4, 5, 6, 7, 8] (by kernel_rfl) (by kernel_rfl) (fun _ _ d _ _ h => by cases d <;> first | exact h | exact absurd h (hP _ _ _)) ?_
          (refine TD.val0 (v := ?v37) (by simp only [zA, zB, zC]; rfl) rfl ?hw37 (fun w1 => ?hy37) ?hn37; (case hw37 => rfl); (case hy37 => (go_simp; (try with_reducible rfl))); (try simp only [Act.put, zF, zG, zH]))
          (refine TD.val0 (v := ?v38) (by simp only [zA, zB, zC]; rfl) rfl ?hw38 (fun w1 => ?hy38) ?hn38; (case hw38 => rfl); (case hy38 => (go_simp; (try with_reducible rfl))); (try simp only [Act.put, zF, zG, zH]))
          (refine TD.val0 (v := ?v39) (by simp only [zA, zB, zC]; rfl) rfl ?hw39 (fun w1 => ?hy39) ?hn39; (case hw39 => rfl); (case hy39 => (go_simp; (try with_reducible rfl))); (try simp only [Act.put, zF, zG, zH]))
          (refine TD.load (v := ?v40) (p := ?p40) (Mod.refl _ _) (by simp only [zA, zB, zC]; rfl) rfl ?hw40 rfl ?hx40 (fun wq hSq => ?hy40) ?hn40; (case hw40 => rfl); (case hx40 => (simp only [Act.eval, zD, zA, zB, zC, zE]; (try rfl))); (case hy40 => (have klq := hSq.at kl (fun h => h); have kl2q := hSq.at kl2 (fun h => h); go_simp; (try with_reducible rfl))); (try simp only [Act.put, zF, zG, zH]))
          (refine TD.val0 (v := ?v41) (by simp only [zA, zB, zC]; rfl) rfl ?hw41 (fun w1 => ?hy41) ?hn41; (case hw41 => rfl); (case hy41 => (go_simp; (try with_reducible rfl))); (try simp only [Act.put, zF, zG, zH]))
          (refine TD.val0 (v := ?v42) (by simp only [zA, zB, zC]; rfl) rfl ?hw42 (fun w1 => ?hy42) ?hn42; (case hw42 => rfl); (case hy42 => (go_simp; (try with_reducible rfl))); (try simp only [Act.put, zF, zG, zH]))
          (refine TD.val0 (v := ?v43) (by simp only [zA, zB, zC]; rfl) rfl ?hw43 (fun w1 => ?hy43) ?hn43; (case hw43 => rfl); (case hy43 => (go_simp; (try with_reducible rfl))); (try simp only [Act.put, zF, zG, zH]))
          (refine TD.load (v := ?v44) (p := ?p44) (Mod.refl _ _) (by simp only [zA, zB, zC]; rfl) rfl ?hw44 rfl ?hx44 (fun wq hSq => ?hy44) ?hn44; (case hw44 => rfl); (case hx44 => (simp only [Act.eval, zD, zA, zB, zC, zE]; (try rfl))); (case hy44 => (have klq := hSq.at kl (fun h => h); have kl2q := hSq.at kl2 (fun h => h); go_simp; (try with_reducible rfl))); (try simp only [Act.put, zF, zG, zH]))
          (refine TD.val0 (v := ?v45) (by simp only [zA, zB, zC]; rfl) rfl ?hw45 (fun w1 => ?hy45) ?hn45; (case hw45 => rfl); (case hy45 => (go_simp; (try with_reducible rfl))); (try simp only [Act.put, zF, zG, zH]))
          refine TD.nil (fun w2 hr => ?_)
          replace kl := hr.mod.at kl (fun h => h)
          replace kl2 := hr.mod.at kl2 (fun h => h)
          have mm := hm.then0 hr.mod
          clear he he2
          go_wp2_with fail
          go_roundw
          case rel => exact ⟨i + 1, by omega, by go_num, Lib.hid (by
            rw [List.take_add_one, List.take_add_one, HT.out, HX.out, HY.out, HXY.out]), mm⟩
          case measure => first | omega | (simp [intOf]; omega)
        · have hn : x.toNat ≠ y.toNat := fun e => hxy (UInt8.toNat_inj.1 e)
          have hd1 : ((x.toNat : Int) != (y.toNat : Int)) = true := by simp; omega
          have hd2 : (x.toNat != y.toNat) = true := by simp [hn]
          go_upto_region 6 with fail
          have Lkl := lt_size kl
          have Lkl2 := lt_size kl2
          refine wp_pass (C := fun _ _ _ => False) (κ := fun i => [0, 0, 0, 1, 0, 0, 0, 1, 0].getD i 0) [0, 1, 2, 3, 4, 5, 6, 7, 8] (by kernel_rfl) (by kernel_rfl) (fun _ _ d _ _ h => by cases d <;> first | exact h | exact absurd h (hP _ _ _)) ?_
          (refine TD.val0 (v := ?v46) (by simp only [zA, zB, zC]; rfl) rfl ?hw46 (fun w1 => ?hy46) ?hn46; (case hw46 => rfl); (case hy46 => (go_simp; (try with_reducible rfl))); (try simp only [Act.put, zF, zG, zH]))
          (refine TD.val0 (v := ?v47) (by simp only [zA, zB, zC]; rfl) rfl ?hw47 (fun w1 => ?hy47) ?hn47; (case hw47 => rfl); (case hy47 => (go_simp; (try with_reducible rfl))); (try simp only [Act.put, zF, zG, zH]))
          (refine TD.val0 (v := ?v48) (by simp only [zA, zB, zC]; rfl) rfl ?hw48 (fun w1 => ?hy48) ?hn48; (case hw48 => rfl); (case hy48 => (go_simp; (try with_reducible rfl))); (try simp only [Act.put, zF, zG, zH]))
          (refine TD.load (v := ?v49) (p := ?p49) (Mod.refl _ _) (by simp only [zA, zB, zC]; rfl) rfl ?hw49 rfl ?hx49 (fun wq hSq => ?hy49) ?hn49; (case hw49 => rfl); (case hx49 => (simp only [Act.eval, zD, zA, zB, zC, zE]; (try rfl))); (case hy49 => (have klq := hSq.at kl (fun h => h); have kl2q := hSq.at kl2 (fun h => h); go_simp; (try with_reducible rfl))); (try simp only [Act.put, zF, zG, zH]))
          (refine TD.val0 (v := ?v50) (by simp only [zA, zB, zC]; rfl) rfl ?hw50 (fun w1 => ?hy50) ?hn50; (case hw50 => rfl); (case hy50 => (go_simp; (try with_reducible rfl))); (try simp only [Act.put, zF, zG, zH]))
          (refine TD.val0 (v := ?v51) (by simp only [zA, zB, zC]; rfl) rfl ?hw51 (fun w1 => ?hy51) ?hn51; (case hw51 => rfl); (case hy51 => (go_simp; (try with_reducible rfl))); (try simp only [Act.put, zF, zG, zH]))
          (refine TD.val0 (v := ?v52) (by simp only [zA, zB, zC]; rfl) rfl ?hw52 (fun w1 => ?hy52) ?hn52; (case hw52 => rfl); (case hy52 => (go_simp; (try with_reducible rfl))); (try simp only [Act.put, zF, zG, zH]))
          (refine TD.load (v := ?v53) (p := ?p53) (Mod.refl _ _) (by simp only [zA, zB, zC]; rfl) rfl ?hw53 rfl ?hx53 (fun wq hSq => ?hy53) ?hn53; (case hw53 => rfl); (case hx53 => (simp only [Act.eval, zD, zA, zB, zC, zE]; (try rfl))); (case hy53 => (have klq := hSq.at kl (fun h => h); have kl2q := hSq.at kl2 (fun h => h); go_simp; (try with_reducible rfl))); (try simp only [Act.put, zF, zG, zH]))
          (refine TD.val0 (v := ?v54) (by simp only [zA, zB, zC]; rfl) rfl ?hw54 (fun w1 => ?hy54) ?hn54; (case hw54 => rfl); (case hy54 => (go_simp; (try with_reducible rfl))); (try simp only [Act.put, zF, zG, zH]))
          refine TD.nil (fun w2 hr => ?_)
          replace kl := hr.mod.at kl (fun h => h)
          replace kl2 := hr.mod.at kl2 (fun h => h)
          have mm := hm.then0 hr.mod
          clear he he2
          go_wp2_with fail
          go_ret
          refine ⟨?_, mm⟩
          rw [show decide (l = l2) = false from decide_eq_false (fun e => by
            subst e
            have h1 := HX.out
            have h2 := HY.out
            rw [h1] at h2
            exact hxy (by injection h2))]
          rfl
      · have hll : l = l2 := by
          have := HT.out
          rw [List.take_of_length_le (by omega), List.take_of_length_le (by have := HL.out; omega)] at this
          exact this
        have HLL := Lib.hid hll
        clear hll HT
        go_wp2_with fail
        go_ret
        exact ⟨by rw [HLL.out]; simp, hm⟩
  · have hd0 : ((l.length : Int) != (l2.length : Int)) = true := by
      simp only [bne_iff_ne, ne_eq]
      omega
    have HD : Hid (decide (l = l2) = false) := Lib.hid (decide_eq_false (fun e => hl (by rw [e])))
    clear hl
    go_enter Tryz.func63, Tryz.ntmps63
    go_wp2_with fail
    go_ret
    exact ⟨by rw [HD.out]; rfl, Mod.refl _ _⟩
end Go.Proofs.YtofpnmoeimjnnaaGreat
namespace Go.Proofs.YtofpnmoeimjnnaaGreat
open Go.RowKit
open Go.ChangeMaps (setBlock)
set_option linter.unusedSimpArgs false
set_option linter.unusedVariables false
attribute [local go_sem] cell_blk frozen_blk one_int one_bool one_ptr one_slice one_map Value.cells
def Tk {α : Type} (e : Nat) (res : PR α) (x : α) (k' e' : Nat) : Prop := (e = 0 → match res with | .ok (y, k2) => x = y ∧ k' = k2 ∧ e' = 0 | .error n => e' = n) ∧ (e ≠ 0 → e' = e)
theorem Tk.bad {α : Type} {e : Nat} {res : PR α} {x : α} {k' : Nat} (h : e ≠ 0) : Tk e res x k' e := ⟨fun h0 => absurd h0 h, fun _ => rfl⟩
theorem Tk.good {α : Type} {res : PR α} {x : α} {k' : Nat} (h : res = .ok (x, k')) : Tk 0 res x k' 0 := ⟨fun _ => by rw [h]; exact ⟨rfl, rfl, rfl⟩, fun h => absurd rfl h⟩
theorem Tk.err {α : Type} {res : PR α} {x : α} {k' n : Nat} (h : res = .error n) : Tk 0 res x k' n := ⟨fun _ => by rw [h], fun h => absurd rfl h⟩
def tkC (a : Option Addr) (n c k e : Nat) : Array Value := #[.slice a n c, .int .i64 (k : Int), .int .i64 (e : Int)]
def TkA (p : Nat) (a : Option Addr) (l : List UInt8) (c k e : Nat) (w : World) : Prop :=
  w.heap[p]? = some (.cells (tkC a l.length c k e) 207 (0, 0)) ∧ SlAt uc 1 w a l ∧ k ≤ l.length ∧ l.length ≤ c ∧ (a = none → c = 0) ∧ (∀ x, a = some x → x.block ≠ p) ∧ l.length ≤ 1000000
theorem TkA.mod0 {p : Nat} {a : Option Addr} {l : List UInt8} {c k e : Nat} {w w' : World} (h : TkA p a l c k e w) (m : Mod (fun _ => False) w w') : TkA p a l c k e w' := by
  obtain ⟨h1, h2, h3⟩ := h
  exact ⟨m.at0 h1, h2.mod0 m, h3⟩
theorem TkA.modN {p q : Nat} {a : Option Addr} {l : List UInt8} {c k e k0 e0 : Nat} {w0 w w' : World} (h0 : TkA p a l c k0 e0 w0) (hq : w0.heap.size ≤ q) (h : TkA p a l c k e w) (m : Mod (fun i => i = q) w w') : TkA p a l c k e w' := by
  obtain ⟨h1, h2, h3⟩ := h
  have hp := lt_size h0.1
  refine ⟨m.at_ne h1 (by omega), ?_, h3⟩
  rcases h0.2.1 with rfl | ⟨b, o, C, U, fr, rfl, kb, _⟩
  · exact .inl rfl
  · have := lt_size kb
    exact h2.mod m (fun b' o' e he => by cases e; omega)
def TkP {α : Type} (p : Nat) (a : Option Addr) (l : List UInt8) (c e : Nat) (w : World) (res : PR α) (V : Nat → World → Value → α → Prop) (en : Ending) (w' : World) : Prop :=
  ∃ v x k' e', en = .returned v ∧ V w.heap.size w' v x ∧ Tk e res x k' e' ∧ TkA p a l c k' e' w' ∧ Mod (fun i => i = p) w w'
theorem TkP.noOut {α : Type} {p : Nat} {a : Option Addr} {l : List UInt8} {c e : Nat} {w : World} {res : PR α} {V : Nat → World → Value → α → Prop} {w' : World} (h : TkP p a l c e w res V .outgrown w') : False := by
  obtain ⟨_, _, _, _, h, _⟩ := h
  cases h
theorem TkP.noPan {α : Type} {p : Nat} {a : Option Addr} {l : List UInt8} {c e : Nat} {w : World} {res : PR α} {V : Nat → World → Value → α → Prop} {w' : World} {ch : List PanicEntry} (h : TkP p a l c e w res V (.panicked ch) w') : False := by
  obtain ⟨_, _, _, _, h, _⟩ := h
  cases h
set_option maxRecDepth 20000 in
set_option maxHeartbeats 3200000 in
theorem tbytes_c {p : Nat} {a : Option Addr} {l : List UInt8} {c k e : Nat} (n : Nat) (w : World) (h : TkA p a l c k e w) (hn : n ≤ 1000000) :
    Calls Tryz.prog 95 #[pV p, .int .i64 (n : Int)] w (TkP p a l c e w (pBytes l k n) (fun b w' v x => SlOwn uc 1 5 w' b v x ∧ (x = [] ∧ v = .slice none 0 0 ∨ x.length = n))) := by
  have HT := Lib.hid h
  obtain ⟨kp, hl, hk, hc, hna, hap, hln⟩ := h
  have HL := Lib.hid (And.intro hl (And.intro hap hna))
  obtain ⟨ll, hll⟩ : ∃ ll, l.length = ll := ⟨_, rfl⟩
  have HLL := Lib.hid hll
  unfold tkC at kp
  rw [hll] at kp hk hc hln
  clear hl hap hna hll
  go_enter Tryz.func95, Tryz.ntmps95
  by_cases he : e = 0
  · subst he
    have hne : ((0 : Int) != 0) = false := rfl
    obtain ⟨d, hd0⟩ : ∃ d, ll - k = d := ⟨_, rfl⟩
    have hdw : IntKind.i64.wrap ((ll : Int) - (k : Int)) = (d : Int) := by rw [IntKind.wrap_i64]; omega
    by_cases hs : k + n ≤ ll
    · have hd : decide (d < n) = false := decide_eq_false (by omega)
      have hd1 : decide ((n : Int) > (d : Int)) = false := decide_eq_false (by omega)
      obtain ⟨kn, hkn⟩ : ∃ kn, k + n = kn := ⟨_, rfl⟩
      have hka : IntKind.i64.wrap ((k : Int) + (n : Int)) = (kn : Int) := by rw [IntKind.wrap_i64]; omega
      have hks : IntKind.i64.wrap ((kn : Int) - (n : Int)) = (k : Int) := by rw [IntKind.wrap_i64]; omega
      obtain ⟨sp, hsp, hsat, -, -⟩ := sl_part (P := Tryz.prog) bytesT (c := c) (k := k) (m := k + n) HL.out.1 (by omega) (by rw [HLL.out]; exact hs) (by rw [HLL.out]; exact hc) HL.out.2.2
      rw [HLL.out, show k + n - k = n by omega, hkn] at hsp
      rw [show k + n - k = n by omega] at hsat
      have HSAT := Lib.hid hsat
      have HTL : Hid (((l.drop k).take n).length = n) := Lib.hid (by rw [List.length_take, List.length_drop, HLL.out]; omega)
      have HKN : Hid (pBytes l k n = .ok ((l.drop k).take n, kn) ∧ kn ≤ ll) := Lib.hid ⟨by unfold pBytes; rw [if_pos (by rw [HLL.out]; exact hs), hkn], by omega⟩
      clear hd0 hkn hsat
      go_upto_region 3 with fail
      have Lkp := lt_size kp
      refine wp_pass (C := fun _ _ _ => False) (κ := fun i => [0, 0, 0, 0, 1, 0, 0, 0, 0, 1, 0, 0].getD i 0) [0, 1, 2, 3, 4, 5, 6, 7, 8, 9, 10, 11] (by kernel_rfl) (by kernel_rfl) (fun _ _ d _ _ h => by cases d <;> first | exact h | exact absurd h (hP _ _ _)) ?_
      (refine TD.val0 (v := ?v1) (by simp only [zA, zB, zC]; rfl) rfl ?hw1 (fun w1 => ?hy1) ?hn1; (case hw1 => rfl); (case hy1 => (go_simp; (try with_reducible rfl))); (try simp only [Act.put, zF, zG, zH]))
      (refine TD.val0 (v := ?v2) (by simp only [zA, zB, zC]; rfl) rfl ?hw2 (fun w1 => ?hy2) ?hn2; (case hw2 => rfl); (case hy2 => (go_simp; (try with_reducible rfl))); (try simp only [Act.put, zF, zG, zH]))
      (refine TD.val0 (v := ?v3) (by simp only [zA, zB, zC]; rfl) rfl ?hw3 (fun w1 => ?hy3) ?hn3; (case hw3 => rfl); (case hy3 => (go_simp; (try with_reducible rfl))); (try simp only [Act.put, zF, zG, zH]))
      (refine TD.val0 (v := ?v4) (by simp only [zA, zB, zC]; rfl) rfl ?hw4 (fun w1 => ?hy4) ?hn4; (case hw4 => rfl); (case hy4 => (go_simp; (try with_reducible rfl))); (try simp only [Act.put, zF, zG, zH]))
      (refine TD.load (v := ?v5) (p := ?p5) (Mod.refl _ _) (by simp only [zA, zB, zC]; rfl) rfl ?hw5 rfl ?hx5 (fun wq hSq => ?hy5) ?hn5; (case hw5 => rfl); (case hx5 => (simp only [Act.eval, zD, zA, zB, zC, zE]; (try rfl))); (case hy5 => (have kpq := hSq.at kp (fun h => h); go_simp; (try with_reducible rfl))); (try simp only [Act.put, zF, zG, zH]))
      (refine TD.val0 (v := ?v6) (by simp only [zA, zB, zC]; rfl) rfl ?hw6 (fun w1 => ?hy6) ?hn6; (case hw6 => rfl); (case hy6 => (go_simp; (try with_reducible rfl))); (try simp only [Act.put, zF, zG, zH]))
      (refine TD.val0 (v := ?v7) (by simp only [zA, zB, zC]; rfl) rfl ?hw7 (fun w1 => ?hy7) ?hn7; (case hw7 => rfl); (case hy7 => (go_simp; (try with_reducible rfl))); (try simp only [Act.put, zF, zG, zH]))
      (refine TD.val0 (v := ?v8) (by simp only [zA, zB, zC]; rfl) rfl ?hw8 (fun w1 => ?hy8) ?hn8; (case hw8 => rfl); (case hy8 => (go_simp; (try with_reducible rfl))); (try simp only [Act.put, zF, zG, zH]))
      (refine TD.val0 (v := ?v9) (by simp only [zA, zB, zC]; rfl) rfl ?hw9 (fun w1 => ?hy9) ?hn9; (case hw9 => rfl); (case hy9 => (go_simp; (try with_reducible rfl))); (try simp only [Act.put, zF, zG, zH]))
      (refine TD.load (v := ?v10) (p := ?p10) (Mod.refl _ _) (by simp only [zA, zB, zC]; rfl) rfl ?hw10 rfl ?hx10 (fun wq hSq => ?hy10) ?hn10; (case hw10 => rfl); (case hx10 => (simp only [Act.eval, zD, zA, zB, zC, zE]; (try rfl))); (case hy10 => (have kpq := hSq.at kp (fun h => h); go_simp; (try with_reducible rfl))); (try simp only [Act.put, zF, zG, zH]))
      (refine TD.val0 (v := ?v11) (by simp only [zA, zB, zC]; rfl) rfl ?hw11 (fun w1 => ?hy11) ?hn11; (case hw11 => rfl); (case hy11 => (go_simp; (try with_reducible rfl))); (try simp only [Act.put, zF, zG, zH]))
      (refine TD.val0 (v := ?v12) (by simp only [zA, zB, zC]; rfl) rfl ?hw12 (fun w1 => ?hy12) ?hn12; (case hw12 => rfl); (case hy12 => (go_simp; (try with_reducible rfl))); (try simp only [Act.put, zF, zG, zH]))
      refine TD.nil (fun w1 hr => ?_)
      replace kp := hr.mod.at kp (fun h => h)
      have m1 := hr.mod
      clear hr
      go_upto_region 6 with fail
      have Lkp := lt_size kp
      refine wp_pass0 (C := fun _ _ _ => False) (κ := fun i => [0, 0, 0, 0, 1, 0, 0, 0, 0, 5].getD i 0) [0, 1, 2, 3, 4, 5, 6, 7, 8, 9] (by kernel_rfl) (by kernel_rfl) (fun _ _ d _ _ h => by cases d <;> first | exact h | exact absurd h (hP _ _ _)) ?_
      (refine TD.val0 (v := ?v13) (by simp only [zA, zB, zC]; rfl) rfl ?hw13 (fun w1 => ?hy13) ?hn13; (case hw13 => rfl); (case hy13 => (go_simp; (try with_reducible rfl))); (try simp only [Act.put, zF, zG, zH]))
      (refine TD.val0 (v := ?v14) (by simp only [zA, zB, zC]; rfl) rfl ?hw14 (fun w1 => ?hy14) ?hn14; (case hw14 => rfl); (case hy14 => (go_simp; (try with_reducible rfl))); (try simp only [Act.put, zF, zG, zH]))
      (refine TD.val0 (v := ?v15) (by simp only [zA, zB, zC]; rfl) rfl ?hw15 (fun w1 => ?hy15) ?hn15; (case hw15 => rfl); (case hy15 => (go_simp; (try with_reducible rfl))); (try simp only [Act.put, zF, zG, zH]))
      (refine TD.val0 (v := ?v16) (by simp only [zA, zB, zC]; rfl) rfl ?hw16 (fun w1 => ?hy16) ?hn16; (case hw16 => rfl); (case hy16 => (go_simp; (try with_reducible rfl))); (try simp only [Act.put, zF, zG, zH]))
      (refine TD.load (v := ?v17) (p := ?p17) (Mod.refl _ _) (by simp only [zA, zB, zC]; rfl) rfl ?hw17 rfl ?hx17 (fun wq hSq => ?hy17) ?hn17; (case hw17 => rfl); (case hx17 => (simp only [Act.eval, zD, zA, zB, zC, zE]; (try rfl))); (case hy17 => (have kpq := hSq.at kp (fun h => h); go_simp; (try with_reducible rfl))); (try simp only [Act.put, zF, zG, zH]))
      (refine TD.val0 (v := ?v18) (by simp only [zA, zB, zC]; rfl) rfl ?hw18 (fun w1 => ?hy18) ?hn18; (case hw18 => rfl); (case hy18 => (go_simp; (try with_reducible rfl))); (try simp only [Act.put, zF, zG, zH]))
      (refine TD.val0 (v := ?v19) (by simp only [zA, zB, zC]; rfl) rfl ?hw19 (fun w1 => ?hy19) ?hn19; (case hw19 => rfl); (case hy19 => (go_simp; (try with_reducible rfl))); (try simp only [Act.put, zF, zG, zH]))
      (refine TD.val0 (v := ?v20) (by simp only [zA, zB, zC]; rfl) rfl ?hw20 (fun w1 => ?hy20) ?hn20; (case hw20 => rfl); (case hy20 => (go_simp; (try with_reducible rfl))); (try simp only [Act.put, zF, zG, zH]))
      (refine TD.val0 (v := ?v21) (by simp only [zA, zB, zC]; rfl) rfl ?hw21 (fun w1 => ?hy21) ?hn21; (case hw21 => rfl); (case hy21 => (go_simp; (try with_reducible rfl))); (try simp only [Act.put, zF, zG, zH]))
      refine TD.eff (by simp only [zA, zB, zC]; rfl) rfl (fun wE hr => ?_)
      replace kp := hr.mod.at0 kp
      have mE := hr.mod
      (refine eff_store (X := ?X22) (Y := ?Y22) (w' := ?w22) (by simp only [zA, zB, zC]; rfl) ?hw22 rfl ?hx22 ?hz22 ?hy22 ?hn22; (case hw22 => rfl); (case hx22 => (simp only [Act.eval, zD, zA, zB, zC, zE]; (try rfl))); (case hz22 => (simp only [Act.eval, zD, zA, zB, zC, zE]; (try rfl))); (case hy22 => (go_simp; (try with_reducible rfl))))
      (first | refine TE.nil_set kp (fun w2 kp mS => ?_) | refine TE.nil_setCell kp (fun w2 kp mS => ?_))
      (try simp only [Array.setIfInBounds, zF, zG, zH] at kp)
      have m2 := (m1.mono (T := fun i => i = p) (fun _ _ h => h.elim)).trans ((mE.mono (fun _ _ h => h.elim)).trans mS)
      clear hr mE mS hka m1 hdw hd hd1
      go_upto_region 7 with fail
      have Lkp := lt_size kp
      refine wp_pass (C := fun _ _ _ => False) (κ := fun i => [0, 0, 0, 1, 0, 0, 0, 1, 0, 0, 0, 0, 0, 1, 0, 5, 0].getD i 0) [0, 1, 2, 3, 4, 5, 6, 7, 8, 9, 10, 11, 12, 13, 14, 15, 16] (by kernel_rfl) (by kernel_rfl) (fun _ _ d _ _ h => by cases d <;> first | exact h | exact absurd h (hP _ _ _)) ?_
      (refine TD.val0 (v := ?v23) (by simp only [zA, zB, zC]; rfl) rfl ?hw23 (fun w1 => ?hy23) ?hn23; (case hw23 => rfl); (case hy23 => (go_simp; (try with_reducible rfl))); (try simp only [Act.put, zF, zG, zH]))
      (refine TD.val0 (v := ?v24) (by simp only [zA, zB, zC]; rfl) rfl ?hw24 (fun w1 => ?hy24) ?hn24; (case hw24 => rfl); (case hy24 => (go_simp; (try with_reducible rfl))); (try simp only [Act.put, zF, zG, zH]))
      (refine TD.val0 (v := ?v25) (by simp only [zA, zB, zC]; rfl) rfl ?hw25 (fun w1 => ?hy25) ?hn25; (case hw25 => rfl); (case hy25 => (go_simp; (try with_reducible rfl))); (try simp only [Act.put, zF, zG, zH]))
      (refine TD.load (v := ?v26) (p := ?p26) (Mod.refl _ _) (by simp only [zA, zB, zC]; rfl) rfl ?hw26 rfl ?hx26 (fun wq hSq => ?hy26) ?hn26; (case hw26 => rfl); (case hx26 => (simp only [Act.eval, zD, zA, zB, zC, zE]; (try rfl))); (case hy26 => (have kpq := hSq.at kp (fun h => h); go_simp; (try with_reducible rfl))); (try simp only [Act.put, zF, zG, zH]))
      (refine TD.val0 (v := ?v27) (by simp only [zA, zB, zC]; rfl) rfl ?hw27 (fun w1 => ?hy27) ?hn27; (case hw27 => rfl); (case hy27 => (go_simp; (try with_reducible rfl))); (try simp only [Act.put, zF, zG, zH]))
      (refine TD.val0 (v := ?v28) (by simp only [zA, zB, zC]; rfl) rfl ?hw28 (fun w1 => ?hy28) ?hn28; (case hw28 => rfl); (case hy28 => (go_simp; (try with_reducible rfl))); (try simp only [Act.put, zF, zG, zH]))
      (refine TD.val0 (v := ?v29) (by simp only [zA, zB, zC]; rfl) rfl ?hw29 (fun w1 => ?hy29) ?hn29; (case hw29 => rfl); (case hy29 => (go_simp; (try with_reducible rfl))); (try simp only [Act.put, zF, zG, zH]))
      (refine TD.load (v := ?v30) (p := ?p30) (Mod.refl _ _) (by simp only [zA, zB, zC]; rfl) rfl ?hw30 rfl ?hx30 (fun wq hSq => ?hy30) ?hn30; (case hw30 => rfl); (case hx30 => (simp only [Act.eval, zD, zA, zB, zC, zE]; (try rfl))); (case hy30 => (have kpq := hSq.at kp (fun h => h); go_simp; (try with_reducible rfl))); (try simp only [Act.put, zF, zG, zH]))
      (refine TD.val0 (v := ?v31) (by simp only [zA, zB, zC]; rfl) rfl ?hw31 (fun w1 => ?hy31) ?hn31; (case hw31 => rfl); (case hy31 => (go_simp; (try with_reducible rfl))); (try simp only [Act.put, zF, zG, zH]))
      (refine TD.val0 (v := ?v32) (by simp only [zA, zB, zC]; rfl) rfl ?hw32 (fun w1 => ?hy32) ?hn32; (case hw32 => rfl); (case hy32 => (go_simp; (try with_reducible rfl))); (try simp only [Act.put, zF, zG, zH]))
      (refine TD.val0 (v := ?v33) (by simp only [zA, zB, zC]; rfl) rfl ?hw33 (fun w1 => ?hy33) ?hn33; (case hw33 => rfl); (case hy33 => (go_simp; (try with_reducible rfl))); (try simp only [Act.put, zF, zG, zH]))
      (refine TD.val0 (v := ?v34) (by simp only [zA, zB, zC]; rfl) rfl ?hw34 (fun w1 => ?hy34) ?hn34; (case hw34 => rfl); (case hy34 => (go_simp; (try with_reducible rfl))); (try simp only [Act.put, zF, zG, zH]))
      (refine TD.val0 (v := ?v35) (by simp only [zA, zB, zC]; rfl) rfl ?hw35 (fun w1 => ?hy35) ?hn35; (case hw35 => rfl); (case hy35 => (go_simp; (try with_reducible rfl))); (try simp only [Act.put, zF, zG, zH]))
      (refine TD.load (v := ?v36) (p := ?p36) (Mod.refl _ _) (by simp only [zA, zB, zC]; rfl) rfl ?hw36 rfl ?hx36 (fun wq hSq => ?hy36) ?hn36; (case hw36 => rfl); (case hx36 => (simp only [Act.eval, zD, zA, zB, zC, zE]; (try rfl))); (case hy36 => (have kpq := hSq.at kp (fun h => h); go_simp; (try with_reducible rfl))); (try simp only [Act.put, zF, zG, zH]))
      (refine TD.slice (by simp only [zA, zB, zC]; rfl) rfl ?hw37 rfl ?hs37 ?hl37 ?hh37 ?hm37 hsp ?hn37; (case hw37 => rfl); (case hs37 => (simp only [Act.eval, zD, zA, zB, zC, zE]; (try rfl))); (case hl37 => first | rfl | (simp only [Option.map_some, Act.eval, zD, zA, zB, zC, zE]; (try rfl))); (case hh37 => first | rfl | (simp only [Option.map_some, Act.eval, zD, zA, zB, zC, zE]; (try rfl))); (case hm37 => rfl); (try simp only [Act.put, zF, zG, zH]))
      refine TD.eff (by simp only [zA, zB, zC]; rfl) rfl (fun w3 hr => ?_)
      replace kp := hr.mod.at kp (fun h => h)
      have m3 := m2.then0 hr.mod
      have m3s : w.heap.size ≤ w3.heap.size := m3.size
      have HS3 : Hid (SlAt uc 1 w3 sp ((l.drop k).take n)) := Lib.hid (HSAT.out _ (HL.out.1.modB m3 HL.out.2.1))
      clear hr hsp hks
      obtain ⟨v4, w4, hap, hO4, m4, hn4⟩ := SlOwn.append bytesT (base := w3.heap.size) (c := c - k) (SlOwn.nil w3 _) HS3.out (by rw [HTL.out]; simp; omega) (by decide) (Nat.le_refl _) 22
      rw [HTL.out] at hap
      rw [List.nil_append] at hO4
      have hn4' : Mod (fun i => i = p) w w4 := m3.then m4 (fun i hi e => by cases e)
      have HF : Hid (SlOwn uc 1 5 w4 w3.heap.size v4 ((l.drop k).take n) ∧ w4.heap[p]? = some (.cells (tkC a ll c kn 0) 207 (0, 0)) ∧ Mod (fun i => i = p) w w4) := Lib.hid ⟨hO4, m4.at kp (fun e => by cases e), hn4'⟩
      clear hO4 m4 hn4 hn4' m3 m2 kp
      (refine eff_append (by simp only [zA, zB, zC]; rfl) ?hw39 rfl ?hx39 ?hz39 hap ?hn39; (case hw39 => rfl); (case hx39 => (simp only [Act.eval, zD, zA, zB, zC, zE]; (try rfl))); (case hz39 => (simp only [Act.eval, zD, zA, zB, zC, zE]; (try rfl))); (try simp only [Act.put, zF, zG, zH]))
      (refine TE.val0 (v := ?v40) (by simp only [zA, zB, zC]; rfl) ?hw40 (fun w1 => ?hy40) ?hn40; (case hw40 => rfl); (case hy40 => (go_simp; (try with_reducible rfl))); (try simp only [Act.put, zF, zG, zH]))
      refine TE.nil ?_
      go_wp2_with fail
      go_ret
      refine ⟨_, _, kn, 0, rfl, ⟨SlOwn.low HF.out.1 m3s, .inr HTL.out⟩, Tk.good HKN.out.1, ?_, HF.out.2.2⟩
      rw [TkA, HLL.out]
      exact ⟨HF.out.2.1, HL.out.1.modB HF.out.2.2 HL.out.2.1, HKN.out.2, hc, HL.out.2.2, HL.out.2.1, hln⟩
    · have hd : decide (d < n) = true := decide_eq_true (by omega)
      have hd1 : decide ((n : Int) > (d : Int)) = true := decide_eq_true (by omega)
      have HE : Hid (pBytes l k n = .error 5) := Lib.hid (by unfold pBytes; rw [if_neg (by rw [HLL.out]; exact hs)])
      clear hd0
      go_upto_region 3 with fail
      have Lkp := lt_size kp
      refine wp_pass (C := fun _ _ _ => False) (κ := fun i => [0, 0, 0, 0, 1, 0, 0, 0, 0, 1, 0, 0].getD i 0) [0, 1, 2, 3, 4, 5, 6, 7, 8, 9, 10, 11] (by kernel_rfl) (by kernel_rfl) (fun _ _ d _ _ h => by cases d <;> first | exact h | exact absurd h (hP _ _ _)) ?_
      (refine TD.val0 (v := ?v41) (by simp only [zA, zB, zC]; rfl) rfl ?hw41 (fun w1 => ?hy41) ?hn41; (case hw41 => rfl); (case hy41 => (go_simp; (try with_reducible rfl))); (try simp only [Act.put, zF, zG, zH]))
      (refine TD.val0 (v := ?v42) (by simp only [zA, zB, zC]; rfl) rfl ?hw42 (fun w1 => ?hy42) ?hn42; (case hw42 => rfl); (case hy42 => (go_simp; (try with_reducible rfl))); (try simp only [Act.put, zF, zG, zH]))
      (refine TD.val0 (v := ?v43) (by simp only [zA, zB, zC]; rfl) rfl ?hw43 (fun w1 => ?hy43) ?hn43; (case hw43 => rfl); (case hy43 => (go_simp; (try with_reducible rfl))); (try simp only [Act.put, zF, zG, zH]))
      (refine TD.val0 (v := ?v44) (by simp only [zA, zB, zC]; rfl) rfl ?hw44 (fun w1 => ?hy44) ?hn44; (case hw44 => rfl); (case hy44 => (go_simp; (try with_reducible rfl))); (try simp only [Act.put, zF, zG, zH]))
      (refine TD.load (v := ?v45) (p := ?p45) (Mod.refl _ _) (by simp only [zA, zB, zC]; rfl) rfl ?hw45 rfl ?hx45 (fun wq hSq => ?hy45) ?hn45; (case hw45 => rfl); (case hx45 => (simp only [Act.eval, zD, zA, zB, zC, zE]; (try rfl))); (case hy45 => (have kpq := hSq.at kp (fun h => h); go_simp; (try with_reducible rfl))); (try simp only [Act.put, zF, zG, zH]))
      (refine TD.val0 (v := ?v46) (by simp only [zA, zB, zC]; rfl) rfl ?hw46 (fun w1 => ?hy46) ?hn46; (case hw46 => rfl); (case hy46 => (go_simp; (try with_reducible rfl))); (try simp only [Act.put, zF, zG, zH]))
      (refine TD.val0 (v := ?v47) (by simp only [zA, zB, zC]; rfl) rfl ?hw47 (fun w1 => ?hy47) ?hn47; (case hw47 => rfl); (case hy47 => (go_simp; (try with_reducible rfl))); (try simp only [Act.put, zF, zG, zH]))
      (refine TD.val0 (v := ?v48) (by simp only [zA, zB, zC]; rfl) rfl ?hw48 (fun w1 => ?hy48) ?hn48; (case hw48 => rfl); (case hy48 => (go_simp; (try with_reducible rfl))); (try simp only [Act.put, zF, zG, zH]))
      (refine TD.val0 (v := ?v49) (by simp only [zA, zB, zC]; rfl) rfl ?hw49 (fun w1 => ?hy49) ?hn49; (case hw49 => rfl); (case hy49 => (go_simp; (try with_reducible rfl))); (try simp only [Act.put, zF, zG, zH]))
      (refine TD.load (v := ?v50) (p := ?p50) (Mod.refl _ _) (by simp only [zA, zB, zC]; rfl) rfl ?hw50 rfl ?hx50 (fun wq hSq => ?hy50) ?hn50; (case hw50 => rfl); (case hx50 => (simp only [Act.eval, zD, zA, zB, zC, zE]; (try rfl))); (case hy50 => (have kpq := hSq.at kp (fun h => h); go_simp; (try with_reducible rfl))); (try simp only [Act.put, zF, zG, zH]))
      (refine TD.val0 (v := ?v51) (by simp only [zA, zB, zC]; rfl) rfl ?hw51 (fun w1 => ?hy51) ?hn51; (case hw51 => rfl); (case hy51 => (go_simp; (try with_reducible rfl))); (try simp only [Act.put, zF, zG, zH]))
      (refine TD.val0 (v := ?v52) (by simp only [zA, zB, zC]; rfl) rfl ?hw52 (fun w1 => ?hy52) ?hn52; (case hw52 => rfl); (case hy52 => (go_simp; (try with_reducible rfl))); (try simp only [Act.put, zF, zG, zH]))
      refine TD.nil (fun w1 hr => ?_)
      replace kp := hr.mod.at kp (fun h => h)
      have m1 := hr.mod
      clear hr
      go_upto_region 4 with fail
      have Lkp := lt_size kp
      refine wp_pass0 (C := fun _ _ _ => False) (κ := fun i => [0, 0, 0, 5].getD i 0) [0, 1, 2, 3] (by kernel_rfl) (by kernel_rfl) (fun _ _ d _ _ h => by cases d <;> first | exact h | exact absurd h (hP _ _ _)) ?_
      (refine TD.val0 (v := ?v53) (by simp only [zA, zB, zC]; rfl) rfl ?hw53 (fun w1 => ?hy53) ?hn53; (case hw53 => rfl); (case hy53 => (go_simp; (try with_reducible rfl))); (try simp only [Act.put, zF, zG, zH]))
      (refine TD.val0 (v := ?v54) (by simp only [zA, zB, zC]; rfl) rfl ?hw54 (fun w1 => ?hy54) ?hn54; (case hw54 => rfl); (case hy54 => (go_simp; (try with_reducible rfl))); (try simp only [Act.put, zF, zG, zH]))
      (refine TD.val0 (v := ?v55) (by simp only [zA, zB, zC]; rfl) rfl ?hw55 (fun w1 => ?hy55) ?hn55; (case hw55 => rfl); (case hy55 => (go_simp; (try with_reducible rfl))); (try simp only [Act.put, zF, zG, zH]))
      refine TD.eff (by simp only [zA, zB, zC]; rfl) rfl (fun wE hr => ?_)
      replace kp := hr.mod.at0 kp
      have mE := hr.mod
      (refine eff_store (X := ?X56) (Y := ?Y56) (w' := ?w56) (by simp only [zA, zB, zC]; rfl) ?hw56 rfl ?hx56 ?hz56 ?hy56 ?hn56; (case hw56 => rfl); (case hx56 => (simp only [Act.eval, zD, zA, zB, zC, zE]; (try rfl))); (case hz56 => (simp only [Act.eval, zD, zA, zB, zC, zE]; (try rfl))); (case hy56 => (go_simp; (try with_reducible rfl))))
      (first | refine TE.nil_set kp (fun w2 kp mS => ?_) | refine TE.nil_setCell kp (fun w2 kp mS => ?_))
      (try simp only [Array.setIfInBounds, zF, zG, zH] at kp)
      have m2 := (m1.mono (T := fun i => i = p) (fun _ _ h => h.elim)).trans ((mE.mono (fun _ _ h => h.elim)).trans mS)
      have HK := Lib.hid kp
      clear hr mE mS m1 kp
      go_wp2_with fail
      go_ret
      refine ⟨_, [], k, 5, rfl, ⟨SlOwn.nil _ _, .inl ⟨rfl, rfl⟩⟩, Tk.err HE.out, ?_, m2⟩
      rw [TkA, HLL.out]
      exact ⟨HK.out, HL.out.1.modB m2 HL.out.2.1, hk, hc, HL.out.2.2, HL.out.2.1, hln⟩
  · have hne : ((e : Int) != 0) = true := by simpa using he
    go_wp2_with fail
    go_ret
    exact ⟨_, [], k, e, rfl, ⟨SlOwn.nil _ _, .inl ⟨rfl, rfl⟩⟩, Tk.bad he, HT.out, Mod.refl _ _⟩
end Go.Proofs.YtofpnmoeimjnnaaGreat
namespace Go.Proofs.YtofpnmoeimjnnaaGreat
open Go.RowKit
open Go.ChangeMaps (setBlock)
set_option linter.unusedSimpArgs false
set_option linter.unusedVariables false
attribute [local go_sem] cell_blk frozen_blk one_int one_bool one_ptr one_slice one_map Value.cells
attribute [local go_sem ↓] wlKey ldKey stKey wlHs ldHs stHs
attribute [local go_sem] kc_ext kc_one kc_one0 kc_size zKey_size one_slice
theorem setRow_blk {w : World} {g : Nat} {old cs : Array Value} {t : TypeId} (hg : w.heap[g]? = some (.cells old t (0, 0))) : w.setRow g cs = setBlock w g (.cells cs t (0, 0)) := by
  unfold World.setRow setBlock
  congr 1
  apply Array.ext_getElem?
  intro i
  rw [Array.getElem?_modify, Array.getElem?_setIfInBounds]
  by_cases h : g = i
  · subst h
    rw [if_pos rfl, if_pos rfl, hg, if_pos (lt_size hg)]
    rfl
  · rw [if_neg h, if_neg h]
theorem eff_copy {P : Program} {ops : Array Oper} {Q : Exit → Act → World → Prop} {i : Nat} {a : Act} {o : Oper} {K : Act → World → Prop} {w w' : World} {t t2 : TypeId} {s x : Operand} {v u v' : Value} (ho : ops[i]? = some o) (hw : Region.wanted o (yielded ops a.tmps) = true)
    (hop : o.op = .call { callee := .builtin .copy, args := #[s, x], argTypes := #[t, t2] }) (hs : a.eval s = v) (hx : a.eval x = u) (hr : (Builtin.copy_ #[t, t2] o.type #[v, u]).run P w = .ok v' w')
    (h : K (a.put o.dst v') w') : wpOp P ops Q i K a w :=
  eff_value ho hw (by subst hs; subst hx; simp [execOp, hop, resolve, invoke, builtin, hr]) h
theorem copy_all {w : World} {ty : TypeId} {p n n1 b o c : Nat} {cur C : Array Value} {T U : TypeId} {fr : Nat × Nat} {L : List UInt8} (hp : w.heap[p]? = some (.cells cur T (0, 0))) (hcur : cur.size = n) (hL : L.length = n) (hb : w.heap[b]? = some (.cells C U fr))
    (hC : ∀ i x, L[i]? = some x → C.extract (o + i * 1) (o + i * 1 + 1) = uc x ∧ o + i * 1 + 1 ≤ C.size) :
    (Builtin.copy_ #[22, 22] ty #[.slice (some ⟨p, 0, none⟩) n n1, .slice (some ⟨b, o, none⟩) n c]).run Tryz.prog w = .ok (goInt n) (setBlock w p (.cells (L.map bc).toArray T (0, 0))) := by
  have hel : (Tryz.prog.info? 5).map (·.size) = some 1 := by kernel_rfl
  have h := run_copy_row (P := Tryz.prog) w 22 22 ty 5 p 0 n n1 ⟨b, o, none⟩ n c cur T (L.map bc) Tryz.underlying22 hel hp (by simp [hL]) (fun j v hv => by
    rw [List.getElem?_map] at hv
    cases hx : L[j]? with
    | none => rw [hx] at hv; cases hv
    | some x =>
      rw [hx] at hv
      cases hv
      obtain ⟨h1, h2⟩ := hC j x hx
      simp only [Nat.mul_one] at h1 h2
      have hadd : (⟨b, o, none⟩ : Addr).add j = ⟨b, o + j, none⟩ := by
        unfold Addr.add
        split <;> simp_all
      rw [hadd, cell_blk, hb]
      simp only
      have h3 : (C.extract (o + j) (o + j + 1))[0]? = some (bc x) := by rw [h1]; rfl
      rw [Array.getElem?_extract] at h3
      simp at h3
      exact h3.2) (by rw [List.length_map, hL, hcur]; omega) (fun v hv => by
    rw [List.mem_map] at hv
    obtain ⟨x, _, rfl⟩ := hv
    rfl)
  have hz : (List.take 0 cur.toList ++ L.map bc ++ List.drop (0 + (L.map bc).length) cur.toList).toArray = (L.map bc).toArray := by
    rw [List.take_zero, List.nil_append, List.drop_of_length_le (by rw [Array.length_toList, hcur, List.length_map]; omega), List.append_nil]
  rw [h, setRow_blk hp, hz, List.length_map, hL]
theorem copy_none (w : World) (ty : TypeId) (x : Addr) (n n1 : Nat) : (Builtin.copy_ #[22, 22] ty #[.slice (some x) n n1, .slice none 0 0]).run Tryz.prog w = .ok (goInt 0) w :=
  run_copy_nil (P := Tryz.prog) w _ _ ty 5 x n n1 Tryz.underlying22 (by kernel_rfl)
set_option maxRecDepth 20000 in
set_option maxHeartbeats 3200000 in
theorem tbyte_c {p : Nat} {a : Option Addr} {l : List UInt8} {c k e : Nat} (w : World) (h : TkA p a l c k e w) :
    Calls Tryz.prog 92 #[pV p] w (TkP p a l c e w (pByte l k) (fun _ _ v x => v = u8v x)) := by
  have HB := Lib.hid (tbytes_c 1 w h (by omega))
  have hkl := h.2.2.1
  clear h
  go_enter Tryz.func92, Tryz.ntmps92
  go_wp2_with fail
  go_at_call 95
  refine HB.out.mono ?_
  rintro en w2 ⟨v, x, k', e', rfl, ⟨hO, -⟩, hT, hA, hm⟩
  obtain ⟨a2, c2, rfl, hS, -⟩ := hO.at bytesT
  cases x with
  | nil =>
    have HT : Hid (Tk e (pByte l k) 0 k' e') := Lib.hid (by
      refine ⟨fun he => ?_, hT.2⟩
      have h1 := hT.1 he
      by_cases hs : k + 1 ≤ l.length
      · rw [pBytes, if_pos hs] at h1
        have h2 := congrArg List.length h1.1
        rw [List.length_take, List.length_drop] at h2
        simp at h2
        omega
      · rw [pBytes, if_neg hs] at h1
        unfold pByte
        rw [List.getElem?_eq_none (by omega)]
        exact h1)
    have HF := Lib.hid (And.intro hA hm)
    clear hO hT hA hm hS
    go_wp2_with fail
    go_ret
    exact ⟨_, 0, k', e', rfl, rfl, HT.out, HF.out⟩
  | cons y ys =>
    obtain ⟨b, o, C, U, fr, rfl, kb, hc⟩ := u8_at hS (i := 0) rfl
    have hc2 : C[o]? = some (.int .u8 (y.toNat : Int)) := by simpa using hc
    have HT : Hid (Tk e (pByte l k) y k' e') := Lib.hid (by
      refine ⟨fun he => ?_, hT.2⟩
      have h1 := hT.1 he
      by_cases hs : k + 1 ≤ l.length
      · rw [pBytes, if_pos hs] at h1
        have h2 : l[k]? = some y := by
          have h3 := congrArg (fun z => z[0]?) h1.1
          simp only [List.getElem?_take, List.getElem?_drop, zC] at h3
          simpa using h3.symm
        unfold pByte
        rw [h2]
        exact ⟨rfl, h1.2⟩
      · rw [pBytes, if_neg hs] at h1
        unfold pByte
        rw [List.getElem?_eq_none (by omega)]
        exact h1)
    have HF := Lib.hid (And.intro hA hm)
    obtain ⟨n, hn⟩ : ∃ n, ys.length = n := ⟨_, rfl⟩
    have hne : (((n + 1 : Nat) : Int) == 0) = false := by simp; omega
    simp only [List.length_cons]
    rw [hn]
    clear hO hT hA hm hS hc hn
    go_wp2_with fail
    go_ret
    exact ⟨_, y, k', e', rfl, rfl, HT.out, HF.out⟩
theorem gsh_zero : ∀ (l : List UInt8) (i n : Nat), (gsh i n l).2.2 ≠ 0 → (gsh i n l).1 = 0 ∧ (gsh i n l).2.1 = 0
  | [], i, n, h => ⟨rfl, rfl⟩
  | c :: r, i, n, h => by
    rw [gsh] at h ⊢
    split
    · exact ⟨rfl, rfl⟩
    · rename_i hb
      rw [if_neg hb] at h
      split
      · rename_i h128
        rw [if_pos h128] at h
        exact absurd rfl h
      · rename_i h128
        rw [if_neg h128] at h
        exact gsh_zero r _ _ h
set_option maxRecDepth 20000 in
set_option maxHeartbeats 3200000 in
theorem tshort_c {p : Nat} {a : Option Addr} {l : List UInt8} {c k e : Nat} (w : World) (h : TkA p a l c k e w) :
    Calls Tryz.prog 93 #[pV p] w (TkP p a l c e w (pShort l k) (fun _ _ v n => v = i64n n ∧ n ≤ 65535)) := by
  have HT := Lib.hid h
  obtain ⟨kp, hl, hk, hc, hna, hap, hln⟩ := h
  have HL := Lib.hid (And.intro hl (And.intro hap hna))
  obtain ⟨ll, hll⟩ : ∃ ll, l.length = ll := ⟨_, rfl⟩
  have HLL := Lib.hid hll
  unfold tkC at kp
  rw [hll] at kp hk hc hln
  obtain ⟨sp, hsp, hsat, -, -⟩ := sl_from (P := Tryz.prog) bytesT (c := c) (k := k) HL.out.1 (by rw [HLL.out]; exact hk) (by rw [HLL.out]; exact hc) HL.out.2.2
  rw [HLL.out] at hsp
  have HSAT := Lib.hid hsat
  have HTL : Hid ((l.drop k).length = ll - k) := Lib.hid (by rw [List.length_drop, HLL.out])
  obtain ⟨n, took, er, hg⟩ : ∃ n took er, gsh 0 0 (l.drop k) = (n, took, er) := ⟨_, _, _, rfl⟩
  have HG := Lib.hid hg
  clear hl hap hna hll hsat hg
  go_enter Tryz.func93, Tryz.ntmps93
  by_cases he : e = 0
  · subst he
    have hne : ((0 : Int) != 0) = false := rfl
    have hfit : er = 0 → n ≤ 65535 ∧ took ≤ ll - k := fun h0 => by
      have := gsh_fit (l.drop k) 0 0 (by decide) (by omega) (by rw [HG.out]; exact h0)
      rw [HG.out] at this
      simp only at this
      have := HTL.out
      omega
    have hzero : er ≠ 0 → n = 0 ∧ took = 0 := fun h0 => by
      have := gsh_zero (l.drop k) 0 0 (by rw [HG.out]; exact h0)
      rw [HG.out] at this
      exact this
    obtain ⟨kn, hkn⟩ : ∃ kn, k + took = kn := ⟨_, rfl⟩
    have hkb : n ≤ 65535 ∧ kn ≤ ll := by
      by_cases h0 : er = 0
      · have := hfit h0
        omega
      · have := hzero h0
        omega
    have hka : IntKind.i64.wrap ((k : Int) + (took : Int)) = (kn : Int) := by rw [IntKind.wrap_i64]; omega
    have HR : Hid (Tk 0 (pShort l k) n kn er) := Lib.hid (by
      unfold pShort
      rw [HG.out]
      simp only
      by_cases h0 : er = 0
      · subst h0
        rw [if_pos rfl, hkn]
        exact Tk.good rfl
      · rw [if_neg h0]
        exact Tk.err rfl)
    have HKB := Lib.hid hkb
    clear hfit hzero hkn hkb
    go_upto_region 3 with fail
    have Lkp := lt_size kp
    refine wp_gpass (T0 := fun _ => False) (K := fun _ _ => True) (κ := fun i => [0, 0, 0, 0, 0, 0, 0, 0, 0, 6, 0, 0, 0, 0, 0, 0, 0].getD i 0) (υ := fun i => [[], [], [], [], [], [], [], [], [], [], [], [], [], [], [], [], []].getD i []) [0, 1, 2, 3, 4, 5, 6, 7, 8, 9, 10, 11, 12, 13, 14, 15, 16] (by kernel_rfl) (by kernel_rfl) (Good.true).cl (trivial) (fun _ h => h.elim) ?_
    have gK := Good.true
    (refine TG.v0 (v := ?v1) (by simp only [zA, zB, zC]; rfl) rfl ?hw1 (fun w1 => ?hy1) ?hn1; (case hw1 => rfl); (case hy1 => (go_simp; (try with_reducible rfl))); (try simp only [Act.put, zF, zG, zH]))
    (refine TG.v0 (v := ?v2) (by simp only [zA, zB, zC]; rfl) rfl ?hw2 (fun w1 => ?hy2) ?hn2; (case hw2 => rfl); (case hy2 => (go_simp; (try with_reducible rfl))); (try simp only [Act.put, zF, zG, zH]))
    (refine TG.v0 (v := ?v3) (by simp only [zA, zB, zC]; rfl) rfl ?hw3 (fun w1 => ?hy3) ?hn3; (case hw3 => rfl); (case hy3 => (go_simp; (try with_reducible rfl))); (try simp only [Act.put, zF, zG, zH]))
    (refine TG.load (v := ?v4) (p := ?p4) (by simp only [zA, zB, zC]; rfl) rfl ?hw4 rfl ?hx4 (fun wq hSq => ?hy4) ?hn4; (case hw4 => rfl); (case hx4 => (simp only [Act.eval, zD, zA, zB, zC, zE]; (try rfl))); (case hy4 => (have kpq := hSq.at kp (by intro hT; first | exact hT | exact absurd hT (by assumption) | omega | (simp only at hT; omega)); go_simp; (try with_reducible rfl))); (try simp only [Act.put, zF, zG, zH]))
    (refine TG.v0 (v := ?v5) (by simp only [zA, zB, zC]; rfl) rfl ?hw5 (fun w1 => ?hy5) ?hn5; (case hw5 => rfl); (case hy5 => (go_simp; (try with_reducible rfl))); (try simp only [Act.put, zF, zG, zH]))
    (refine TG.v0 (v := ?v6) (by simp only [zA, zB, zC]; rfl) rfl ?hw6 (fun w1 => ?hy6) ?hn6; (case hw6 => rfl); (case hy6 => (go_simp; (try with_reducible rfl))); (try simp only [Act.put, zF, zG, zH]))
    (refine TG.v0 (v := ?v7) (by simp only [zA, zB, zC]; rfl) rfl ?hw7 (fun w1 => ?hy7) ?hn7; (case hw7 => rfl); (case hy7 => (go_simp; (try with_reducible rfl))); (try simp only [Act.put, zF, zG, zH]))
    (refine TG.load (v := ?v8) (p := ?p8) (by simp only [zA, zB, zC]; rfl) rfl ?hw8 rfl ?hx8 (fun wq hSq => ?hy8) ?hn8; (case hw8 => rfl); (case hx8 => (simp only [Act.eval, zD, zA, zB, zC, zE]; (try rfl))); (case hy8 => (have kpq := hSq.at kp (by intro hT; first | exact hT | exact absurd hT (by assumption) | omega | (simp only at hT; omega)); go_simp; (try with_reducible rfl))); (try simp only [Act.put, zF, zG, zH]))
    (refine TG.slice (by simp only [zA, zB, zC]; rfl) rfl ?hw9 rfl ?hs9 ?hl9 ?hh9 ?hm9 hsp ?hn9; (case hw9 => rfl); (case hs9 => (simp only [Act.eval, zD, zA, zB, zC, zE]; (try rfl))); (case hl9 => first | rfl | (simp only [Option.map_some, Act.eval, zD, zA, zB, zC, zE]; (try rfl))); (case hh9 => first | rfl | (simp only [Option.map_some, Act.eval, zD, zA, zB, zC, zE]; (try rfl))); (case hm9 => rfl); (try simp only [Act.put, zF, zG, zH]))
    (refine TG.callN (f := ?f10) (args := ?r10) (fun v => v = .tuple #[i64n n, i64n took, i64n er]) gK (by simp only [zA, zB, zC]; rfl) rfl ?hw10 (fun w1 => ?hy10) (fun T wq kq ltq hSq ub => ?hsp10) ?hn10; (case hw10 => rfl); (case hy10 => (go_simp; (first | with_reducible rfl | (constructor <;> with_reducible rfl)))); (case hsp10 => (have kpq := hSq.at kp (by intro hT; first | exact hT | exact absurd hT (by assumption) | omega | (simp only at hT; omega)); have hh := rgsh_c sp (l.drop k) (c - k) wq (HSAT.out wq (HL.out.1.mod0 hSq)) (by rw [HTL.out]; omega); rw [HTL.out, HG.out] at hh; exact hh.mono (fun e w' h => ⟨_, h.1, rfl, h.2⟩))); rintro v10 hC; subst hC; (try simp only [Act.put, zF, zG, zH]))
    (refine TG.v0 (v := ?v11) (by simp only [zA, zB, zC]; rfl) rfl ?hw11 (fun w1 => ?hy11) ?hn11; (case hw11 => rfl); (case hy11 => (go_simp; (try with_reducible rfl))); (try simp only [Act.put, zF, zG, zH]))
    (refine TG.v0 (v := ?v12) (by simp only [zA, zB, zC]; rfl) rfl ?hw12 (fun w1 => ?hy12) ?hn12; (case hw12 => rfl); (case hy12 => (go_simp; (try with_reducible rfl))); (try simp only [Act.put, zF, zG, zH]))
    (refine TG.v0 (v := ?v13) (by simp only [zA, zB, zC]; rfl) rfl ?hw13 (fun w1 => ?hy13) ?hn13; (case hw13 => rfl); (case hy13 => (go_simp; (try with_reducible rfl))); (try simp only [Act.put, zF, zG, zH]))
    (refine TG.v0 (v := ?v14) (by simp only [zA, zB, zC]; rfl) rfl ?hw14 (fun w1 => ?hy14) ?hn14; (case hw14 => rfl); (case hy14 => (go_simp; (try with_reducible rfl))); (try simp only [Act.put, zF, zG, zH]))
    (refine TG.v0 (v := ?v15) (by simp only [zA, zB, zC]; rfl) rfl ?hw15 (fun w1 => ?hy15) ?hn15; (case hw15 => rfl); (case hy15 => (go_simp; (try with_reducible rfl))); (try simp only [Act.put, zF, zG, zH]))
    (refine TG.v0 (v := ?v16) (by simp only [zA, zB, zC]; rfl) rfl ?hw16 (fun w1 => ?hy16) ?hn16; (case hw16 => rfl); (case hy16 => (go_simp; (try with_reducible rfl))); (try simp only [Act.put, zF, zG, zH]))
    (refine TG.v0 (v := ?v17) (by simp only [zA, zB, zC]; rfl) rfl ?hw17 (fun w1 => ?hy17) ?hn17; (case hw17 => rfl); (case hy17 => (go_simp; (try with_reducible rfl))); (try simp only [Act.put, zF, zG, zH]))
    refine TG.nil (fun w1 ⟨TR, hr⟩ => ?_)
    replace kp := hr.mod.at kp (by intro hT; first | exact hT | exact absurd hT (by assumption) | omega | (simp only at hT; omega))
    clear gK
    have m1 := hr.mod
    clear hr hsp
    go_upto_region 4 with fail
    have Lkp := lt_size kp
    refine wp_pass0 (C := fun _ _ _ => False) (κ := fun i => [0, 0, 0, 0, 5].getD i 0) [0, 1, 2, 3, 4] (by kernel_rfl) (by kernel_rfl) (fun _ _ d _ _ h => by cases d <;> first | exact h | exact absurd h (hP _ _ _)) ?_
    (refine TD.val0 (v := ?v18) (by simp only [zA, zB, zC]; rfl) rfl ?hw18 (fun w1 => ?hy18) ?hn18; (case hw18 => rfl); (case hy18 => (go_simp; (try with_reducible rfl))); (try simp only [Act.put, zF, zG, zH]))
    (refine TD.val0 (v := ?v19) (by simp only [zA, zB, zC]; rfl) rfl ?hw19 (fun w1 => ?hy19) ?hn19; (case hw19 => rfl); (case hy19 => (go_simp; (try with_reducible rfl))); (try simp only [Act.put, zF, zG, zH]))
    (refine TD.val0 (v := ?v20) (by simp only [zA, zB, zC]; rfl) rfl ?hw20 (fun w1 => ?hy20) ?hn20; (case hw20 => rfl); (case hy20 => (go_simp; (try with_reducible rfl))); (try simp only [Act.put, zF, zG, zH]))
    (refine TD.val0 (v := ?v21) (by simp only [zA, zB, zC]; rfl) rfl ?hw21 (fun w1 => ?hy21) ?hn21; (case hw21 => rfl); (case hy21 => (go_simp; (try with_reducible rfl))); (try simp only [Act.put, zF, zG, zH]))
    refine TD.eff (by simp only [zA, zB, zC]; rfl) rfl (fun wE hr => ?_)
    replace kp := hr.mod.at0 kp
    have mE := hr.mod
    (refine eff_store (X := ?X22) (Y := ?Y22) (w' := ?w22) (by simp only [zA, zB, zC]; rfl) ?hw22 rfl ?hx22 ?hz22 ?hy22 ?hn22; (case hw22 => rfl); (case hx22 => (simp only [Act.eval, zD, zA, zB, zC, zE]; (try rfl))); (case hz22 => (simp only [Act.eval, zD, zA, zB, zC, zE]; (try rfl))); (case hy22 => (go_simp; (try with_reducible rfl))))
    (first | refine TE.nil_set kp (fun w2 kp mS => ?_) | refine TE.nil_setCell kp (fun w2 kp mS => ?_))
    (try simp only [Array.setIfInBounds, zF, zG, zH] at kp)
    have m2 := (m1.mono (T := fun i => i = p) (fun _ _ h => h.elim)).trans ((mE.mono (fun _ _ h => h.elim)).trans mS)
    clear hr mE mS m1
    go_upto_region 5 with fail
    have Lkp := lt_size kp
    refine wp_pass0 (C := fun _ _ _ => False) (κ := fun i => [0, 0, 0, 0, 1, 0, 0, 0, 0, 5].getD i 0) [0, 1, 2, 3, 4, 5, 6, 7, 8, 9] (by kernel_rfl) (by kernel_rfl) (fun _ _ d _ _ h => by cases d <;> first | exact h | exact absurd h (hP _ _ _)) ?_
    (refine TD.val0 (v := ?v23) (by simp only [zA, zB, zC]; rfl) rfl ?hw23 (fun w1 => ?hy23) ?hn23; (case hw23 => rfl); (case hy23 => (go_simp; (try with_reducible rfl))); (try simp only [Act.put, zF, zG, zH]))
    (refine TD.val0 (v := ?v24) (by simp only [zA, zB, zC]; rfl) rfl ?hw24 (fun w1 => ?hy24) ?hn24; (case hw24 => rfl); (case hy24 => (go_simp; (try with_reducible rfl))); (try simp only [Act.put, zF, zG, zH]))
    (refine TD.val0 (v := ?v25) (by simp only [zA, zB, zC]; rfl) rfl ?hw25 (fun w1 => ?hy25) ?hn25; (case hw25 => rfl); (case hy25 => (go_simp; (try with_reducible rfl))); (try simp only [Act.put, zF, zG, zH]))
    (refine TD.val0 (v := ?v26) (by simp only [zA, zB, zC]; rfl) rfl ?hw26 (fun w1 => ?hy26) ?hn26; (case hw26 => rfl); (case hy26 => (go_simp; (try with_reducible rfl))); (try simp only [Act.put, zF, zG, zH]))
    (refine TD.load (v := ?v27) (p := ?p27) (Mod.refl _ _) (by simp only [zA, zB, zC]; rfl) rfl ?hw27 rfl ?hx27 (fun wq hSq => ?hy27) ?hn27; (case hw27 => rfl); (case hx27 => (simp only [Act.eval, zD, zA, zB, zC, zE]; (try rfl))); (case hy27 => (have kpq := hSq.at kp (fun h => h); go_simp; (try with_reducible rfl))); (try simp only [Act.put, zF, zG, zH]))
    (refine TD.val0 (v := ?v28) (by simp only [zA, zB, zC]; rfl) rfl ?hw28 (fun w1 => ?hy28) ?hn28; (case hw28 => rfl); (case hy28 => (go_simp; (try with_reducible rfl))); (try simp only [Act.put, zF, zG, zH]))
    (refine TD.val0 (v := ?v29) (by simp only [zA, zB, zC]; rfl) rfl ?hw29 (fun w1 => ?hy29) ?hn29; (case hw29 => rfl); (case hy29 => (go_simp; (try with_reducible rfl))); (try simp only [Act.put, zF, zG, zH]))
    (refine TD.val0 (v := ?v30) (by simp only [zA, zB, zC]; rfl) rfl ?hw30 (fun w1 => ?hy30) ?hn30; (case hw30 => rfl); (case hy30 => (go_simp; (try with_reducible rfl))); (try simp only [Act.put, zF, zG, zH]))
    (refine TD.val0 (v := ?v31) (by simp only [zA, zB, zC]; rfl) rfl ?hw31 (fun w1 => ?hy31) ?hn31; (case hw31 => rfl); (case hy31 => (go_simp; (try with_reducible rfl))); (try simp only [Act.put, zF, zG, zH]))
    refine TD.eff (by simp only [zA, zB, zC]; rfl) rfl (fun wE hr => ?_)
    replace kp := hr.mod.at0 kp
    have mE := hr.mod
    (refine eff_store (X := ?X32) (Y := ?Y32) (w' := ?w32) (by simp only [zA, zB, zC]; rfl) ?hw32 rfl ?hx32 ?hz32 ?hy32 ?hn32; (case hw32 => rfl); (case hx32 => (simp only [Act.eval, zD, zA, zB, zC, zE]; (try rfl))); (case hz32 => (simp only [Act.eval, zD, zA, zB, zC, zE]; (try rfl))); (case hy32 => (go_simp; (try with_reducible rfl))))
    (first | refine TE.nil_set kp (fun w3 kp mS => ?_) | refine TE.nil_setCell kp (fun w3 kp mS => ?_))
    (try simp only [Array.setIfInBounds, zF, zG, zH] at kp)
    have m3 := m2.trans ((mE.mono (fun _ _ h => h.elim)).trans mS)
    have HK := Lib.hid kp
    clear hr mE mS m2 kp
    go_wp2_with fail
    go_ret
    refine ⟨_, n, kn, er, rfl, ⟨rfl, HKB.out.1⟩, HR.out, ?_, m3⟩
    rw [TkA, HLL.out]
    exact ⟨HK.out, HL.out.1.modB m3 HL.out.2.1, HKB.out.2, hc, HL.out.2.2, HL.out.2.1, hln⟩
  · have hne : ((e : Int) != 0) = true := by simpa using he
    go_wp2_with fail
    go_ret
    exact ⟨_, 0, k, e, rfl, ⟨rfl, Nat.zero_le _⟩, Tk.bad he, HT.out, Mod.refl _ _⟩
end Go.Proofs.YtofpnmoeimjnnaaGreat
namespace Go.Proofs.YtofpnmoeimjnnaaGreat
open Go.RowKit
open Go.ChangeMaps (setBlock)
set_option linter.unusedSimpArgs false
set_option linter.unusedVariables false
attribute [local go_sem] cell_blk frozen_blk one_int one_bool one_ptr one_slice one_map Value.cells
attribute [local go_sem ↓] wlKey ldKey stKey wlHs ldHs stHs
attribute [local go_sem] kc_ext kc_one kc_one0 kc_size zKey_size one_slice
theorem ldK32 (w : World) (b o : Nat) : (Instr.loadAt 38 (.pointer (some ⟨b, o, none⟩))).run Tryz.prog w =
      match w.heap[b]? with
      | some (.cells cs _ _) => if o + 32 ≤ cs.size then .ok (.agg (cs.extract o (o + 32))) w else farL Tryz.prog w 38 b o
      | _ => farL Tryz.prog w 38 b o := load_rule (d := _) Tryz.underlying38 rfl (by kernel_rfl) w b o
theorem stK32 (w : World) (b o : Nat) (xs : Array Value) : (Instr.storeAt 38 (.pointer (some ⟨b, o, none⟩)) (.agg xs)).run Tryz.prog w =
      match w.heap[b]? with
      | some (.cells cs U (0, 0)) =>
        if o + 32 ≤ cs.size ∧ xs.size = 32 ∧ xs.all (·.oneCell') = true then .ok () (setBlock w b (.cells (if o = 0 ∧ 32 = cs.size then xs else wr cs o xs.toList) U (0, 0))) else farS Tryz.prog w 38 b o (.agg xs)
      | _ => farS Tryz.prog w 38 b o (.agg xs) := store_rule (by kernel_rfl) w b o xs
theorem wlK32 (dst : Option Tmp) (x : Operand) (ty : TypeId) (pos : String) (after : Array Edge) (g : Option (Nat × Bool)) (a : Act) (w : World) (K : Act → World → Prop) (Q : Exit → Act → World → Prop) :
    Oper.wp Tryz.prog { dst := dst, op := .load 38 x, type := ty, pos := pos, after := after, guard := g } a w K Q =
      (match a.eval x with
      | .pointer (some ⟨b, o, none⟩) =>
        (match w.heap[b]? with
        | some (.cells cs _ _) => if o + 32 ≤ cs.size then K (a.put dst (.agg (cs.extract o (o + 32)))) w else farW Tryz.prog { dst := dst, op := .load 38 x, type := ty, pos := pos, after := after, guard := g } a w K Q
        | _ => farW Tryz.prog { dst := dst, op := .load 38 x, type := ty, pos := pos, after := after, guard := g } a w K Q)
      | _ => farW Tryz.prog { dst := dst, op := .load 38 x, type := ty, pos := pos, after := after, guard := g } a w K Q) := wp_load_rule (d := _) Tryz.underlying38 rfl (by kernel_rfl) dst x ty pos after g a w K Q
theorem alK32 (w : World) : (Instr.alloc 38 true (.tuple #[])).run Tryz.prog w = .ok (.pointer (some ⟨w.heap.size, 0, none⟩)) (w.alloc (.cells zKey 38)) :=
  run_alloc_row (z := .agg zKey) (fun w => by kernel_rfl) w
attribute [local go_sem ↓] wlK32 ldK32 stK32
theorem slAll (p : Nat) (w : World) : (Instr.sliceAt 38 (.pointer (some ⟨p, 0, none⟩)) none none none).run Tryz.prog w = .ok (.slice (some ⟨p, 0, none⟩) 32 32) w := by kernel_rfl
theorem zKey0 : zKey = kc key0 := by kernel_rfl
theorem pKey_cells {l L : List UInt8} {e k k' e' : Nat} (h : Tk e (pBytes l k 32) L k' e') (K : Key) (hK : L.length = 32 → K.l = L) : Tk e (pKey l k) K k' e' := by
  refine ⟨fun h0 => ?_, h.2⟩
  have h1 := h.1 h0
  by_cases hs : k + 32 ≤ l.length
  · rw [pBytes, if_pos hs] at h1
    obtain ⟨rfl, rfl, rfl⟩ := h1
    have h2 : K.l = (l.drop k).take 32 := hK (by rw [List.length_take, List.length_drop]; omega)
    unfold pKey
    rw [dif_pos hs]
    exact ⟨Key.ext h2, rfl, rfl⟩
  · rw [pBytes, if_neg hs] at h1
    unfold pKey
    rw [dif_neg hs]
    exact h1
set_option maxRecDepth 20000 in
set_option maxHeartbeats 3200000 in
theorem tkey_c {p : Nat} {a : Option Addr} {l : List UInt8} {c k e : Nat} (w : World) (h : TkA p a l c k e w) :
    Calls Tryz.prog 94 #[pV p] w (TkP p a l c e w (pKey l k) (fun _ _ v x => v = .agg (kc x))) := by
  have hp := lt_size h.1
  have HT := Lib.hid h
  clear h
  go_enter Tryz.func94, Tryz.ntmps94
  go_upto_region 0 with fail
  refine wp_pass0 (C := fun _ _ _ => False) (κ := fun i => [3].getD i 0) [0] (by kernel_rfl) (by kernel_rfl) (fun _ _ d _ _ h => by cases d <;> first | exact h | exact absurd h (hP _ _ _)) ?_
  (refine TD.allocB (by simp only [zA, zB, zC]; rfl) rfl ?hw1 rfl rfl alK32 (fun p2 hp2 => ?hn1); (case hw1 => rfl); (try simp only [Act.put, zF, zG, zH]))
  refine TD.nil (fun w1 hr => ?_)
  have kp2 := hr.box p2 _ (by first | exact Bx.set_same _ _ _ | (simp only [Bx.set_same]; rfl)); dsimp only [Value.cells] at kp2; obtain ⟨gp2, kp2⟩ := kp2
  have m1 := hr.mod
  clear hr
  go_upto_region 1 with fail
  have Lkp2 := lt_size kp2
  refine wp_pass0 (C := fun _ _ _ => False) (κ := fun i => [3].getD i 0) [0] (by kernel_rfl) (by kernel_rfl) (fun _ _ d _ _ h => by cases d <;> first | exact h | exact absurd h (hP _ _ _)) ?_
  (refine TD.allocB (by simp only [zA, zB, zC]; rfl) rfl ?hw2 rfl rfl alK32 (fun p3 hp3 => ?hn2); (case hw2 => rfl); (try simp only [Act.put, zF, zG, zH]))
  refine TD.nil (fun w2 hr => ?_)
  replace kp2 := hr.mod.at kp2 (fun h => h)
  have kp3 := hr.box p3 _ (by first | exact Bx.set_same _ _ _ | (simp only [Bx.set_same]; rfl)); dsimp only [Value.cells] at kp3; obtain ⟨gp3, kp3⟩ := kp3
  have m2 := m1.trans hr.mod
  clear hr
  have hsa := slAll
  have h23 : p2 ≠ p3 ∧ p2 ≠ p ∧ p3 ≠ p := by have := lt_size kp2; omega
  go_upto_region 2 with fail
  have Lkp2 := lt_size kp2
  have Lkp3 := lt_size kp3
  refine wp_pass (C := fun _ _ _ => False) (κ := fun i => [0, 0, 5, 6].getD i 0) [0, 1, 2, 3] (by kernel_rfl) (by kernel_rfl) (fun _ _ d _ _ h => by cases d <;> first | exact h | exact absurd h (hP _ _ _)) ?_
  (refine TD.val0 (v := ?v3) (by simp only [zA, zB, zC]; rfl) rfl ?hw3 (fun w1 => ?hy3) ?hn3; (case hw3 => rfl); (case hy3 => (go_simp; (try with_reducible rfl))); (try simp only [Act.put, zF, zG, zH]))
  (refine TD.val0 (v := ?v4) (by simp only [zA, zB, zC]; rfl) rfl ?hw4 (fun w1 => ?hy4) ?hn4; (case hw4 => rfl); (case hy4 => (go_simp; (try with_reducible rfl))); (try simp only [Act.put, zF, zG, zH]))
  refine TD.eff (by simp only [zA, zB, zC]; rfl) rfl (fun w3 hr => ?_)
  replace kp2 := hr.mod.at kp2 (fun h => h)
  replace kp3 := hr.mod.at kp3 (fun h => h)
  have m3 := m2.trans hr.mod
  have hB := tbytes_c 32 w3 (HT.out.mod0 m3) (by omega)
  clear hr hsa
  (refine eff_callT (by simp only [zA, zB, zC]; rfl) ?hw6 ?hy6 hB ?hout (fun vn wn hR => ?hret) (fun ch wn hR => ?hpan); (case hw6 => rfl); (case hy6 => (go_simp; (try (first | with_reducible rfl | (constructor <;> with_reducible rfl))))))
  case hout => exact fun w' h => h.noOut
  case hpan => exact hR.noPan.elim
  case hret =>
  obtain ⟨v, x, k', e', e1, ⟨hO, hx⟩, hTk, hA, hm⟩ := hR
  cases e1
  have HB3 := Lib.hid hO
  have HM : Hid (Mod (fun i => i = p) w wn) := Lib.hid ((m3.mono (fun _ _ h => h.elim)).trans hm)
  have kp2 := hm.at_ne kp2 h23.2.1
  have kp3 := hm.at_ne kp3 h23.2.2
  have HA := Lib.hid hA
  have HK := Lib.hid (pKey_cells hTk)
  obtain ⟨w4, rfl⟩ : ∃ w4 : World, w4 = wn := ⟨_, rfl⟩
  (try simp only [Act.put, zF, zG, zH])
  clear hTk hm hA hB
  rcases hx with ⟨rfl, rfl⟩ | hx
  · have hcp := copy_none w4 3 ⟨p3, 0, none⟩ 32 32
    refine TE.step (by simp only [zA, zB, zC]; rfl) rfl ?_
    (refine eff_copy (by simp only [zA, zB, zC]; rfl) ?hw7 rfl ?hx7 ?hz7 (hcp) ?hn7; (case hw7 => rfl); (case hx7 => (simp only [Act.eval, zD, zA, zB, zC, zE]; (try rfl))); (case hz7 => (simp only [Act.eval, zD, zA, zB, zC, zE]; (try rfl))); (try simp only [Act.put, zF, zG, zH]))
    refine TE.nil ?_
    replace kp3 : w4.heap[p3]? = some (.cells (kc key0) 38 (0, 0)) := by rw [kp3, zKey0]
    go_upto_region 3 with fail
    have Lkp2 := lt_size kp2
    have Lkp3 := lt_size kp3
    refine wp_pass0 (C := fun _ _ _ => False) (κ := fun i => [1, 5].getD i 0) [0, 1] (by kernel_rfl) (by kernel_rfl) (fun _ _ d _ _ h => by cases d <;> first | exact h | exact absurd h (hP _ _ _)) ?_
    (refine TD.load (v := ?v8) (p := ?p8) (Mod.refl _ _) (by simp only [zA, zB, zC]; rfl) rfl ?hw8 rfl ?hx8 (fun wq hSq => ?hy8) ?hn8; (case hw8 => rfl); (case hx8 => (simp only [Act.eval, zD, zA, zB, zC, zE]; (try rfl))); (case hy8 => (have kp2q := hSq.at kp2 (fun h => h); have kp3q := hSq.at kp3 (fun h => h); go_simp; (try with_reducible rfl))); (try simp only [Act.put, zF, zG, zH]))
    refine TD.eff (by simp only [zA, zB, zC]; rfl) rfl (fun wE hr => ?_)
    replace kp2 := hr.mod.at0 kp2
    replace kp3 := hr.mod.at0 kp3
    have mE := hr.mod
    (refine eff_store (X := ?X9) (Y := ?Y9) (w' := ?w9) (by simp only [zA, zB, zC]; rfl) ?hw9 rfl ?hx9 ?hz9 ?hy9 ?hn9; (case hw9 => rfl); (case hx9 => (simp only [Act.eval, zD, zA, zB, zC, zE]; (try rfl))); (case hz9 => (simp only [Act.eval, zD, zA, zB, zC, zE]; (try rfl))); (case hy9 => (go_simp; (try with_reducible rfl))))
    (first | refine TE.nil_set kp2 (fun w9 kp2 mS => ?_) | refine TE.nil_setCell kp2 (fun w9 kp2 mS => ?_))
    (try simp only [Array.setIfInBounds, zF, zG, zH] at kp2)
    replace kp3 := mS.at_ne kp3 (by omega)
    have HA := Lib.hid (HT.out.modN (by omega) (HA.out.mod0 mE) mS)
    have HM := Lib.hid ((HM.out.then0 mE).then mS (fun i hi e => by omega))
    replace kp2 : w9.heap[p2]? = some (.cells (kc key0) 38 (0, 0)) := kp2
    clear mE mS hr
    go_wp2_with fail
    refine bodyPost_ret (results_cell1 (v := .agg (kc key0)) rfl rfl (by rw [ldK32]; simp [kp2, kc_size, kc_ext])) rfl ?_
    exact ⟨_, key0, k', e', rfl, rfl, HK.out key0 (fun h => by cases h), HA.out, HM.out⟩
  · obtain ⟨a2, c2, rfl, hS, -⟩ := HB3.out.at bytesT
    rcases hS with h | ⟨b, o, C, U, fr, rfl, kb, hcc⟩
    · rw [h] at hx
      cases hx
    have hcp := copy_all (ty := 3) (n1 := 32) (c := c2) kp3 zKey_size hx kb hcc
    have HX := Lib.hid hx
    obtain ⟨K, hK⟩ : ∃ K : Key, K = ⟨x, hx⟩ := ⟨_, rfl⟩
    have hKc : (x.map bc).toArray = kc K := by rw [hK]; rfl
    have HK9 : Hid (K.l = x) := Lib.hid (by rw [hK])
    rw [hKc] at hcp
    rw [hx]
    clear hcc hK hKc HB3 hx
    refine TE.step (by simp only [zA, zB, zC]; rfl) rfl ?_
    (refine eff_copy (by simp only [zA, zB, zC]; rfl) ?hw10 rfl ?hx10 ?hz10 (hcp) ?hn10; (case hw10 => rfl); (case hx10 => (simp only [Act.eval, zD, zA, zB, zC, zE]; (try rfl))); (case hz10 => (simp only [Act.eval, zD, zA, zB, zC, zE]; (try rfl))); (try simp only [Act.put, zF, zG, zH]))
    refine TE.nil_set kp3 (fun wn kp3 mS => ?_)
    have HA := Lib.hid (HT.out.modN (by omega) HA.out mS)
    have HM := Lib.hid (HM.out.then mS (fun i hi e => by omega))
    have kp2 := mS.at_ne kp2 h23.1
    clear mS hcp kb
    go_upto_region 3 with fail
    have Lkp2 := lt_size kp2
    have Lkp3 := lt_size kp3
    refine wp_pass0 (C := fun _ _ _ => False) (κ := fun i => [1, 5].getD i 0) [0, 1] (by kernel_rfl) (by kernel_rfl) (fun _ _ d _ _ h => by cases d <;> first | exact h | exact absurd h (hP _ _ _)) ?_
    (refine TD.load (v := ?v11) (p := ?p11) (Mod.refl _ _) (by simp only [zA, zB, zC]; rfl) rfl ?hw11 rfl ?hx11 (fun wq hSq => ?hy11) ?hn11; (case hw11 => rfl); (case hx11 => (simp only [Act.eval, zD, zA, zB, zC, zE]; (try rfl))); (case hy11 => (have kp2q := hSq.at kp2 (fun h => h); have kp3q := hSq.at kp3 (fun h => h); go_simp; (try with_reducible rfl))); (try simp only [Act.put, zF, zG, zH]))
    refine TD.eff (by simp only [zA, zB, zC]; rfl) rfl (fun wE hr => ?_)
    replace kp2 := hr.mod.at0 kp2
    replace kp3 := hr.mod.at0 kp3
    have mE := hr.mod
    (refine eff_store (X := ?X12) (Y := ?Y12) (w' := ?w12) (by simp only [zA, zB, zC]; rfl) ?hw12 rfl ?hx12 ?hz12 ?hy12 ?hn12; (case hw12 => rfl); (case hx12 => (simp only [Act.eval, zD, zA, zB, zC, zE]; (try rfl))); (case hz12 => (simp only [Act.eval, zD, zA, zB, zC, zE]; (try rfl))); (case hy12 => (go_simp; (try with_reducible rfl))))
    (first | refine TE.nil_set kp2 (fun w9 kp2 mS => ?_) | refine TE.nil_setCell kp2 (fun w9 kp2 mS => ?_))
    (try simp only [Array.setIfInBounds, zF, zG, zH] at kp2)
    replace kp3 := mS.at_ne kp3 (by omega)
    have HA := Lib.hid (HT.out.modN (by omega) (HA.out.mod0 mE) mS)
    have HM := Lib.hid ((HM.out.then0 mE).then mS (fun i hi e => by omega))
    replace kp2 : w9.heap[p2]? = some (.cells (kc K) 38 (0, 0)) := kp2
    clear mE mS hr
    go_wp2_with fail
    refine bodyPost_ret (results_cell1 (v := .agg (kc K)) rfl rfl (by rw [ldK32]; simp [kp2, kc_size, kc_ext])) rfl ?_
    exact ⟨_, K, k', e', rfl, rfl, HK.out K (fun _ => HK9.out), HA.out, HM.out⟩
end Go.Proofs.YtofpnmoeimjnnaaGreat
namespace Go.Proofs.YtofpnmoeimjnnaaGreat
open Go.RowKit
open Go.ChangeMaps (setBlock)
set_option linter.unusedSimpArgs false
set_option linter.unusedVariables false
attribute [local go_sem] cell_blk frozen_blk one_int one_bool one_ptr one_slice one_map Value.cells
attribute [local go_sem ↓] wlKey ldKey stKey wlMsg ldMsg stMsg wlRg ldRg stRg wlTx ldTx stTx wlSg ldSg stSg
attribute [local go_sem] kc_ext kc_one kc_one0 kc_size zKey_size one_slice mgx_size mgx_ext mgx_one mgx_one0 zMsg_size zMsg_all zMsg_all0
attribute [local go_sem] tcx_size tcx_ext tcx_one tcx_one0 txr_size txr_all txr_one txr_one' zTx_size
def decL : Nat → List UInt8 → Option (List TxP × List UInt8)
  | 0, L => some ([], L)
  | n + 1, L => match pTx L with
    | .ok (x, k) => if k ≤ 1232 then (decL n (L.drop k)).map (fun y => (x :: y.1, y.2)) else none
    | .error _ => none
def decP (l : List UInt8) : Option (List TxP) := if l.length < 8 ∨ leV (l.take 8) = 0 then none else match decL (leV (l.take 8)) (l.drop 8) with
  | some (xs, []) => some xs
  | _ => none
def preD (S : List TxP) (r : Option (List TxP × List UInt8)) : Option (List TxP × List UInt8) := r.map (fun y => (S ++ y.1, y.2))
theorem preD_nil (r : Option (List TxP × List UInt8)) : preD [] r = r := by cases r <;> rfl
theorem preD_step {n k : Nat} {S : List TxP} {L : List UInt8} {x : TxP} (h : pTx L = .ok (x, k)) (hk : k ≤ 1232) : preD S (decL (n + 1) L) = preD (S ++ [x]) (decL n (L.drop k)) := by
  rw [decL, h]
  simp only
  rw [if_pos hk]
  cases decL n (L.drop k) <;> simp [preD]
theorem preD_err {n e : Nat} {S : List TxP} {L : List UInt8} (h : pTx L = .error e) : preD S (decL (n + 1) L) = none := by
  rw [decL, h]
  rfl
theorem preD_big {n k : Nat} {S : List TxP} {L : List UInt8} {x : TxP} (h : pTx L = .ok (x, k)) (hk : ¬ k ≤ 1232) : preD S (decL (n + 1) L) = none := by
  rw [decL, h]
  simp only
  rw [if_neg hk]
  rfl
theorem gsh_pos : ∀ (l : List UInt8) (i n : Nat), (gsh i n l).2.2 = 0 → i + 1 ≤ (gsh i n l).2.1
  | [], i, n, h => by simp [gsh] at h
  | c :: r, i, n, h => by
    rw [gsh] at h ⊢
    split at h
    · simp at h
    · rename_i hb
      rw [if_neg hb]
      split at h
      · rename_i h128
        rw [if_pos h128]
        exact Nat.le_refl _
      · rename_i h128
        rw [if_neg h128]
        have := gsh_pos r (i + 1) (n + c.toNat % 128 * 128 ^ i) h
        omega
theorem pTx_pos {l : List UInt8} {x : TxP} {k : Nat} (h : pTx l = .ok (x, k)) (hk : k ≤ l.length) : 1 ≤ k := by
  unfold pTx at h
  split at h
  · rename_i h0
    have := gsh_pos l 0 0 h0
    split at h
    · cases h
    · rename_i S R hS
      have h2 := (takeS_len hS).2
      cases h3 : pMsg R 0 with
      | error e => rw [pBind_err h3] at h; cases h
      | ok y =>
        rw [pBind_ok h3] at h
        injection h with h
        injection h with _ h
        rw [List.length_drop] at h2
        by_cases hl : l.length = 0
        · have : l = [] := List.eq_nil_of_length_eq_zero hl
          subst this
          simp [gsh] at h0
        · omega
  · cases h
theorem decL_len : ∀ {n : Nat} {L : List UInt8} {xs : List TxP} {R : List UInt8}, (∀ (l : List UInt8) x k, pTx l = .ok (x, k) → k ≤ l.length) → decL n L = some (xs, R) → n ≤ L.length
  | 0, _, _, _, _, _ => Nat.zero_le _
  | n + 1, L, xs, R, hle, h => by
    rw [decL] at h
    split at h
    · rename_i x k hx
      split at h
      · have h1 := pTx_pos hx (hle _ _ _ hx)
        have h2 := hle _ _ _ hx
        cases h3 : decL n (L.drop k) with
        | none => rw [h3] at h; cases h
        | some y =>
          have := decL_len (R := y.2) hle h3
          rw [List.length_drop] at this
          omega
      · cases h
    · cases h
end Go.Proofs.YtofpnmoeimjnnaaGreat
namespace Go.Proofs.YtofpnmoeimjnnaaGreat
open Go.RowKit
open Go.ChangeMaps (setBlock)
set_option linter.unusedSimpArgs false
set_option linter.unusedVariables false
attribute [local go_sem] cell_blk frozen_blk one_int one_bool one_ptr one_slice one_map Value.cells
def PO {α : Type} (n : Nat) (P : α → Prop) (r : PR α) : Prop := ∀ x k, r = .ok (x, k) → k ≤ n ∧ P x
theorem PO.err {α : Type} {n : Nat} {P : α → Prop} {e : Nat} : PO n P (.error e : PR α) := fun _ _ h => by cases h
theorem PO.ok {α : Type} {n k : Nat} {P : α → Prop} {x : α} (hk : k ≤ n) (hx : P x) : PO n P (.ok (x, k) : PR α) := fun _ _ h => by
  cases h
  exact ⟨hk, hx⟩
theorem PO.bind {α β : Type} {n : Nat} {P : α → Prop} {R : β → Prop} {r : PR α} {f : α → Nat → PR β} (h : PO n P r) (hf : ∀ x k, k ≤ n → P x → PO n R (f x k)) : PO n R (pBind r f) := by
  cases hr : r with
  | error e => exact PO.err
  | ok y => exact hf y.1 y.2 (h _ _ hr).1 (h _ _ hr).2
theorem PO.byte {l : List UInt8} {k : Nat} : PO l.length (fun _ => True) (pByte l k) := by
  unfold pByte
  split
  · rename_i c h
    have := (List.getElem?_eq_some_iff.1 h).1
    exact PO.ok (by omega) trivial
  · exact PO.err
theorem PO.short {l : List UInt8} {k : Nat} (hk : k ≤ l.length) : PO l.length (fun n => n ≤ 65535) (pShort l k) := fun n k1 h => by
  have := pShort_fit h hk
  exact ⟨this.2.1, this.1⟩
theorem PO.bytes {l : List UInt8} {k n : Nat} : PO l.length (fun x => x.length ≤ n) (pBytes l k n) := by
  unfold pBytes
  split
  · exact PO.ok (by assumption) (by rw [List.length_take]; omega)
  · exact PO.err
theorem PO.list {l : List UInt8} {k : Nat} (hk : k ≤ l.length) : PO l.length (fun x => x.length ≤ 65535) (pList l k) := by
  unfold pList
  split
  · rename_i n k1 h
    have h1 := (PO.short hk _ _ h).2
    intro x k2 h2
    have h3 := PO.bytes _ _ h2
    exact ⟨h3.1, Nat.le_trans h3.2 h1⟩
  · exact PO.err
theorem PO.key {l : List UInt8} {k : Nat} : PO l.length (fun _ => True) (pKey l k) := by
  unfold pKey
  split
  · exact PO.ok (by assumption) trivial
  · exact PO.err
def InB (x : InP) : Prop := x.a.length ≤ 65535 ∧ x.d.length ≤ 65535
def LoB (x : LoP) : Prop := x.w.length ≤ 65535 ∧ x.r.length ≤ 65535
theorem PO.instr {l : List UInt8} {k : Nat} : PO l.length InB (pInstr l k) := by
  unfold pInstr
  split
  · exact PO.err
  · rename_i q k1 h1
    have b1 := (PO.byte _ _ h1).1
    split
    · exact PO.err
    · rename_i x k2 h2
      have b2 := PO.list b1 _ _ h2
      split
      · exact PO.err
      · rename_i y k3 h3
        have b3 := PO.list b2.1 _ _ h3
        exact PO.ok b3.1 ⟨b2.2, b3.2⟩
theorem PO.look {l : List UInt8} {k : Nat} : PO l.length LoB (pLook l k) := by
  unfold pLook
  split
  · exact PO.err
  · rename_i q k1 h1
    have b1 := (PO.key _ _ h1).1
    split
    · exact PO.err
    · rename_i x k2 h2
      have b2 := PO.list b1 _ _ h2
      split
      · exact PO.err
      · rename_i y k3 h3
        have b3 := PO.list b2.1 _ _ h3
        exact PO.ok b3.1 ⟨b2.2, b3.2⟩
theorem PO.rep {α : Type} {l : List UInt8} {P : α → Prop} {one : Nat → PR α} (h : ∀ k, k ≤ l.length → PO l.length P (one k)) : ∀ n k, k ≤ l.length → PO l.length (fun xs => xs.length = n ∧ ∀ x ∈ xs, P x) (pRep one n k)
  | 0, k, hk => PO.ok hk ⟨rfl, fun _ h => by cases h⟩
  | n + 1, k, hk => by
    rw [pRep]
    split
    · exact PO.err
    · rename_i x k1 h1
      have b1 := h k hk _ _ h1
      split
      · exact PO.err
      · rename_i xs k2 h2
        have b2 := PO.rep h n k1 b1.1 _ _ h2
        refine PO.ok b2.1 ⟨by rw [List.length_cons, b2.2.1], fun y hy => ?_⟩
        rcases List.mem_cons.1 hy with rfl | hy
        · exact b1.2
        · exact b2.2.2 y hy
theorem PO.all {α : Type} {l : List UInt8} {P : α → Prop} {one : Nat → PR α} (h : ∀ k, k ≤ l.length → PO l.length P (one k)) {k : Nat} (hk : k ≤ l.length) : PO l.length (fun xs => xs.length ≤ 65535 ∧ ∀ x ∈ xs, P x) (pAll one l k) := by
  unfold pAll
  split
  · exact PO.err
  · rename_i n k1 h1
    have b1 := PO.short hk _ _ h1
    intro xs k2 h2
    have b2 := PO.rep h n k1 b1.1 _ _ h2
    exact ⟨b2.1, by rw [b2.2.1]; exact b1.2, b2.2.2⟩
def MsB (m : MsP) : Prop := m.ks.length ≤ 65535 ∧ (m.ins.length ≤ 65535 ∧ ∀ x ∈ m.ins, InB x) ∧ (m.lks.length ≤ 65535 ∧ ∀ x ∈ m.lks, LoB x)
theorem PO.msg {l : List UInt8} {k : Nat} : PO l.length MsB (pMsg l k) := by
  refine PO.byte.bind fun c k1 h1 _ => ?_
  split
  · exact PO.err
  · refine PO.bind (P := fun _ => True) ?_ fun h0 k2 b2 _ => PO.byte.bind fun h1 k3 b3 _ => PO.byte.bind fun h2 k4 b4 _ => (PO.all (fun _ _ => PO.key) b4).bind fun ks k5 b5 c5 => PO.key.bind fun rc k6 b6 _ => (PO.all (fun _ _ => PO.instr) b6).bind fun ins k7 b7 c7 =>
      PO.bind (P := fun xs => xs.length ≤ 65535 ∧ ∀ x ∈ xs, LoB x) ?_ fun lks k8 b8 c8 => PO.ok b8 ⟨c5.1, c7, c8⟩
    · split
      · exact PO.byte
      · exact PO.ok h1 trivial
    · split
      · exact PO.all (fun _ _ => PO.look) b7
      · exact PO.ok b7 ⟨Nat.zero_le _, fun _ h => by cases h⟩
def TxB (x : TxP) : Prop := x.sg.length ≤ 65535 ∧ MsB x.m
theorem PO.tx {l : List UInt8} : PO l.length TxB (pTx l) := by
  unfold pTx
  split
  · rename_i h0
    have hf := gsh_fit l 0 0 (by decide) (by omega) h0
    split
    · exact PO.err
    · rename_i S R hS
      have h2 := takeS_len hS
      rw [List.length_drop] at h2
      intro x k h
      cases h3 : pMsg R 0 with
      | error e => rw [pBind_err h3] at h; cases h
      | ok y =>
        rw [pBind_ok h3] at h
        cases h
        have := PO.msg _ _ h3
        exact ⟨by omega, by show S.length ≤ _; omega, this.2⟩
  · exact PO.err
theorem pTx_le {l : List UInt8} {x : TxP} {k : Nat} (h : pTx l = .ok (x, k)) : k ≤ l.length := (PO.tx _ _ h).1
theorem decP_big {l : List UInt8} (h : l.length < leV (l.take 8)) : decP l = none := by
  unfold decP
  split
  · rfl
  · cases h2 : decL (leV (l.take 8)) (l.drop 8) with
    | none => rfl
    | some y =>
      have := decL_len (R := y.2) (fun l x k h => pTx_le h) h2
      rw [List.length_drop] at this
      omega
end Go.Proofs.YtofpnmoeimjnnaaGreat
namespace Go.Proofs.YtofpnmoeimjnnaaGreat
open Go.RowKit
open Go.ChangeMaps (setBlock)
set_option linter.unusedSimpArgs false
set_option linter.unusedVariables false
attribute [local go_sem] cell_blk frozen_blk one_int one_bool one_ptr one_slice one_map Value.cells
def Inv {β : Type} (R : PR β) (e : Nat) (F : PR β) : Prop := (e = 0 → R = F) ∧ (e ≠ 0 → R = .error e)
theorem Inv.start {β : Type} (R : PR β) : Inv R 0 R := ⟨fun _ => rfl, fun h => absurd rfl h⟩
theorem Inv.step {α β : Type} {R : PR β} {e k' e' : Nat} {res : PR α} {x : α} {F : α → Nat → PR β} (h : Inv R e (pBind res F)) (ht : Tk e res x k' e') (hn : NE res) : Inv R e' (F x k') := by
  by_cases he : e = 0
  · have h1 := h.1 he
    have h2 := ht.1 he
    cases res with
    | ok y =>
      obtain ⟨rfl, rfl, rfl⟩ := h2
      exact ⟨fun _ => h1, fun h => absurd rfl h⟩
    | error n =>
      simp only at h2
      subst h2
      exact ⟨fun h0 => by subst h0; exact absurd rfl hn, fun _ => h1⟩
  · obtain rfl := ht.2 he
    exact ⟨fun h0 => absurd h0 he, h.2⟩
theorem pBind_assoc {α β γ : Type} (r : PR α) (f : α → Nat → PR β) (g : β → Nat → PR γ) : pBind (pBind r f) g = pBind r (fun x k => pBind (f x k) g) := by
  cases r <;> rfl
theorem pList_bind (l : List UInt8) (k : Nat) : pList l k = pBind (pShort l k) (fun n k1 => pBytes l k1 n) := by
  unfold pList pBind
  split <;> simp_all
theorem pAll_bind {α : Type} (one : Nat → PR α) (l : List UInt8) (k : Nat) : pAll one l k = pBind (pShort l k) (fun n k1 => pRep one n k1) := by
  unfold pAll pBind
  split <;> simp_all
theorem pInstr_bind (l : List UInt8) (k : Nat) : pInstr l k = pBind (pByte l k) (fun q k1 => pBind (pList l k1) (fun x k2 => pBind (pList l k2) (fun y k3 => .ok (⟨q, x, y⟩, k3)))) := by
  unfold pInstr pBind
  cases pByte l k with
  | error e => rfl
  | ok y =>
    simp only
    cases pList l y.2 with
    | error e => rfl
    | ok z =>
      simp only
      cases pList l z.2 <;> rfl
theorem pLook_bind (l : List UInt8) (k : Nat) : pLook l k = pBind (pKey l k) (fun q k1 => pBind (pList l k1) (fun x k2 => pBind (pList l k2) (fun y k3 => .ok (⟨q, x, y⟩, k3)))) := by
  unfold pLook pBind
  cases pKey l k with
  | error e => rfl
  | ok y =>
    simp only
    cases pList l y.2 with
    | error e => rfl
    | ok z =>
      simp only
      cases pList l z.2 <;> rfl
theorem Tk.bind {α β : Type} {e k1 e1 k2 e2 : Nat} {res : PR α} {x : α} {f : α → Nat → PR β} {y : β} (h : Tk e res x k1 e1) (hn : NE res) (h2 : Tk e1 (f x k1) y k2 e2) : Tk e (pBind res f) y k2 e2 := by
  by_cases he : e = 0
  · subst he
    have h1 := h.1 rfl
    cases res with
    | ok z =>
      obtain ⟨rfl, rfl, rfl⟩ := h1
      exact h2
    | error n =>
      simp only at h1
      subst h1
      have hn0 : e1 ≠ 0 := fun h0 => by subst h0; exact hn rfl
      exact ⟨fun _ => h2.2 hn0, fun h => absurd rfl h⟩
  · have e3 := h.2 he
    subst e3
    have e4 := h2.2 he
    subst e4
    exact Tk.bad he
theorem Tk.list {e k k1 e1 k2 e2 n : Nat} {l x : List UInt8} (h : Tk e (pShort l k) n k1 e1) (h2 : Tk e1 (pBytes l k1 n) x k2 e2) : Tk e (pList l k) x k2 e2 := by
  rw [pList_bind]
  exact h.bind (NE.short l k) h2
theorem Tk.pure {α : Type} {e k : Nat} {x : α} : Tk e (.ok (x, k) : PR α) x k e := ⟨fun he => ⟨rfl, rfl, he⟩, fun _ => rfl⟩
theorem Inv.all0 {α β : Type} {R : PR β} {e k k1 e1 n : Nat} {l : List UInt8} {one : Nat → PR α} {F : List α → Nat → PR β} (h : Inv R e (pBind (pAll one l k) F)) (ht : Tk e (pShort l k) n k1 e1) : Inv R e1 (pBind (pMore [] (pRep one (n - 0) k1)) F) := by
  rw [pAll_bind, pBind_assoc] at h
  rw [pMore_nil]
  exact h.step ht (NE.short l k)
theorem Inv.rep {α β : Type} {R : PR β} {i k k2 e2 n : Nat} {one : Nat → PR α} {F : List α → Nat → PR β} {L : List α} {x : α} (hi : i < n) (h : Inv R 0 (pBind (pMore L (pRep one (n - i) k)) F)) (ht : Tk 0 (one k) x k2 e2) (hn : NE (one k)) : Inv R e2 (pBind (pMore (L ++ [x]) (pRep one (n - (i + 1)) k2)) F) := by
  rw [show n - i = (n - (i + 1)) + 1 by omega] at h
  have h1 := ht.1 rfl
  cases hr : one k with
  | ok y =>
    rw [hr] at h1
    obtain ⟨rfl, rfl, rfl⟩ := h1
    rw [pMore_step L hr] at h
    exact h
  | error m =>
    rw [hr] at h1
    simp only at h1
    subst h1
    rw [pMore_err L hr] at h
    exact ⟨fun h0 => by subst h0; rw [NE, hr] at hn; exact absurd rfl hn, fun _ => h.1 rfl⟩
theorem Inv.done {α β : Type} {R : PR β} {e i k n : Nat} {one : Nat → PR α} {F : List α → Nat → PR β} {L : List α} (h : Inv R e (pBind (pMore L (pRep one (n - i) k)) F)) (hd : n - i = 0 ∨ e ≠ 0) : Inv R e (F L k) := by
  rcases hd with hd | hd
  · rw [hd, pRep] at h
    simpa [pMore, pBind] using h
  · exact ⟨fun h0 => absurd h0 hd, h.2⟩
def YAt (b : Nat) (w : World) (a : Option Addr) (l : List UInt8) : Prop := SlAt uc 1 w a l ∧ ∀ x, a = some x → b ≤ x.block ∧ ∃ C, w.heap[x.block]? = some (.cells C 5 (0, 0))
theorem YAt.mod {b : Nat} {w w' : World} {a : Option Addr} {l : List UInt8} {S : Nat → Prop} (h : YAt b w a l) (hm : Mod S w w') (hS : ∀ g C, w.heap[g]? = some (.cells C 5 (0, 0)) → ¬ S g) : YAt b w' a l :=
  ⟨h.1.mod hm (fun g o e => by obtain ⟨_, C, hk⟩ := h.2 _ e; exact hS g C hk), fun x e => by
    obtain ⟨h1, C, hk⟩ := h.2 x e
    exact ⟨h1, C, hm.at hk (hS _ C hk)⟩⟩
theorem YAt.of {b base : Nat} {w : World} {a : Option Addr} {n c : Nat} {l : List UInt8} (h : SlOwn uc 1 5 w base (.slice a n c) l) (hb : b ≤ base) : YAt b w a l := by
  obtain ⟨a2, c2, e, hS, -⟩ := h.at bytesT
  injection e with e1 e2 e3
  subst e1
  refine ⟨hS, fun x hx => ?_⟩
  rcases h.2 with ⟨h2, _⟩ | ⟨g, cap, cur, h2, h3, h4, _⟩
  · cases h2
    cases hx
  · cases h2
    cases hx
    exact ⟨Nat.le_trans hb h3, cur, h4⟩
end Go.Proofs.YtofpnmoeimjnnaaGreat
namespace Go.Proofs.YtofpnmoeimjnnaaGreat
set_option linter.unusedVariables false
section
variable {P : Program} {ops : Array Oper} {Q : Exit → Act → World → Prop} {T0 : Nat → Prop} {w0 : World} {κ : Nat → Nat} {υ : Nat → List Tmp}
theorem TG.soundE (hsel : ∀ (j : Nat) (p : Oper) cs b, ops[j]? = some p → p.op ≠ .select cs b)
    (hback : ∀ i o, ops[i]? = some o → ∀ e ∈ o.after, Region.binds .any e = true → e.on < i) {rest : List Nat} (hrest : pairsOk ops κ rest = true) :
    ∀ (fuel : Nat) (l : List Nat) (listed : Array Bool) (a : Act) (B : Bx) (K : Land) (w : World), l.length = fuel → (l ++ rest).Nodup → (∀ i ∈ l ++ rest, i < ops.size) → gPairsOk ops κ υ l = true →
      (∀ x ∈ l, ∀ y ∈ rest, x ≠ y ∧ (behindB ops x).testBit y = true) → Listing ops listed (l ++ rest) → Closed K →
      RG T0 w0 B K w → TG P ops (fun _ a w => TE P ops Q κ rest a w) T0 w0 κ υ l a B K → wpAny P .any ops Q (rest.length + fuel) listed a w := by
  intro fuel
  induction fuel with
  | zero =>
    intro l listed a B K w hl hn hlt hp hb hL hK hR h
    obtain rfl : l = [] := List.length_eq_zero_iff.1 hl
    have hte : TE P ops Q κ rest a w := by
      cases h with | nil h => exact h w hR
    exact TE.sound hsel hback _ rest listed a w rfl (by simpa using hn) (by simpa using hlt) hrest (by simpa using hL) hte
  | succ fuel ih =>
    intro l listed a B K w hl hn hlt hp hb hL hK hR h
    refine ⟨fun hnil => ?_, fun i hi => ?_⟩
    · exfalso
      match l, hl with
      | i :: l', _ => exact exists_ready hback hL hlt i i (by simp) (Nat.le_refl _) hnil
    · obtain ⟨hun, o, ho, hall⟩ := mem_ready.1 hi
      have hil : i ∈ l := by
        rcases List.mem_append.1 ((hL.mem i).2 hun) with hin | hin
        · exact hin
        · exfalso
          clear h
          match l, hl with
          | x :: l', _ =>
            have hxy := hb x (by simp) i hin
            obtain ⟨_, hpth⟩ := (behindB_path hxy.2).resolve_left (fun e => hxy.1 e.symm)
            have hl1 := path_listed hL.closed _ x i o ho hall hpth
            have hl2 := getD_false_of_true ((hL.mem x).1 (by simp))
            rw [hl1] at hl2
            cases hl2
      obtain ⟨pre, post, rfl⟩ := List.append_of_mem hil
      obtain ⟨h1, h2⟩ := gPairsOk_split hp
      have hf := TG.front hsel ho pre a B K hK ⟨w, hR⟩ (fun x hx => by
        have := h1 x hx
        unfold gPairOk at this
        have hxo : ops[x]? = some (ops[x]'(hlt x (by simp [hx]))) := Array.getElem?_eq_getElem _
        rw [hxo, ho] at this
        simp only [Bool.or_eq_true, Bool.and_eq_true] at this
        rcases this with hpth | hok
        · obtain ⟨_, hpth⟩ := (behindB_path hpth.2).resolve_left (fun e => by have := hpth.1; simp [e] at this)
          have hl1 := path_listed hL.closed _ x i o ho hall hpth
          have hl2 := getD_false_of_true ((hL.mem x).1 (by simp [hx]))
          rw [hl1] at hl2
          cases hl2
        · exact ⟨_, hxo, hok.1, hok.2⟩) h
      have hl' : (pre ++ post).length = fuel := by simp at hl ⊢; omega
      have hsub : ((pre ++ post) ++ rest).Sublist ((pre ++ i :: post) ++ rest) := List.Sublist.append_right (List.Sublist.append_left (List.sublist_cons_self _ _) _) _
      have hn' : ((pre ++ post) ++ rest).Nodup := hn.sublist hsub
      have hlt' : ∀ j ∈ (pre ++ post) ++ rest, j < ops.size := fun j hj => hlt j (hsub.subset hj)
      have hb' : ∀ x ∈ pre ++ post, ∀ y ∈ rest, x ≠ y ∧ (behindB ops x).testBit y = true := fun x hx => hb x ((List.Sublist.append_left (List.sublist_cons_self i post) pre).subset hx)
      have hL' : Listing ops (listed.setIfInBounds i true) ((pre ++ post) ++ rest) := by
        have := Listing.next (pre := pre) (post := post ++ rest) (i := i) (by simpa using hL) (by simpa using hn) ho hall
        simpa using this
      rcases hf.kinds with ko | ko | ko | ko
      · obtain ⟨v, hy, ht⟩ := hf.inv_val ko ho
        obtain ⟨T, hRT⟩ := hR
        exact YieldsIf.wpOp ho hy hRT.mod (ih _ _ _ _ _ _ hl' hn' hlt' h2 hb' hL' hK ⟨T, hRT⟩ ht)
      · obtain ⟨hw, d, T, z, V, hd, hr, ht⟩ := hf.inv_alloc ko ho
        obtain ⟨U, hRT⟩ := hR
        have hR' : RG T0 w0 (B.set w.heap.size ⟨z, T, d⟩) K (w.alloc (.cells z T)) := ⟨U, hRT.alloc hK z T d⟩
        unfold wpOp
        simp only [ho, hw, if_true]
        refine .inl ?_
        unfold Oper.wp
        rw [hr w]
        exact ih _ _ _ _ _ _ hl' hn' hlt' h2 hb' hL' hK hR' (ht _ hRT.none ⟨_, hR'⟩)
      · obtain ⟨hw, hd, d, T, y, p, b, hop, hev, hbb, htag, hr, ht⟩ := hf.inv_store ko ho
        obtain ⟨U, hRT⟩ := hR
        unfold wpOp
        simp only [ho, hw, if_true]
        refine .inl ?_
        unfold Oper.wp
        rw [hr w (hRT.box p b hbb).2.2]
        simp only [Oper.upon, hd]
        exact ih _ _ _ _ _ _ hl' hn' hlt' h2 hb' hL' hK ⟨U, hRT.store hK hbb _⟩ ht
      · obtain ⟨hw, K', hE, ht⟩ := hf.inv_eff ko ho
        obtain ⟨U, hRT⟩ := hR
        exact (hE.step hRT).wp ho hw fun v w' hv => ih _ _ _ _ _ _ hl' hn' hlt' h2 hb' hL' (hE.cl v) hv (ht v ⟨w', hv⟩)
def eRegOk (ops : Array Oper) (κ : Nat → Nat) (υ : Nat → List Tmp) (l rest : List Nat) : Bool :=
  Region.noSelect ops && ((List.range ops.size).all fun i => match ops[i]? with | none => false | some o => o.after.all fun e => !Region.binds .any e || decide (e.on < i)) &&
  (decide (rest.length + l.length = ops.size) && ((l ++ rest).all (fun i => decide (i < ops.size)) && ((List.range ops.size).all fun i => (l ++ rest).contains i))) &&
  (decide (l ++ rest).Nodup && gPairsOk ops κ υ l && pairsOk ops κ rest && l.all (fun x => rest.all fun y => !(x == y) && (behindB ops x).testBit y))
theorem e_any {a : Act} {w1 : World} {K : Land} (l rest : List Nat) (hok : eRegOk ops κ υ l rest = true) (hK : Closed K) (hR : RG T0 w0 Bx.nil K w1)
    (h : TG P ops (fun _ a w => TE P ops Q κ rest a w) T0 w0 κ υ l a Bx.nil K) : wpAny P .any ops Q ops.size (Array.replicate ops.size false) a w1 := by
  simp only [eRegOk, Bool.and_eq_true, List.all_eq_true, decide_eq_true_eq] at hok
  obtain ⟨⟨⟨h1, h2⟩, h3, h4, h5⟩, ⟨⟨hnd, h6⟩, h7⟩, h8⟩ := hok
  have hback : ∀ i o, ops[i]? = some o → ∀ e ∈ o.after, Region.binds .any e = true → e.on < i := fun i o ho e he hb => by
    have := h2 i (List.mem_range.2 (Array.getElem?_eq_some_iff.1 ho).1)
    rw [ho] at this
    have := Array.all_eq_true_iff_forall_mem.1 this e he
    simpa [hb] using this
  rw [← h3]
  refine TG.soundE (Region.noSelect_spec h1) hback h7 _ l _ a _ _ _ rfl hnd h4 h6 (fun x hx y hy => ?_) ?_ hK hR h
  · have := h8 x hx y hy
    exact ⟨by simpa using this.1, this.2⟩
  · rw [h3]
    refine ⟨by simp, fun i => ?_, fun i o hi => ?_⟩
    · constructor
      · intro hi
        have := h4 i hi
        simp [this]
      · intro hi
        have : i < ops.size := by
          rcases Nat.lt_or_ge i ops.size with h' | h'
          · exact h'
          · simp [Nat.not_lt.2 h'] at hi
        simpa using h5 i (List.mem_range.2 this)
    · exfalso
      have : (Array.replicate ops.size false).getD i false = false := by
        by_cases h' : i < ops.size
        · simp [h']
        · simp [h']
      rw [this] at hi
      cases hi
theorem wp_epass {id : Nat} {a : Act} {w : World} {K : Land} (l rest : List Nat) (hm : P.follows .mixedOrders = true) (hok : eRegOk ops κ υ l rest = true) (hK : Closed K) (hk : K T0 w) (hlt : ∀ i, T0 i → i < w.heap.size)
    (h : TG P ops (fun _ a w => TE P ops Q κ rest a w) T0 w κ υ l a Bx.nil K) : (Code.region id ops true).wp P Q a w :=
  wp_region_any hm (e_any l rest hok hK ⟨T0, hK T0 w w.drew hk (Mod.refl _ w).drew, hlt, fun _ _ h => h, (Mod.refl _ w).drew, fun _ _ hh => by cases hh⟩ h)
end
end Go.Proofs.YtofpnmoeimjnnaaGreat
