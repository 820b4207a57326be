/- The lemmas of the proof, part Mb1: how the program and its data lie in memory, and what its functions do. -/
import Derived.Test.YtiaehkkkcaeaiaaGreatDoorM7
set_option linter.unusedSimpArgs false
set_option linter.unusedVariables false
set_option linter.unusedSectionVars false
namespace Go.Proofs.YtiaehkkkcaeaiaaGreatDoor
open Go.RowKit
open Go.ChangeMaps (setBlock)
attribute [local go_sem ↓] wlKey ldKey stKey ldSg stSg wlTc ldTc stTc eqKey1
attribute [local go_sem] cell_blk frozen_blk kc_ext one_int one_bool one_ptr one_slice one_map kc_one kc_one0 kc_size zKey_size sgc_size sgc_ext sgc_one0 sgc_one' txr_size txr_all txr_one txr_one' txr0 txr38 txr39 txr0' txr38' txr39' zTx_size Value.cells
theorem find_put {T : TbL} {k k' : Key} {l r : List Key} (h : tbFind T k' = some r) : tbFind (tbPut T k l) k' = some r := by
 unfold tbPut
 split
 ·exact h
 ·split
  ·exact h
  ·unfold tbFind at h ⊢
   rw [List.find?_append]
   cases hf : T.find? (fun x => decide (x.1 = k')) with
   | none => rw [hf] at h; cases h
   | some x => rw [hf] at h; exact h
theorem find_puts {k' : Key} {r : List Key} : ∀ {C : List TbR} {T : TbL}, tbFind T k' = some r → tbFind (C.foldl (fun T x => tbPut T x.k x.s.l) T) k' = some r
 | [], T, h => h
 | x :: C, T, h => find_puts (C := C) (find_put h)
theorem find_laid {A C : List TbR} {k' : Key} {r : List Key} (h : tbFind (laidT A) k' = some r) : tbFind (laidT (A ++ C)) k' = some r := by
 unfold laidT at h ⊢
 rw [List.foldl_append]
 exact find_puts h
theorem res_mono {T1 T2 : TbL} (hT : ∀ k r, tbFind T1 k = some r → tbFind T2 k = some r) : ∀ {L : List LoP} {o y : List Key × List Key}, resP T1 L o = .ok y → resP T2 L o = .ok y
 | [], o, y, h => h
 | x :: xs, o, y, h => by
  unfold resP at h ⊢
  split at h
  ·cases h
  ·rename_i l hl
   rw [hT _ _ hl]
   simp only
   split at h
   ·rename_i a b ha hb
    exact res_mono hT h
   ·cases h
theorem ready_mono {T1 T2 : TbL} {B : List UInt8} {y : RyP} (hT : ∀ k r, tbFind T1 k = some r → tbFind T2 k = some r) (h : readyP T1 B = .ok y) : readyP T2 B = .ok y := by
 unfold readyP at h ⊢
 split at h
 ·cases h
 ·split at h
  ·cases h
  ·rename_i ws rs hres
   rw [res_mono hT hres]
   exact h
theorem ready_alike {T1 T2 : TbL} {B : List UInt8} {x : TxP} (hw : wireP B = .ok x) (hl : x.m.lks.length = 0) : readyP T1 B = readyP T2 B := by
 unfold readyP
 rw [hw]
 simp only
 rw [List.eq_nil_of_length_eq_zero hl]
 rfl
theorem tbT2 : ElT Tryz.prog 51 93 tbr 33 56 where
 u := Tryz.underlying51
 info := by
  obtain ⟨i0, hi, hz0, hz1, hz2⟩ := info_parts (show (Tryz.prog.info? 93).map (fun i => (i.zero, i.size, i.bytes)) = some (some (.agg zTb), 33, 56) by kernel_rfl)
  exact ⟨i0, _, hi, hz0, hz1, hz2, by simp [Value.cells, zTb_size]⟩
 pos := by omega
 size x := tbr_size x
 one x := by
  have := tbr_one' x
  rw [Array.all_eq_true_iff_forall_mem] at this
  intro u hu
  exact this u (by simpa using hu)
theorem two_lists {w : World} {la ma : Option Addr} {L M : List TbR} (lc mc : Nat) (hl : SlAt tbr 33 w la L) (hm : SlAt tbr 33 w ma M) (hn : L.length + M.length ≤ 1000) (t1 t2 : TypeId) :
  ∃ v1 w1 a c w2, (Builtin.append_ #[51, 51] t1 #[.slice none 0 0, .slice la L.length lc]).run Tryz.prog w = .ok v1 w1 ∧
   (Builtin.append_ #[51, 51] t2 #[v1, .slice ma M.length mc]).run Tryz.prog w1 = .ok (.slice a (L ++ M).length c) w2 ∧ SlAt tbr 33 w2 a (L ++ M) ∧ Mod (fun _ => False) w w2 := by
 obtain ⟨v1, w1, h1, o1, m1, -⟩ := SlOwn.append tbT2 (c := lc) (SlOwn.nil w w.heap.size) hl (by simp only [List.length_nil]; omega) (by omega) (Nat.le_refl _) t1
 have m1' : Mod (fun _ => False) w w1 := m1.mono (fun i _ h => by cases h)
 rw [List.nil_append] at o1
 obtain ⟨v2, w2, h2, o2, m2, -⟩ := SlOwn.append tbT2 (c := mc) o1 (hm.mod0 m1') (by omega) (by omega) m1'.size t2
 obtain ⟨a, c, rfl, ha, -⟩ := o2.at tbT2
 exact ⟨v1, w1, a, c, w2, h1, h2, ha, m1'.then m2 (fun i hi e => by have := (o1.lt i e).1; omega)⟩
end Go.Proofs.YtiaehkkkcaeaiaaGreatDoor
namespace Go.Proofs.YtiaehkkkcaeaiaaGreatDoor
open Go.RowKit
open Go.ChangeMaps (setBlock)
attribute [local go_sem ↓] wlKey ldKey stKey ldSg stSg wlTc ldTc stTc eqKey1
attribute [local go_sem] cell_blk frozen_blk kc_ext one_int one_bool one_ptr one_slice one_map kc_one kc_one0 kc_size zKey_size sgc_size sgc_ext sgc_one0 sgc_one' txr_size txr_all txr_one txr_one' txr0 txr38 txr39 txr0' txr38' txr39' zTx_size Value.cells
attribute [local go_sem ↓] wlRdy ldRdy stRdy
attribute [local go_sem] zTc_size zTc_ext zTc_all zTc_all0 rdr_size rdr_all rdr_one zRdy_size zRdy_one
set_option maxRecDepth 20000 in
set_option maxHeartbeats 6400000 in
theorem ry_rd {b : Nat} {w : World} {z : RdR} {T : TbL} {B : List UInt8} {y : RyP} (hO : RyO b w z) (hTB : TxB (txP z)) (hy : readyP T B = .ok y) (hzy : ryP z = y) : RyRd w z := by
 obtain ⟨x, ws, rs, ro, hx, hro, hyt, hrl⟩ := ready_ok hy
 have ey := hzy.trans hyt
 have e1 : z.b.l = B := congrArg RyP.b ey
 have e3 : z.ro.l = ro := congrArg RyP.ro ey
 have h1 := (wire_put hx).2
 have h2 := (wire_few hx).1
 exact ⟨⟨ns_rd hO.2.1, by rw [e1]; omega⟩, hO.1.rd hTB, ns_rd hO.2.2.1, by rw [e3]; omega⟩
set_option maxRecDepth 20000 in
set_option maxHeartbeats 6400000 in
theorem tablesLaw_c (ba : Option Addr) (B : List UInt8) (bc : Nat) (la : Option Addr) (L : List TbR) (lc : Nat) (ma : Option Addr) (M : List TbR) (mc : Nat) (w : World) (hb : ArgB w ba B bc) (hl : SlAt tbr 33 w la L) (hok : TasOk w L) (hm : SlAt tbr 33 w ma M) (hokm : TasOk w M) (hB : BudW w) :
  Calls Tryz.prog 6 #[.slice ba B.length bc, .slice la L.length lc, .slice ma M.length mc] w fun e w' => e = .returned (.bool true) ∧ Mod (fun _ => False) w w' := by
 have HB := Lib.hid hB
 have HA := Lib.hid hb
 have HL := Lib.hid (And.intro hl hok)
 have HLM := Lib.hid (And.intro hm hokm)
 have HGR := Lib.hid (great_c ba B.length bc la L lc w hl)
 have HGR2 := Lib.hid (fun w1 (m : Mod (fun _ => False) w w1) => great_c ba B.length bc ma M mc w1 (hm.mod0 m))
 obtain ⟨bn, hbn⟩ : ∃ bn, B.length = bn := ⟨_, rfl⟩
 have HBN := Lib.hid hbn
 rw [hbn] at HGR HGR2 ⊢
 clear hb hl hok hB hbn hm hokm
 cases hgr : greatB bn L with
 | true =>
  have HE := Lib.hid hgr
  go_enter Tryz.func6, Tryz.ntmps6
  go_wp2_with fail
  go_at_call 11
  refine HGR.out.mono ?_
  rintro e w1 ⟨rfl, m1⟩
  have HM1 := Lib.hid m1
  rw [HE.out]
  clear m1 hgr
  go_wp2_with fail
  go_at_call 8
  refine (lives_c _ (HB.out.mod0 HM1.out)).mono ?_
  rintro e w2 ⟨rfl, m2⟩
  go_wp2_with fail
  go_ret
  exact ⟨rfl, HM1.out.then0 m2⟩
 | false =>
  have HE := Lib.hid hgr
  obtain ⟨g1, g2, g3⟩ := great_no hgr
  have HG := Lib.hid (And.intro g1 (And.intro g2 g3))
  go_enter Tryz.func6, Tryz.ntmps6
  go_wp2_with fail
  go_at_call 11
  refine HGR.out.mono ?_
  rintro e w1 ⟨rfl, m1⟩
  have HM1 := Lib.hid m1
  rw [HE.out]
  clear m1 hgr g1 g2 g3
  go_wp2_with fail
  go_at_call 11
  refine (HGR2.out w1 HM1.out).mono ?_
  rintro e w1b ⟨rfl, m1⟩
  have HM1b := Lib.hid (HM1.out.then0 m1)
  clear m1
  cases hgm : greatB bn M with
  | true =>
   clear hgm
   go_wp2_with fail
   go_at_call 8
   refine (lives_c _ (HB.out.mod0 HM1b.out)).mono ?_
   rintro e w99 ⟨rfl, m99⟩
   go_wp2_with fail
   go_ret
   exact ⟨rfl, HM1b.out.then0 m99⟩
  | false =>
   obtain ⟨g1, g2, g3⟩ := great_no hgm
   have HG2 := Lib.hid (And.intro g2 g3)
   clear hgm g1 g2 g3
   go_wp2_with fail
   go_at_call 12
   refine (laid_c la L lc _ (HL.out.1.mod0 HM1b.out) (fun x hx => (HL.out.2.mod0 HM1b.out x hx).f (HG.out.2.2 x hx)) (by have := HG.out.2.1; omega)).mono ?_
   rintro e w2 ⟨h, r, m, b, v, rfl, hRA, hRf, hwm, m2⟩
   have HM2 := Lib.hid (HM1b.out.then0 m2)
   have HRA := Lib.hid hRA
   clear hRA hRf hwm m2
   obtain ⟨v1, wa, a2, c2, wb, hap1, hap2, hs2, hmab⟩ := two_lists (w := w2) lc mc (HL.out.1.mod0 HM2.out) (HLM.out.1.mod0 HM2.out) (by have := HG.out.2.1; have := HG2.out.1; omega) 51 51
   have hC := laid_c a2 (L ++ M) c2 wb hs2 (fun x hx => by
    rcases List.mem_append.1 hx with hx | hx
    ·exact (HL.out.2.mod0 (HM2.out.then0 hmab) x hx).f (HG.out.2.2 x hx)
    ·exact (HLM.out.2.mod0 (HM2.out.then0 hmab) x hx).f (HG2.out.2 x hx)) (by have := HG.out.2.1; have := HG2.out.1; rw [List.length_append]; omega)
   have HMAB := Lib.hid hmab
   clear hs2 hmab
   go_upto_region 4 with fail
   refine region_seq 10 rfl ?_
   simp only [List.range, List.range.loop]
   (refine sq_val (v := ?_) (by simp only [zK]; rfl) (by rfl) ?_ ?_; rotate_left; (next => go_simp; try with_reducible rfl); try simp only [zL])
   (refine sq_append (by simp only [zK]; rfl) (by rfl) rfl ?hx2 ?hz2 hap1 ?n2; (case hx2 => simp only [zM]; try rfl); (case hz2 => simp only [zM]; try rfl); try simp only [zL])
   (refine sq_val (v := ?_) (by simp only [zK]; rfl) (by rfl) ?_ ?_; rotate_left; (next => go_simp; try with_reducible rfl); try simp only [zL])
   (refine sq_append (by simp only [zK]; rfl) (by rfl) rfl ?hx4 ?hz4 hap2 ?n4; (case hx4 => simp only [zM]; try rfl); (case hz4 => simp only [zM]; try rfl); try simp only [zL])
   (refine sq_callT (by simp only [zK]; rfl) (by rfl) ?y5 hC ?hout (fun vn wn hR => ?hret) (fun ch wn hR => ?hpan); (case y5 => (go_simp; (try (first | with_reducible rfl | (constructor <;> with_reducible rfl))))))
   case hout => exact fun w' h => by obtain ⟨_, _, _, _, _, h, _⟩ := h; cases h
   case hpan => obtain ⟨_, _, _, _, _, h, _⟩ := hR; cases h
   case hret =>
   obtain ⟨h2, r2, m2, b2, v2, hv, hRA2, -, -, mm⟩ := hR
   cases hv
   have HM4 := Lib.hid (HM2.out.then0 (HMAB.out.then0 mm))
   have HRA4 := Lib.hid (HRA.out.mod0 (HMAB.out.then0 mm))
   have HRB := Lib.hid hRA2
   clear hRA2 mm hap1 hap2 hC
   (try simp only [zL])
   obtain ⟨w4, rfl⟩ : ∃ w4 : World, w4 = wn := ⟨_, rfl⟩
   iterate 5 (refine sq_val (v := ?_) (by simp only [zK]; rfl) (by rfl) ?_ ?_; rotate_left; (next => go_simp; try with_reducible rfl); try simp only [zL])
   refine sq_nil ?_
   have hC := ready_c (l := B) (c := bc) w4 HRA4.out (HB.out.mod0 HM4.out) (HA.out.at_.mod0 HM4.out) HA.out.le HA.out.nn (by have := HG.out.1; have := HBN.out; omega) (HA.out.mod0 HM4.out).inn
   rw [HBN.out] at hC
   go_upto_region 5 with fail
   refine region_seq 9 rfl ?_
   simp only [List.range, List.range.loop]
   iterate 2 (refine sq_val (v := ?_) (by simp only [zK]; rfl) (by rfl) ?_ ?_; rotate_left; (next => go_simp; try with_reducible rfl); try simp only [zL])
   (refine sq_callT (by simp only [zK]; rfl) (by rfl) ?y13 hC ?hout (fun vn wn hR => ?hret) (fun ch wn hR => ?hpan); (case y13 => (go_simp; (try (first | with_reducible rfl | (constructor <;> with_reducible rfl))))))
   case hout => exact fun w' h => h.out
   case hpan => exact hR.pan.elim
   case hret =>
   obtain ⟨hm5, z1, n1, e0, hc1⟩ := hR.two
   cases e0
   have HM5 := Lib.hid (HM4.out.trans hm5)
   have HRB5 := Lib.hid (HRB.out.mod0 hm5)
   have HC1 := Lib.hid hc1
   clear hC hR hm5 hc1
   (try simp only [zL])
   obtain ⟨w5, rfl⟩ : ∃ w5 : World, w5 = wn := ⟨_, rfl⟩
   iterate 3 (refine sq_val (v := ?_) (by simp only [zK]; rfl) (by rfl) ?_ ?_; rotate_left; (next => go_simp; try with_reducible rfl); try simp only [zL])
   (refine sq_alloc (by simp only [zK]; rfl) (by rfl) rfl alRdy (fun p11 wn gp11 kp11 mp11 => ?n17); try simp only [zL])
   (refine sq_store (X := ?X18) (Y := ?Y18) (w' := ?w18) (by simp only [zK]; rfl) (by rfl) rfl rfl ?hx18 ?hz18 ?y18 ?n18; (case hx18 => simp only [zM]; try rfl); (case hz18 => simp only [zM]; try rfl); (case y18 => go_simp; try with_reducible rfl))
   (first | refine sq_set kp11 (fun wn kp11 mS => ?_) | refine sq_setCell kp11 (fun wn kp11 mS => ?_))
   (refine sq_val (v := ?_) (by simp only [zK]; rfl) (by rfl) ?_ ?_; rotate_left; (next => go_simp; try with_reducible rfl); try simp only [zL])
   refine sq_nil ?_
   replace kp11 : wn.heap[p11]? = some (.cells (rdr z1) 41 (0, 0)) := kp11
   have m6 : Mod (fun _ => False) w5 wn := mp11.then mS (fun i hi e => by omega)
   have HM6 := Lib.hid (HM5.out.then0 m6)
   have HRB6 := Lib.hid (HRB5.out.mod0 m6)
   have HM56 := Lib.hid m6
   clear mS mp11 gp11 m6
   obtain ⟨w6, rfl⟩ : ∃ w6 : World, w6 = wn := ⟨_, rfl⟩
   have hC := ready_c (l := B) (c := bc) w6 HRB6.out (HB.out.mod0 HM6.out) (HA.out.at_.mod0 HM6.out) HA.out.le HA.out.nn (by have := HG.out.1; have := HBN.out; omega) (HA.out.mod0 HM6.out).inn
   rw [HBN.out] at hC
   go_upto_region 6 with fail
   refine region_seq 9 rfl ?_
   simp only [List.range, List.range.loop]
   iterate 2 (refine sq_val (v := ?_) (by simp only [zK]; rfl) (by rfl) ?_ ?_; rotate_left; (next => go_simp; try with_reducible rfl); try simp only [zL])
   (refine sq_callT (by simp only [zK]; rfl) (by rfl) ?y22 hC ?hout (fun vn wn hR => ?hret) (fun ch wn hR => ?hpan); (case y22 => (go_simp; (try (first | with_reducible rfl | (constructor <;> with_reducible rfl))))))
   case hout => exact fun w' h => h.out
   case hpan => exact hR.pan.elim
   case hret =>
   obtain ⟨hm7, z2, n2, e0, hc2⟩ := hR.two
   cases e0
   have HM7 := Lib.hid (HM6.out.trans hm7)
   have HM57 := Lib.hid (HM56.out.trans hm7)
   replace kp11 := hm7.at0 kp11
   have HC2 := Lib.hid hc2
   clear hC hR hm7 hc2
   (try simp only [zL])
   obtain ⟨w7, rfl⟩ : ∃ w7 : World, w7 = wn := ⟨_, rfl⟩
   iterate 3 (refine sq_val (v := ?_) (by simp only [zK]; rfl) (by rfl) ?_ ?_; rotate_left; (next => go_simp; try with_reducible rfl); try simp only [zL])
   (refine sq_alloc (by simp only [zK]; rfl) (by rfl) rfl alRdy (fun p13 wn gp13 kp13 mp13 => ?n26); try simp only [zL])
   (refine sq_store (X := ?X27) (Y := ?Y27) (w' := ?w27) (by simp only [zK]; rfl) (by rfl) rfl rfl ?hx27 ?hz27 ?y27 ?n27; (case hx27 => simp only [zM]; try rfl); (case hz27 => simp only [zM]; try rfl); (case y27 => go_simp; try with_reducible rfl))
   (first | refine sq_set kp13 (fun wn kp13 mS => ?_) | refine sq_setCell kp13 (fun wn kp13 mS => ?_))
   (refine sq_val (v := ?_) (by simp only [zK]; rfl) (by rfl) ?_ ?_; rotate_left; (next => go_simp; try with_reducible rfl); try simp only [zL])
   refine sq_nil ?_
   replace kp13 : wn.heap[p13]? = some (.cells (rdr z2) 41 (0, 0)) := kp13
   have m8 : Mod (fun _ => False) w7 wn := mp13.then mS (fun i hi e => by omega)
   replace kp11 := m8.at0 kp11
   have HM8 := Lib.hid (HM7.out.then0 m8)
   have HM58 := Lib.hid (HM57.out.then0 m8)
   have HM78 := Lib.hid m8
   clear mS mp13 gp13 m8
   obtain ⟨w8, rfl⟩ : ∃ w8 : World, w8 = wn := ⟨_, rfl⟩
   have HWE : Hid (∀ n, wireP B = .error n → n1 = n ∧ n2 = n) := Lib.hid (fun n hw => by
    have r1 := ready_wire (T := laidT L) hw
    have r2 := ready_wire (T := laidT (L ++ M)) hw
    constructor
    ·rcases HC1.out with ⟨⟨y, hy, _⟩, _⟩ | ⟨he, _, _⟩
     ·rw [r1] at hy; cases hy
     ·rw [r1] at he; exact (Except.error.inj he).symm
    ·rcases HC2.out with ⟨⟨y, hy, _⟩, _⟩ | ⟨he, _, _⟩
     ·rw [r2] at hy; cases hy
     ·rw [r2] at he; exact (Except.error.inj he).symm)
   have HWL : Hid (∀ x, wireP B = .ok x → x.m.lks.length = 0 → n1 = n2) := Lib.hid (fun x hw hk => by
    have ra := ready_alike (T1 := laidT L) (T2 := laidT (L ++ M)) hw hk
    rcases HC1.out with ⟨⟨y1, hy1, _⟩, h1⟩ | ⟨he1, _, _⟩
    ·rcases HC2.out with ⟨⟨y2, hy2, _⟩, h2⟩ | ⟨he2, _, _⟩
     ·rw [h1, h2]
     ·rw [hy1, he2] at ra; cases ra
    ·rcases HC2.out with ⟨⟨y2, hy2, _⟩, h2⟩ | ⟨he2, _, _⟩
     ·rw [he1, hy2] at ra; cases ra
     ·rw [he1, he2] at ra; exact Except.error.inj ra)
   rcases HC1.out with ⟨⟨y, hy, hO1, hz1, hT1⟩, rfl⟩ | ⟨herr, hne1, -⟩
   ·have hy2 := ready_mono (T2 := laidT (L ++ M)) (fun k r h => find_laid h) hy
    rcases HC2.out with ⟨⟨y2, hy2', hO2, hz2, hT2⟩, rfl⟩ | ⟨he2, _, _⟩
    ·obtain rfl : y = y2 := by rw [hy2] at hy2'; exact Except.ok.inj hy2'
     have HS := Lib.hid (And.intro ((ry_rd hO1 hT1 hy hz1).mod0 HM58.out) (And.intro ((ry_rd hO2 hT2 hy2 hz2).mod0 HM78.out) (hz1.trans hz2.symm)))
     clear hy hO1 hz1 hT1 hy2 hy2' hO2 hz2 hT2 HC1 HC2
     go_upto_region 7 with fail
     have Lkp11 := lt_size kp11
     have Lkp13 := lt_size kp13
     refine wp_pass0 (C := fun _ _ v => v = .bool true) (κ := fun i => [0, 0, 0, 0, 0, 0, 1, 1, 2, 0, 0, 0].getD i 0) [0, 1, 2, 3, 4, 5, 6, 7, 8, 9, 10, 11] (by kernel_rfl) (by kernel_rfl) (fun _ _ d _ _ h => by cases d <;> first | exact h | exact absurd h (hP _ _ _)) ?_
     iterate 6 (refine TD.val0 (v := ?_) (by simp only [zK]; rfl) rfl (by rfl) (fun w1 => ?_) ?_; rotate_left; (next => go_simp; try with_reducible rfl); try simp only [zL])
     (refine TD.load (v := ?v35) (p := ?p35) (Mod.refl _ _) (by simp only [zK]; rfl) rfl (by rfl) rfl ?hx35 (fun wq hSq => ?y35) ?n35; (case hx35 => simp only [zM]; try rfl); (case y35 => (have kp11q := hSq.at kp11 (fun h => h); have kp13q := hSq.at kp13 (fun h => h); exact (ldRdyR kp11q))); try simp only [zL])
     (refine TD.load (v := ?v36) (p := ?p36) (Mod.refl _ _) (by simp only [zK]; rfl) rfl (by rfl) rfl ?hx36 (fun wq hSq => ?y36) ?n36; (case hx36 => simp only [zM]; try rfl); (case y36 => (have kp11q := hSq.at kp11 (fun h => h); have kp13q := hSq.at kp13 (fun h => h); exact (ldRdyR kp13q))); try simp only [zL])
     (refine TD.call (f := ?f37) (args := ?r37) (Mod.refl _ _) (by simp only [zK]; rfl) rfl (by rfl) (fun w1 => ?y37) ?hsp37 ?n37; (case y37 => (go_simp; (first | with_reducible rfl | (constructor <;> with_reducible rfl)))); (case hsp37 => (intro wq hSq; have kp11q := hSq.at kp11 (fun h => h); have kp13q := hSq.at kp13 (fun h => h); exact (sameReady_c z1 z2 wq (HS.out.1.mod0 hSq) (HS.out.2.1.mod0 hSq) HS.out.2.2).mono (fun e w' h => ⟨_, h.1, rfl, h.2⟩))); rintro _ hC; subst hC; try simp only [zL])
     iterate 3 (refine TD.val0 (v := ?_) (by simp only [zK]; rfl) rfl (by rfl) (fun w1 => ?_) ?_; rotate_left; (next => go_simp; try with_reducible rfl); try simp only [zL])
     refine TD.nil (fun w9 hr => ?_)
     replace kp11 := hr.mod.at kp11 (fun h => h)
     replace kp13 := hr.mod.at kp13 (fun h => h)
     have HM9 := Lib.hid (HM8.out.then0 hr.mod)
     clear hr
     have hW := wire_c (c := bc) w9 (HA.out.at_.mod0 HM9.out) HA.out.le HA.out.nn (by have := HG.out.1; have := HBN.out; omega) (HA.out.mod0 HM9.out).inn
     rw [HBN.out] at hW
     go_upto_region 9 with fail
     refine region_seq 8 rfl ?_
     simp only [List.range, List.range.loop]
     (refine sq_val (v := ?_) (by simp only [zK]; rfl) (by rfl) ?_ ?_; rotate_left; (next => go_simp; try with_reducible rfl); try simp only [zL])
     (refine sq_callT (by simp only [zK]; rfl) (by rfl) ?y42 hW ?hout (fun vn wn hR => ?hret) (fun ch wn hR => ?hpan); (case y42 => (go_simp; (try (first | with_reducible rfl | (constructor <;> with_reducible rfl))))))
     case hout => exact fun w' h => h.out
     case hpan => exact hR.pan.elim
     case hret =>
     unfold WirP at hR
     obtain ⟨hm, hr⟩ := hR
     have HM10 := Lib.hid (HM9.out.trans hm)
     clear hW hm
     cases hres : wireP B with
     | error n =>
      rw [hres] at hr
      cases hr
      exact absurd (HWE.out n hres).1.symm (chk_ne hres)
     | ok x =>
      rw [hres] at hr
      obtain ⟨z3, hv0, -, hzx3, -⟩ := hr
      cases hv0
      have HK := Lib.hid (fun (hk : z3.lks.l.length = 0) => HWL.out x hres (by rw [← hzx3]; simp [txP, msgP, hk]))
      clear hres hzx3
      (try simp only [zL])
      obtain ⟨w10, rfl⟩ : ∃ w10 : World, w10 = wn := ⟨_, rfl⟩
      iterate 3 (refine sq_val (v := ?_) (by simp only [zK]; rfl) (by rfl) ?_ ?_; rotate_left; (next => go_simp; try with_reducible rfl); try simp only [zL])
      (refine sq_alloc (by simp only [zK]; rfl) (by rfl) rfl alTx (fun p15 wn gp15 kp15 mp15 => ?n46); try simp only [zL])
      (refine sq_store (X := ?X47) (Y := ?Y47) (w' := ?w47) (by simp only [zK]; rfl) (by rfl) rfl rfl ?hx47 ?hz47 ?y47 ?n47; (case hx47 => simp only [zM]; try rfl); (case hz47 => simp only [zM]; try rfl); (case y47 => go_simp; try with_reducible rfl))
      (first | refine sq_set kp15 (fun wn kp15 mS => ?_) | refine sq_setCell kp15 (fun wn kp15 mS => ?_))
      (refine sq_val (v := ?_) (by simp only [zK]; rfl) (by rfl) ?_ ?_; rotate_left; (next => go_simp; try with_reducible rfl); try simp only [zL])
      refine sq_nil ?_
      replace kp15 : wn.heap[p15]? = some (.cells (txr z3) 35 (0, 0)) := kp15
      have m11 : Mod (fun _ => False) w10 wn := mp15.then mS (fun i hi e => by omega)
      have HM11 : Hid (Mod (fun _ => False) w wn) := Lib.hid (HM10.out.then0 m11)
      clear mS mp15 gp15 m11
      obtain ⟨w11, rfl⟩ : ∃ w11 : World, w11 = wn := ⟨_, rfl⟩
      go_upto_region 12 with fail
      have Lkp15 := lt_size kp15
      refine wp_pass0 (C := fun _ _ _ => False) (κ := fun i => [0, 0, 1, 0, 0].getD i 0) [0, 1, 2, 3, 4] (by kernel_rfl) (by kernel_rfl) (fun _ _ d _ _ h => by cases d <;> first | exact h | exact absurd h (hP _ _ _)) ?_
      iterate 5 first | (refine TD.val0 (v := ?_) (by simp only [zK]; rfl) rfl (by rfl) (fun w1 => ?_) ?_; rotate_left; (next => go_simp; try with_reducible rfl); try simp only [zL]) | (refine TD.load (v := ?_) (p := ?_) (Mod.refl _ _) (by simp only [zK]; rfl) rfl (by rfl) rfl ?_ (fun wq hSq => ?_) ?_; rotate_left 2; (next => simp only [zM]; try rfl); (next => have kp15q := hSq.at kp15 (fun h => h); go_simp; try with_reducible rfl); try simp only [zL])
      refine TD.nil (fun w12 hr => ?_)
      replace kp15 := hr.mod.at kp15 (fun h => h)
      have HM12 := Lib.hid (HM11.out.then0 hr.mod)
      clear hr
      by_cases hk : z3.lks.l.length = 0
      ·have hk1 : ((z3.lks.l.length : Int) == 0) = true := by simp [hk]
       have hk2 : decide (z3.lks.l.length = 0) = true := by simp [hk]
       have hk3 : (z3.lks.l.length == 0) = true := by simp [hk]
       clear hk
       go_wp2_with fail
       go_at_call 8
       refine (lives_c _ (HB.out.mod0 HM12.out)).mono ?_
       rintro e w99 ⟨rfl, m99⟩
       go_wp2_with fail
       go_ret
       exact ⟨rfl, HM12.out.then0 m99⟩
      ·have hk1 : ((z3.lks.l.length : Int) == 0) = false := by rw [beq_eq_false_iff_ne]; omega
       have hk2 : decide (z3.lks.l.length = 0) = false := by simp [hk]
       have hk3 : (z3.lks.l.length == 0) = false := by simp [hk]
       clear hk
       go_wp2_with fail
       go_at_call 8
       refine (lives_c _ (HB.out.mod0 HM12.out)).mono ?_
       rintro e w99 ⟨rfl, m99⟩
       go_wp2_with fail
       go_ret
       exact ⟨rfl, HM12.out.then0 m99⟩
    ·rw [hy2] at he2
     cases he2
   ·have hq1 : ((n1 : Int) == 0) = false := by simp; omega
    have hq2 : decide (n1 = 0) = false := by simp; omega
    have hq3 : (n1 == 0) = false := by simp; omega
    clear herr HC1 HC2
    have HM9 := HM8
    obtain ⟨w9, rfl⟩ : ∃ w9 : World, w9 = w8 := ⟨_, rfl⟩
    have HNE := Lib.hid hne1
    clear hne1
    have hW := wire_c (c := bc) w9 (HA.out.at_.mod0 HM9.out) HA.out.le HA.out.nn (by have := HG.out.1; have := HBN.out; omega) (HA.out.mod0 HM9.out).inn
    rw [HBN.out] at hW
    go_upto_region 9 with fail
    refine region_seq 8 rfl ?_
    simp only [List.range, List.range.loop]
    (refine sq_val (v := ?_) (by simp only [zK]; rfl) (by rfl) ?_ ?_; rotate_left; (next => go_simp; try with_reducible rfl); try simp only [zL])
    (refine sq_callT (by simp only [zK]; rfl) (by rfl) ?y55 hW ?hout (fun vn wn hR => ?hret) (fun ch wn hR => ?hpan); (case y55 => (go_simp; (try (first | with_reducible rfl | (constructor <;> with_reducible rfl))))))
    case hout => exact fun w' h => h.out
    case hpan => exact hR.pan.elim
    case hret =>
    unfold WirP at hR
    obtain ⟨hm, hr⟩ := hR
    have HM10 := Lib.hid (HM9.out.trans hm)
    clear hW hm
    cases hres : wireP B with
    | error n =>
     rw [hres] at hr
     simp only at hr
     cases hr
     have hne := chk_ne hres
     have h1 : n1 = n := (HWE.out n hres).1
     have h2 : n2 = n := (HWE.out n hres).2
     clear hres
     subst h1
     subst h2
     (try simp only [zL])
     obtain ⟨w10, rfl⟩ : ∃ w10 : World, w10 = wn := ⟨_, rfl⟩
     iterate 3 (refine sq_val (v := ?_) (by simp only [zK]; rfl) (by rfl) ?_ ?_; rotate_left; (next => go_simp; try with_reducible rfl); try simp only [zL])
     (refine sq_alloc (by simp only [zK]; rfl) (by rfl) rfl alTx (fun p15 wn gp15 kp15 mp15 => ?n59); try simp only [zL])
     (refine sq_store (X := ?X60) (Y := ?Y60) (w' := ?w60) (by simp only [zK]; rfl) (by rfl) rfl rfl ?hx60 ?hz60 ?y60 ?n60; (case hx60 => simp only [zM]; try rfl); (case hz60 => simp only [zM]; try rfl); (case y60 => go_simp; try with_reducible rfl))
     (first | refine sq_set kp15 (fun wn kp15 mS => ?_) | refine sq_setCell kp15 (fun wn kp15 mS => ?_))
     (refine sq_val (v := ?_) (by simp only [zK]; rfl) (by rfl) ?_ ?_; rotate_left; (next => go_simp; try with_reducible rfl); try simp only [zL])
     refine sq_nil ?_
     have HM11 : Hid (Mod (fun _ => False) w wn) := Lib.hid ((HM10.out.trans mp15).then mS (fun i hi e => by have := HM10.out.size; omega))
     clear mS mp15 kp15 gp15
     have hn1 : ((n2 : Int) != 0) = true := by simp; omega
     have hn2 : (n2 != 0) = true := by simp; omega
     have hn3 : ((n2 : Int) == (n2 : Int)) = true := by simp
     have hn4 : (n2 == n2) = true := by simp
     clear hne
     go_wp2_with fail
     go_at_call 8
     refine (lives_c _ (HB.out.mod0 HM11.out)).mono ?_
     rintro e w99 ⟨rfl, m99⟩
     go_wp2_with fail
     go_ret
     exact ⟨rfl, HM11.out.then0 m99⟩
    | ok x =>
     rw [hres] at hr
     obtain ⟨z3, hv0, -, hzx3, -⟩ := hr
     cases hv0
     have HK := Lib.hid (fun (hk : z3.lks.l.length = 0) => HWL.out x hres (by rw [← hzx3]; simp [txP, msgP, hk]))
     clear hres hzx3
     (try simp only [zL])
     obtain ⟨w10, rfl⟩ : ∃ w10 : World, w10 = wn := ⟨_, rfl⟩
     iterate 3 (refine sq_val (v := ?_) (by simp only [zK]; rfl) (by rfl) ?_ ?_; rotate_left; (next => go_simp; try with_reducible rfl); try simp only [zL])
     (refine sq_alloc (by simp only [zK]; rfl) (by rfl) rfl alTx (fun p15 wn gp15 kp15 mp15 => ?n65); try simp only [zL])
     (refine sq_store (X := ?X66) (Y := ?Y66) (w' := ?w66) (by simp only [zK]; rfl) (by rfl) rfl rfl ?hx66 ?hz66 ?y66 ?n66; (case hx66 => simp only [zM]; try rfl); (case hz66 => simp only [zM]; try rfl); (case y66 => go_simp; try with_reducible rfl))
     (first | refine sq_set kp15 (fun wn kp15 mS => ?_) | refine sq_setCell kp15 (fun wn kp15 mS => ?_))
     (refine sq_val (v := ?_) (by simp only [zK]; rfl) (by rfl) ?_ ?_; rotate_left; (next => go_simp; try with_reducible rfl); try simp only [zL])
     refine sq_nil ?_
     replace kp15 : wn.heap[p15]? = some (.cells (txr z3) 35 (0, 0)) := kp15
     have m11 : Mod (fun _ => False) w10 wn := mp15.then mS (fun i hi e => by omega)
     have HM11 : Hid (Mod (fun _ => False) w wn) := Lib.hid (HM10.out.then0 m11)
     clear mS mp15 gp15 m11
     obtain ⟨w11, rfl⟩ : ∃ w11 : World, w11 = wn := ⟨_, rfl⟩
     go_upto_region 12 with fail
     have Lkp15 := lt_size kp15
     refine wp_pass0 (C := fun _ _ _ => False) (κ := fun i => [0, 0, 1, 0, 0].getD i 0) [0, 1, 2, 3, 4] (by kernel_rfl) (by kernel_rfl) (fun _ _ d _ _ h => by cases d <;> first | exact h | exact absurd h (hP _ _ _)) ?_
     iterate 5 first | (refine TD.val0 (v := ?_) (by simp only [zK]; rfl) rfl (by rfl) (fun w1 => ?_) ?_; rotate_left; (next => go_simp; try with_reducible rfl); try simp only [zL]) | (refine TD.load (v := ?_) (p := ?_) (Mod.refl _ _) (by simp only [zK]; rfl) rfl (by rfl) rfl ?_ (fun wq hSq => ?_) ?_; rotate_left 2; (next => simp only [zM]; try rfl); (next => have kp15q := hSq.at kp15 (fun h => h); go_simp; try with_reducible rfl); try simp only [zL])
     refine TD.nil (fun w12 hr => ?_)
     replace kp15 := hr.mod.at kp15 (fun h => h)
     have HM12 := Lib.hid (HM11.out.then0 hr.mod)
     clear hr
     by_cases hk : z3.lks.l.length = 0
     ·have h12 := HK.out hk
      subst h12
      have hn3 : ((n1 : Int) == (n1 : Int)) = true := by simp
      have hn4 : (n1 == n1) = true := by simp
      have hk1 : ((z3.lks.l.length : Int) == 0) = true := by simp [hk]
      have hk2 : decide (z3.lks.l.length = 0) = true := by simp [hk]
      have hk3 : (z3.lks.l.length == 0) = true := by simp [hk]
      clear hk
      go_wp2_with fail
      go_at_call 8
      refine (lives_c _ (HB.out.mod0 HM12.out)).mono ?_
      rintro e w99 ⟨rfl, m99⟩
      go_wp2_with fail
      go_ret
      exact ⟨rfl, HM12.out.then0 m99⟩
     ·have hk1 : ((z3.lks.l.length : Int) == 0) = false := by rw [beq_eq_false_iff_ne]; omega
      have hk2 : decide (z3.lks.l.length = 0) = false := by simp [hk]
      have hk3 : (z3.lks.l.length == 0) = false := by simp [hk]
      clear hk
      go_wp2_with fail
      go_at_call 8
      refine (lives_c _ (HB.out.mod0 HM12.out)).mono ?_
      rintro e w99 ⟨rfl, m99⟩
      go_wp2_with fail
      go_ret
      exact ⟨rfl, HM12.out.then0 m99⟩
end Go.Proofs.YtiaehkkkcaeaiaaGreatDoor
