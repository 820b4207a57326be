/- The lemmas of the proof, part Ma1: how the program and its data lie in memory, and what its functions do. -/
import Derived.Test.YtiaehkkkcaeaiaaGreatDoorM7
set_option linter.unusedSimpArgs false
set_option linter.unusedVariables false
set_option linter.unusedSectionVars false
namespace Go.Proofs.YtiaehkkkcaeaiaaGreatDoor
open Go.RowKit
open Go.ChangeMaps (setBlock)
attribute [local go_sem ↓] wlKey ldKey stKey ldSg stSg wlTc ldTc stTc eqKey1
attribute [local go_sem] cell_blk frozen_blk kc_ext one_int one_bool one_ptr one_slice one_map kc_one kc_one0 kc_size zKey_size sgc_size sgc_ext sgc_one0 sgc_one' txr_size txr_all txr_one txr_one' txr0 txr38 txr39 txr0' txr38' txr39' zTx_size Value.cells
attribute [local go_sem ↓] wlRdy ldRdy stRdy
attribute [local go_sem] zTc_size zTc_ext zTc_all zTc_all0 rdr_size rdr_all rdr_one zRdy_size zRdy_one
set_option maxRecDepth 20000 in
set_option maxHeartbeats 6400000 in
theorem partsLaw_c (ba : Option Addr) (B : List UInt8) (bc : Nat) (la : Option Addr) (L : List TbR) (lc : Nat) (w : World) (hb : ArgB w ba B bc) (hl : SlAt tbr 33 w la L) (hok : TasOk w L) (hB : BudW w) :
  Calls Tryz.prog 5 #[.slice ba B.length bc, .slice la L.length lc] w fun e w' => e = .returned (.bool true) ∧ Mod (fun _ => False) w w' := by
 have HB := Lib.hid hB
 have HA := Lib.hid hb
 have HL := Lib.hid (And.intro hl hok)
 have HGR := Lib.hid (great_c ba B.length bc la L lc w hl)
 obtain ⟨bn, hbn⟩ : ∃ bn, B.length = bn := ⟨_, rfl⟩
 have HBN := Lib.hid hbn
 rw [hbn] at HGR ⊢
 clear hb hl hok hB hbn
 cases hgr : greatB bn L with
 | true =>
  have HE := Lib.hid hgr
  go_enter Tryz.func5, Tryz.ntmps5
  go_wp2_with fail
  go_at_call 11
  refine HGR.out.mono ?_
  rintro e w1 ⟨rfl, m1⟩
  have HM1 := Lib.hid m1
  rw [HE.out]
  clear m1 hgr
  go_wp2_with fail
  go_at_call 8
  refine (lives_c _ (HB.out.mod0 HM1.out)).mono ?_
  rintro e w2 ⟨rfl, m2⟩
  go_wp2_with fail
  go_ret
  exact ⟨rfl, HM1.out.then0 m2⟩
 | false =>
  have HE := Lib.hid hgr
  obtain ⟨g1, g2, g3⟩ := great_no hgr
  have HG := Lib.hid (And.intro g1 (And.intro g2 g3))
  go_enter Tryz.func5, Tryz.ntmps5
  go_wp2_with fail
  go_at_call 11
  refine HGR.out.mono ?_
  rintro e w1 ⟨rfl, m1⟩
  have HM1 := Lib.hid m1
  rw [HE.out]
  clear m1 hgr g1 g2 g3
  go_wp2_with fail
  go_at_call 12
  refine (laid_c la L lc _ (HL.out.1.mod0 HM1.out) (fun x hx => (HL.out.2.mod0 HM1.out x hx).f (HG.out.2.2 x hx)) (by have := HG.out.2.1; omega)).mono ?_
  rintro e w2 ⟨h, r, m, b, v, rfl, hRA, hRf, hwm, m2⟩
  have HM2 := Lib.hid (HM1.out.then0 m2)
  have HRA := Lib.hid (And.intro hRA (And.intro hRf hwm))
  clear hRA hRf hwm m2
  have hC := ready_c (l := B) (c := bc) w2 HRA.out.1 (HB.out.mod0 HM2.out) (HA.out.at_.mod0 HM2.out) HA.out.le HA.out.nn (by have := HG.out.1; have := HBN.out; omega) (HA.out.mod0 HM2.out).inn
  rw [HBN.out] at hC
  go_upto_region 4 with fail
  refine region_seq 9 rfl ?_
  simp only [List.range, List.range.loop]
  iterate 2 (refine sq_val (v := ?_) (by simp only [zK]; rfl) (by rfl) ?_ ?_; rotate_left; (next => go_simp; try with_reducible rfl); try simp only [zL])
  (refine sq_callT (by simp only [zK]; rfl) (by rfl) ?y3 hC ?hout (fun vn wn hR => ?hret) (fun ch wn hR => ?hpan); (case y3 => (go_simp; (try (first | with_reducible rfl | (constructor <;> with_reducible rfl))))))
  case hout => exact fun w' h => h.out
  case hpan => exact hR.pan.elim
  case hret =>
  obtain ⟨hm, z, n, e0, hcase⟩ := hR.two
  cases e0
  have HM3 := Lib.hid (HM2.out.trans hm)
  clear hm hC hR
  (try simp only [zL])
  obtain ⟨w3, rfl⟩ : ∃ w3 : World, w3 = wn := ⟨_, rfl⟩
  rcases hcase with ⟨⟨y, hy, hO, hzy, hTB⟩, rfl⟩ | ⟨herr, hne, rfl⟩
  ·obtain ⟨x, ws, rs, ro, hx, hro, hyt, hrl⟩ := ready_ok hy
   have ey := hzy.trans hyt
   have e1 : z.b.l = B := congrArg RyP.b ey
   have e2 : txP z = x := congrArg RyP.x ey
   have e3 : z.ro.l = ro := congrArg RyP.ro ey
   have e4 : z.un = (budP x.m).units := congrArg RyP.u ey
   have e5 : z.pr = (budP x.m).price := congrArg RyP.p ey
   have e6 : z.bad.toInt = (budP x.m).badI := congrArg RyP.bad ey
   have e7 : z.fee = feeF (UInt64.ofNat x.sg.length) (budP x.m).units (budP x.m).price := congrArg RyP.fee ey
   have e8 : z.cost = coF (UInt64.ofNat x.sg.length) (UInt64.ofNat (wrL ro).length) (dSumP x.m.ins) (budP x.m).units := congrArg RyP.cost ey
   have e9 : z.prio = priF (UInt64.ofNat x.sg.length) (budP x.m).units (budP x.m).price z.cost := (congrArg RyP.pri ey).trans (by rw [e8]; rfl)
   rw [← e4] at e7 e8 e9
   rw [← e5] at e7 e9
   have HO := Lib.hid (And.intro hO.1 (And.intro (ns_rd hO.2.1) (ns_rd hO.2.2.1)))
   have HTB := Lib.hid hTB
   have hleg : z.v0 = true ∨ (z.lks.l.length = 0 ∧ z.h0.toNat < 128) := by
    have h := wire_leg hx
    rw [← e2] at h
    rcases h with h | ⟨h, h'⟩
    ·exact .inl h
    ·exact .inr ⟨by simpa [txP, msgP] using h, h'⟩
   have hput := fun wq h => pput_c z wq h hTB hleg (by rw [e2, (wire_put hx).1]; exact (wire_put hx).2)
   rw [e2, (wire_put hx).1, HBN.out] at hput
   have HP := Lib.hid hput
   have hbn : z.b.l.length = bn := by rw [e1]; exact HBN.out
   have hbl : bn ≤ 1232 := by have := (wire_put hx).2; rw [HBN.out] at this; exact this
   have hchk : chkP (txP z) = 0 := by rw [e2]; exact (wire_few hx).2
   have htot : totP (txP z) = z.ro.l.length := by rw [e2, e3, hrl]
   have hfew : z.ro.l.length ≤ 64 := by rw [e3, hrl]; exact (wire_few hx).1
   have hsn : x.sg.length = z.sg.l.length := by rw [← e2]; rfl
   have hwr := wrL_len ro
   obtain ⟨wl, hwl⟩ : ∃ n, (wrL ro).length = n := ⟨_, rfl⟩
   have hds : dSumP x.m.ins = dSum z.ins.l := by rw [← e2, dSum_P]; rfl
   rw [hsn] at e7 e8 e9
   rw [hwl, hds] at e8
   obtain ⟨bd, hbd, hbg⟩ := budP_bg (msgP z) (by have := hTB.2.2.1.1; simp only [txP, msgP, List.length_map] at this ⊢; omega)
   have hbg2 : budR (budP (msgP z)) = bgR z.un z.pr z.bad.toInt := by
    have hm : msgP z = x.m := congrArg TxP.m e2
    rw [hbg, hbd, hm, ← e4, ← e5, ← e6]
   have hwl64 : wl ≤ 64 := by rw [← hwl]; exact Nat.le_trans hwr (by rw [← e3]; exact hfew)
   have HE := Lib.hid (And.intro e1 (And.intro hchk (And.intro htot (And.intro hfew (And.intro hbl (And.intro hbg2 (And.intro e7 (And.intro e8 (And.intro e9 (And.intro e3 (And.intro hwl hwl64)))))))))))
   have HBN2 := Lib.hid hbn
   clear hO hTB hput hleg hbl hchk htot hfew hsn hwr hwl hds hbd hbg hbg2 e1 e2 e3 e4 e5 e6 e7 e8 e9 ey hyt hrl hro hx hy hzy hwl64 hbn
   iterate 3 (refine sq_val (v := ?_) (by simp only [zK]; rfl) (by rfl) ?_ ?_; rotate_left; (next => go_simp; try with_reducible rfl); try simp only [zL])
   (refine sq_alloc (by simp only [zK]; rfl) (by rfl) rfl alRdy (fun p7 wn gp7 kp7 mp7 => ?n7); try simp only [zL])
   (refine sq_store (X := ?X8) (Y := ?Y8) (w' := ?w8) (by simp only [zK]; rfl) (by rfl) rfl rfl ?hx8 ?hz8 ?y8 ?n8; (case hx8 => simp only [zM]; try rfl); (case hz8 => simp only [zM]; try rfl); (case y8 => go_simp; try with_reducible rfl))
   (first | refine sq_set kp7 (fun wn kp7 mS => ?_) | refine sq_setCell kp7 (fun wn kp7 mS => ?_))
   (refine sq_val (v := ?_) (by simp only [zK]; rfl) (by rfl) ?_ ?_; rotate_left; (next => go_simp; try with_reducible rfl); try simp only [zL])
   refine sq_nil ?_
   replace kp7 : wn.heap[p7]? = some (.cells (rdr z) 41 (0, 0)) := kp7
   have m4 : Mod (fun _ => False) w3 wn := mp7.then mS (fun i hi e => by omega)
   have HM4 : Hid (Mod (fun _ => False) w wn) := Lib.hid (HM3.out.then0 m4)
   have HT4 := Lib.hid (HO.out.1.mod0 m4)
   have HB4 := Lib.hid (HO.out.2.1.mod0 m4)
   have HR4 := Lib.hid (HO.out.2.2.mod0 m4)
   have hP := HP.out wn (HT4.out.rd HTB.out)
   clear mS mp7 gp7 m4 HO HP
   obtain ⟨w4, rfl⟩ : ∃ w4 : World, w4 = wn := ⟨_, rfl⟩
   go_upto_region 7 with fail
   refine region_seq 8 rfl ?_
   simp only [List.range, List.range.loop]
   (refine sq_val (v := ?_) (by simp only [zK]; rfl) (by rfl) ?_ ?_; rotate_left; (next => go_simp; try with_reducible rfl); try simp only [zL])
   (refine sq_load (v := ?v11) (p := ?p11) (by simp only [zK]; rfl) (by rfl) rfl ?hx11 ?y11 ?n11; (case hx11 => simp only [zM]; try rfl); (case y11 => exact (ldY1 kp7)); try simp only [zL])
   (refine sq_callT (by simp only [zK]; rfl) (by rfl) ?y12 hP ?hout (fun vn wn hR => ?hret) (fun ch wn hR => ?hpan); (case y12 => (go_simp; (try (first | with_reducible rfl | (constructor <;> with_reducible rfl))))))
   case hout => exact fun w' h => by obtain ⟨_, h, _⟩ := h; cases h
   case hpan => obtain ⟨_, h, _⟩ := hR; cases h
   case hret =>
   obtain ⟨pa, hv, hpa, hm⟩ := hR
   cases hv
   have HM5 := Lib.hid (HM4.out.then0 hm)
   have HT5 := Lib.hid (HT4.out.mod0 hm)
   have HB5 := Lib.hid (HE.out.1 ▸ HB4.out.mod0 hm)
   have HR5 := Lib.hid (HR4.out.mod0 hm)
   have HPA := Lib.hid hpa
   have HSN : Hid (z.sg.l.length < 1000000) := Lib.hid (by have := HTB.out.1; simp only [txP] at this; omega)
   replace kp7 := hm.at0 kp7
   clear hm hP hpa
   (try simp only [zL])
   obtain ⟨w5, rfl⟩ : ∃ w5 : World, w5 = wn := ⟨_, rfl⟩
   iterate 5 (refine sq_val (v := ?_) (by simp only [zK]; rfl) (by rfl) ?_ ?_; rotate_left; (next => go_simp; try with_reducible rfl); try simp only [zL])
   refine sq_nil ?_
   have heb := eqBg z.un z.pr z.bad.toInt
   have h64 : decide ((wl : Int) ≤ 64) = true := decide_eq_true (by have := HE.out.2.2.2.2.2.2.2.2.2.2.2; omega)
   have h64' : decide (wl ≤ 64) = true := decide_eq_true HE.out.2.2.2.2.2.2.2.2.2.2.2
   go_upto_region 8 with fail
   have Lkp7 := lt_size kp7
   refine wp_pass0 (C := fun _ _ _ => False) (κ := fun i => [0, 0, 1, 0, 0].getD i 0) [0, 1, 2, 3, 4] (by kernel_rfl) (by kernel_rfl) (fun _ _ d _ _ h => by cases d <;> first | exact h | exact absurd h (hP _ _ _)) ?_
   iterate 2 (refine TD.val0 (v := ?_) (by simp only [zK]; rfl) rfl (by rfl) (fun w1 => ?_) ?_; rotate_left; (next => go_simp; try with_reducible rfl); try simp only [zL])
   (refine TD.load (v := ?v20) (p := ?p20) (Mod.refl _ _) (by simp only [zK]; rfl) rfl (by rfl) rfl ?hx20 (fun wq hSq => ?y20) ?n20; (case hx20 => simp only [zM]; try rfl); (case y20 => (have kp7q := hSq.at kp7 (fun h => h); exact (ldY1s kp7q))); try simp only [zL])
   iterate 2 (refine TD.val0 (v := ?_) (by simp only [zK]; rfl) rfl (by rfl) (fun w1 => ?_) ?_; rotate_left; (next => go_simp; try with_reducible rfl); try simp only [zL])
   refine TD.nil (fun w5b hr => ?_)
   replace kp7 := hr.mod.at kp7 (fun h => h)
   have HS5 := Lib.hid hr.mod
   clear hr
   go_upto_region 9 with fail
   have Lkp7 := lt_size kp7
   refine wp_gpass (T0 := fun _ => False) (K := fun _ _ => True) (κ := fun i => [0, 0, 0, 0, 0, 6, 0, 0, 0, 0, 0, 6, 0, 0, 0, 0, 6, 0, 0, 0, 0, 0, 0, 0, 0, 6, 0, 0, 0, 0, 0, 0, 0, 0, 6, 0, 0, 0, 0, 0, 0, 0, 0, 6, 0, 0, 0, 0, 0, 0, 0, 0, 0, 6, 0, 0, 0, 0, 6, 0, 0, 0, 0, 0, 0, 0, 0, 0, 0, 6, 0, 0, 0, 0, 0, 6, 0, 0, 0, 0, 6, 0, 0].getD i 0) (υ := fun _ => []) [0, 1, 2, 3, 4, 5, 6, 7, 8, 9, 10, 11, 12, 13, 14, 15, 16, 17, 18, 19, 20, 21, 22, 23, 24, 25, 26, 27, 28, 29, 30, 31, 32, 33, 34, 35, 36, 37, 38, 39, 40, 41, 42, 43, 44, 45, 46, 47, 48, 49, 50, 51, 52, 53, 54, 55, 56, 57, 58, 59, 60, 61, 62, 63, 64, 65, 66, 67, 68, 69, 70, 71, 72, 73, 74, 75, 76, 77, 78, 79, 80, 81, 82] (by kernel_rfl) (by kernel_rfl) (Good.true).cl (trivial) (fun _ h => h.elim) ?_
   have gK := Good.true
   iterate 5 (refine TG.v0 (v := ?_) (by simp only [zK]; rfl) rfl (by rfl) (fun w1 => ?_) ?_; rotate_left; (next => go_simp; try with_reducible rfl); try simp only [zL])
   (refine TG.callN (f := ?f28) (args := ?r28) (fun v => v = .bool true) gK (by simp only [zK]; rfl) rfl (by rfl) (fun w1 => ?y28) (fun T wq kq ltq hSq ub => ?hsp28) ?n28; (case y28 => (go_simp; (first | with_reducible rfl | (constructor <;> with_reducible rfl)))); (case hsp28 => (have kp7q := hSq.at kp7 (fun h => h); exact (by have h := sameBytes_c pa ba B bn bc wq (HPA.out.mod0 (HS5.out.then0 hSq)) (HA.out.mod0 (HM5.out.then0 (HS5.out.then0 hSq))).at_ (by rw [HBN.out]; have := HE.out.2.2.2.2.1; omega); rw [HBN.out] at h; exact h.mono (fun e w' h => ⟨_, h.1, rfl, h.2⟩)))); rintro v28 hC; subst hC; try simp only [zL])
   iterate 3 (refine TG.v0 (v := ?_) (by simp only [zK]; rfl) rfl (by rfl) (fun w1 => ?_) ?_; rotate_left; (next => go_simp; try with_reducible rfl); try simp only [zL])
   (refine TG.load (v := ?v32) (p := ?p32) (by simp only [zK]; rfl) rfl (by rfl) rfl ?hx32 (fun wq hSq => ?y32) ?n32; (case hx32 => simp only [zM]; try rfl); (case y32 => (have kp7q := hSq.at kp7 (fun h => h); exact (ldY0 kp7q HBN2.out))); try simp only [zL])
   (refine TG.v0 (v := ?_) (by simp only [zK]; rfl) rfl (by rfl) (fun w1 => ?_) ?_; rotate_left; (next => go_simp; try with_reducible rfl); try simp only [zL])
   (refine TG.callN (f := ?f34) (args := ?r34) (fun v => v = .bool true) gK (by simp only [zK]; rfl) rfl (by rfl) (fun w1 => ?y34) (fun T wq kq ltq hSq ub => ?hsp34) ?n34; (case y34 => (go_simp; (first | with_reducible rfl | (constructor <;> with_reducible rfl)))); (case hsp34 => (have kp7q := hSq.at kp7 (fun h => h); exact (by have h := sameBytes_c z.b.a ba B z.b.c bc wq (HB5.out.mod0 (HS5.out.then0 hSq)) (HA.out.mod0 (HM5.out.then0 (HS5.out.then0 hSq))).at_ (by rw [HBN.out]; have := HE.out.2.2.2.2.1; omega); rw [HBN.out] at h; exact h.mono (fun e w' h => ⟨_, h.1, rfl, h.2⟩)))); rintro v34 hC; subst hC; try simp only [zL])
   iterate 3 (refine TG.v0 (v := ?_) (by simp only [zK]; rfl) rfl (by rfl) (fun w1 => ?_) ?_; rotate_left; (next => go_simp; try with_reducible rfl); try simp only [zL])
   (refine TG.load (v := ?v38) (p := ?p38) (by simp only [zK]; rfl) rfl (by rfl) rfl ?hx38 (fun wq hSq => ?y38) ?n38; (case hx38 => simp only [zM]; try rfl); (case y38 => (have kp7q := hSq.at kp7 (fun h => h); exact (ldY1 kp7q))); try simp only [zL])
   (refine TG.callN (f := ?f39) (args := ?r39) (fun v => v = .int .i64 0) gK (by simp only [zK]; rfl) rfl (by rfl) (fun w1 => ?y39) (fun T wq kq ltq hSq ub => ?hsp39) ?n39; (case y39 => (go_simp; (first | with_reducible rfl | (constructor <;> with_reducible rfl)))); (case hsp39 => (have kp7q := hSq.at kp7 (fun h => h); exact ((check_c z wq ((HT5.out.mod0 (HS5.out.then0 hSq)).rd HTB.out)).mono (fun e w' h => ⟨_, by rw [h.1, HE.out.2.1]; rfl, rfl, h.2⟩)))); rintro v39 hC; subst hC; try simp only [zL])
   iterate 4 (refine TG.v0 (v := ?_) (by simp only [zK]; rfl) rfl (by rfl) (fun w1 => ?_) ?_; rotate_left; (next => go_simp; try with_reducible rfl); try simp only [zL])
   (refine TG.load (v := ?v44) (p := ?p44) (by simp only [zK]; rfl) rfl (by rfl) rfl ?hx44 (fun wq hSq => ?y44) ?n44; (case hx44 => simp only [zM]; try rfl); (case y44 => (have kp7q := hSq.at kp7 (fun h => h); exact (ldY41 kp7q))); try simp only [zL])
   iterate 2 (refine TG.v0 (v := ?_) (by simp only [zK]; rfl) rfl (by rfl) (fun w1 => ?_) ?_; rotate_left; (next => go_simp; try with_reducible rfl); try simp only [zL])
   (refine TG.load (v := ?v47) (p := ?p47) (by simp only [zK]; rfl) rfl (by rfl) rfl ?hx47 (fun wq hSq => ?y47) ?n47; (case hx47 => simp only [zM]; try rfl); (case y47 => (have kp7q := hSq.at kp7 (fun h => h); exact (ldY1 kp7q))); try simp only [zL])
   (refine TG.callN (f := ?f48) (args := ?r48) (fun v => v = .int .i64 (z.ro.l.length : Int)) gK (by simp only [zK]; rfl) rfl (by rfl) (fun w1 => ?y48) (fun T wq kq ltq hSq ub => ?hsp48) ?n48; (case y48 => (go_simp; (first | with_reducible rfl | (constructor <;> with_reducible rfl)))); (case hsp48 => (have kp7q := hSq.at kp7 (fun h => h); exact ((total_c z wq ((HT5.out.mod0 (HS5.out.then0 hSq)).rd HTB.out)).mono (fun e w' h => ⟨_, by rw [h.1, HE.out.2.2.1], rfl, h.2⟩)))); rintro v48 hC; subst hC; try simp only [zL])
   iterate 4 (refine TG.v0 (v := ?_) (by simp only [zK]; rfl) rfl (by rfl) (fun w1 => ?_) ?_; rotate_left; (next => go_simp; try with_reducible rfl); try simp only [zL])
   (refine TG.load (v := ?v53) (p := ?p53) (by simp only [zK]; rfl) rfl (by rfl) rfl ?hx53 (fun wq hSq => ?y53) ?n53; (case hx53 => simp only [zM]; try rfl); (case y53 => (have kp7q := hSq.at kp7 (fun h => h); exact (ldY42b kp7q))); try simp only [zL])
   iterate 2 (refine TG.v0 (v := ?_) (by simp only [zK]; rfl) rfl (by rfl) (fun w1 => ?_) ?_; rotate_left; (next => go_simp; try with_reducible rfl); try simp only [zL])
   (refine TG.load (v := ?v56) (p := ?p56) (by simp only [zK]; rfl) rfl (by rfl) rfl ?hx56 (fun wq hSq => ?y56) ?n56; (case hx56 => simp only [zM]; try rfl); (case y56 => (have kp7q := hSq.at kp7 (fun h => h); exact (ldY2 kp7q))); try simp only [zL])
   (refine TG.callN (f := ?f57) (args := ?r57) (fun v => v = .agg (bgR z.un z.pr z.bad.toInt)) gK (by simp only [zK]; rfl) rfl (by rfl) (fun w1 => ?y57) (fun T wq kq ltq hSq ub => ?hsp57) ?n57; (case y57 => (go_simp; (first | with_reducible rfl | (constructor <;> with_reducible rfl)))); (case hsp57 => (have kp7q := hSq.at kp7 (fun h => h); exact ((budgetOf_c z wq (HB.out.mod0 (HM5.out.then0 (HS5.out.then0 hSq))) ((HT5.out.mod0 (HS5.out.then0 hSq)).rd HTB.out).2.1.1 ((HT5.out.mod0 (HS5.out.then0 hSq)).rd HTB.out).2.1.2 ((HT5.out.mod0 (HS5.out.then0 hSq)).rd HTB.out).2.2.1.1 ((HT5.out.mod0 (HS5.out.then0 hSq)).da HTB.out) ((HT5.out.mod0 (HS5.out.then0 hSq)).rd HTB.out).2.2.1.2.1).mono (fun e w' h => ⟨_, by rw [h.1, HE.out.2.2.2.2.2.1], rfl, h.2⟩)))); rintro v57 hC; subst hC; try simp only [zL])
   iterate 4 (refine TG.v0 (v := ?_) (by simp only [zK]; rfl) rfl (by rfl) (fun w1 => ?_) ?_; rotate_left; (next => go_simp; try with_reducible rfl); try simp only [zL])
   (refine TG.load (v := ?v62) (p := ?p62) (by simp only [zK]; rfl) rfl (by rfl) rfl ?hx62 (fun wq hSq => ?y62) ?n62; (case hx62 => simp only [zM]; try rfl); (case y62 => (have kp7q := hSq.at kp7 (fun h => h); exact (ldY45 kp7q))); try simp only [zL])
   iterate 2 (refine TG.v0 (v := ?_) (by simp only [zK]; rfl) rfl (by rfl) (fun w1 => ?_) ?_; rotate_left; (next => go_simp; try with_reducible rfl); try simp only [zL])
   (refine TG.load (v := ?v65) (p := ?p65) (by simp only [zK]; rfl) rfl (by rfl) rfl ?hx65 (fun wq hSq => ?y65) ?n65; (case hx65 => simp only [zM]; try rfl); (case y65 => (have kp7q := hSq.at kp7 (fun h => h); exact (ldY42b kp7q))); try simp only [zL])
   (refine TG.callN (f := ?f66) (args := ?r66) (fun v => v = u64v z.fee) gK (by simp only [zK]; rfl) rfl (by rfl) (fun w1 => ?y66) (fun T wq kq ltq hSq ub => ?hsp66) ?n66; (case y66 => (go_simp; (first | with_reducible rfl | (constructor <;> with_reducible rfl)))); (case hsp66 => (have kp7q := hSq.at kp7 (fun h => h); exact ((fee_c z.sg.l.length HSN.out z.un z.pr z.bad.toInt wq).mono (fun e w' h => ⟨_, by rw [h.1, ← HE.out.2.2.2.2.2.2.1], rfl, h.2⟩)))); rintro v66 hC; subst hC; try simp only [zL])
   iterate 4 (refine TG.v0 (v := ?_) (by simp only [zK]; rfl) rfl (by rfl) (fun w1 => ?_) ?_; rotate_left; (next => go_simp; try with_reducible rfl); try simp only [zL])
   (refine TG.load (v := ?v71) (p := ?p71) (by simp only [zK]; rfl) rfl (by rfl) rfl ?hx71 (fun wq hSq => ?y71) ?n71; (case hx71 => simp only [zM]; try rfl); (case y71 => (have kp7q := hSq.at kp7 (fun h => h); exact (ldY46 kp7q))); try simp only [zL])
   (refine TG.v0 (v := ?_) (by simp only [zK]; rfl) rfl (by rfl) (fun w1 => ?_) ?_; rotate_left; (next => go_simp; try with_reducible rfl); try simp only [zL])
   (refine TG.load (v := ?v73) (p := ?p73) (by simp only [zK]; rfl) rfl (by rfl) rfl ?hx73 (fun wq hSq => ?y73) ?n73; (case hx73 => simp only [zM]; try rfl); (case y73 => (have kp7q := hSq.at kp7 (fun h => h); exact (ldY1 kp7q))); try simp only [zL])
   (refine TG.v0 (v := ?_) (by simp only [zK]; rfl) rfl (by rfl) (fun w1 => ?_) ?_; rotate_left; (next => go_simp; try with_reducible rfl); try simp only [zL])
   (refine TG.load (v := ?v75) (p := ?p75) (by simp only [zK]; rfl) rfl (by rfl) rfl ?hx75 (fun wq hSq => ?y75) ?n75; (case hx75 => simp only [zM]; try rfl); (case y75 => (have kp7q := hSq.at kp7 (fun h => h); exact (ldY41 kp7q))); try simp only [zL])
   (refine TG.callN (f := ?f76) (args := ?r76) (fun v => ∃ a, v = .slice a wl wl) gK (by simp only [zK]; rfl) rfl (by rfl) (fun w1 => ?y76) (fun T wq kq ltq hSq ub => ?hsp76) ?n76; (case y76 => (go_simp; (first | with_reducible rfl | (constructor <;> with_reducible rfl)))); (case hsp76 => (have kp7q := hSq.at kp7 (fun h => h); exact ((written_c z.ro.a z.ro.l z.ro.c wq (HR5.out.mod0 (HS5.out.then0 hSq)) (by have := HE.out.2.2.2.1; omega)).mono (fun e w' h => by obtain ⟨v, h1, h2, h3⟩ := h; obtain ⟨a, h4, _⟩ := h2.at; rw [HE.out.2.2.2.2.2.2.2.2.2.1, HE.out.2.2.2.2.2.2.2.2.2.2.1] at h4; exact ⟨_, h1, ⟨a, h4⟩, h3⟩)))); rintro v76 hC; obtain ⟨a98, rfl⟩ := hC; try simp only [zL])
   iterate 3 (refine TG.v0 (v := ?_) (by simp only [zK]; rfl) rfl (by rfl) (fun w1 => ?_) ?_; rotate_left; (next => go_simp; try with_reducible rfl); try simp only [zL])
   (refine TG.load (v := ?v80) (p := ?p80) (by simp only [zK]; rfl) rfl (by rfl) rfl ?hx80 (fun wq hSq => ?y80) ?n80; (case hx80 => simp only [zM]; try rfl); (case y80 => (have kp7q := hSq.at kp7 (fun h => h); exact (ldY42 kp7q))); try simp only [zL])
   (refine TG.callN (f := ?f81) (args := ?r81) (fun v => v = u64v z.cost) gK (by simp only [zK]; rfl) rfl (by rfl) (fun w1 => ?y81) (fun T wq kq ltq hSq ub => ?hsp81) ?n81; (case y81 => (go_simp; (first | with_reducible rfl | (constructor <;> with_reducible rfl)))); (case hsp81 => (have kp7q := hSq.at kp7 (fun h => h); exact ((of_c z wl z.un (by have := HE.out.2.2.2.2.2.2.2.2.2.2.2; omega) wq ((HT5.out.mod0 (HS5.out.then0 hSq)).rd HTB.out).2.2.1.1 (by have := ((HT5.out.mod0 (HS5.out.then0 hSq)).rd HTB.out).2.2.1.2.1; omega) (by have := HSN.out; omega) (fun i hi => by have := (((HT5.out.mod0 (HS5.out.then0 hSq)).rd HTB.out).2.2.1.2.2 i hi).2.2; omega)).mono (fun e w' h => ⟨_, by rw [h.1, ← HE.out.2.2.2.2.2.2.2.1], rfl, h.2⟩)))); rintro v81 hC; subst hC; try simp only [zL])
   iterate 4 (refine TG.v0 (v := ?_) (by simp only [zK]; rfl) rfl (by rfl) (fun w1 => ?_) ?_; rotate_left; (next => go_simp; try with_reducible rfl); try simp only [zL])
   (refine TG.load (v := ?v86) (p := ?p86) (by simp only [zK]; rfl) rfl (by rfl) rfl ?hx86 (fun wq hSq => ?y86) ?n86; (case hx86 => simp only [zM]; try rfl); (case y86 => (have kp7q := hSq.at kp7 (fun h => h); exact (ldY47 kp7q))); try simp only [zL])
   iterate 2 (refine TG.v0 (v := ?_) (by simp only [zK]; rfl) rfl (by rfl) (fun w1 => ?_) ?_; rotate_left; (next => go_simp; try with_reducible rfl); try simp only [zL])
   (refine TG.load (v := ?v89) (p := ?p89) (by simp only [zK]; rfl) rfl (by rfl) rfl ?hx89 (fun wq hSq => ?y89) ?n89; (case hx89 => simp only [zM]; try rfl); (case y89 => (have kp7q := hSq.at kp7 (fun h => h); exact (ldY42b kp7q))); try simp only [zL])
   (refine TG.v0 (v := ?_) (by simp only [zK]; rfl) rfl (by rfl) (fun w1 => ?_) ?_; rotate_left; (next => go_simp; try with_reducible rfl); try simp only [zL])
   (refine TG.load (v := ?v91) (p := ?p91) (by simp only [zK]; rfl) rfl (by rfl) rfl ?hx91 (fun wq hSq => ?y91) ?n91; (case hx91 => simp only [zM]; try rfl); (case y91 => (have kp7q := hSq.at kp7 (fun h => h); exact (ldY46 kp7q))); try simp only [zL])
   (refine TG.callN (f := ?f92) (args := ?r92) (fun v => v = u64v z.prio) gK (by simp only [zK]; rfl) rfl (by rfl) (fun w1 => ?y92) (fun T wq kq ltq hSq ub => ?hsp92) ?n92; (case y92 => (go_simp; (first | with_reducible rfl | (constructor <;> with_reducible rfl)))); (case hsp92 => (have kp7q := hSq.at kp7 (fun h => h); exact ((prio_c z.sg.l.length HSN.out z.un z.pr z.cost z.bad.toInt wq).mono (fun e w' h => ⟨_, by rw [h.1, ← HE.out.2.2.2.2.2.2.2.2.1], rfl, h.2⟩)))); rintro v92 hC; subst hC; try simp only [zL])
   iterate 4 (refine TG.v0 (v := ?_) (by simp only [zK]; rfl) rfl (by rfl) (fun w1 => ?_) ?_; rotate_left; (next => go_simp; try with_reducible rfl); try simp only [zL])
   (refine TG.load (v := ?v97) (p := ?p97) (by simp only [zK]; rfl) rfl (by rfl) rfl ?hx97 (fun wq hSq => ?y97) ?n97; (case hx97 => simp only [zM]; try rfl); (case y97 => (have kp7q := hSq.at kp7 (fun h => h); exact (ldY41 kp7q))); try simp only [zL])
   (refine TG.callN (f := ?f98) (args := ?r98) (fun v => ∃ a, v = .slice a wl wl) gK (by simp only [zK]; rfl) rfl (by rfl) (fun w1 => ?y98) (fun T wq kq ltq hSq ub => ?hsp98) ?n98; (case y98 => (go_simp; (first | with_reducible rfl | (constructor <;> with_reducible rfl)))); (case hsp98 => (have kp7q := hSq.at kp7 (fun h => h); exact ((written_c z.ro.a z.ro.l z.ro.c wq (HR5.out.mod0 (HS5.out.then0 hSq)) (by have := HE.out.2.2.2.1; omega)).mono (fun e w' h => by obtain ⟨v, h1, h2, h3⟩ := h; obtain ⟨a, h4, _⟩ := h2.at; rw [HE.out.2.2.2.2.2.2.2.2.2.1, HE.out.2.2.2.2.2.2.2.2.2.2.1] at h4; exact ⟨_, h1, ⟨a, h4⟩, h3⟩)))); rintro v98 hC; obtain ⟨a120, rfl⟩ := hC; try simp only [zL])
   iterate 4 (refine TG.v0 (v := ?_) (by simp only [zK]; rfl) rfl (by rfl) (fun w1 => ?_) ?_; rotate_left; (next => go_simp; try with_reducible rfl); try simp only [zL])
   (refine TG.callN (f := ?f103) (args := ?r103) (fun v => v = .bool true) gK (by simp only [zK]; rfl) rfl (by rfl) (fun w1 => ?y103) (fun T wq kq ltq hSq ub => ?hsp103) ?n103; (case y103 => (go_simp; (first | with_reducible rfl | (constructor <;> with_reducible rfl)))); (case hsp103 => (have kp7q := hSq.at kp7 (fun h => h); exact ((lives_c wq (HB.out.mod0 (HM5.out.then0 (HS5.out.then0 hSq)))).mono (fun e w' h => ⟨_, h.1, rfl, h.2⟩)))); rintro v103 hC; subst hC; try simp only [zL])
   iterate 2 (refine TG.v0 (v := ?_) (by simp only [zK]; rfl) rfl (by rfl) (fun w1 => ?_) ?_; rotate_left; (next => go_simp; try with_reducible rfl); try simp only [zL])
   refine TG.nil (fun w6 ⟨TR, hr⟩ => ?_)
   replace kp7 := hr.mod.at kp7 (fun h => h)
   clear gK
   have HM6 := Lib.hid (HM5.out.then0 (HS5.out.then0 hr.mod))
   clear hr
   go_wp2_with fail
   go_ret
   exact ⟨rfl, HM6.out⟩
  ·have herr' := herr
   iterate 3 (refine sq_val (v := ?_) (by simp only [zK]; rfl) (by rfl) ?_ ?_; rotate_left; (next => go_simp; try with_reducible rfl); try simp only [zL])
   (refine sq_alloc (by simp only [zK]; rfl) (by rfl) rfl alRdy (fun p7 wn gp7 kp7 mp7 => ?n109); try simp only [zL])
   (refine sq_store (X := ?X110) (Y := ?Y110) (w' := ?w110) (by simp only [zK]; rfl) (by rfl) rfl rfl ?hx110 ?hz110 ?y110 ?n110; (case hx110 => simp only [zM]; try rfl); (case hz110 => simp only [zM]; try rfl); (case y110 => go_simp; try with_reducible rfl))
   (first | refine sq_set kp7 (fun wn kp7 mS => ?_) | refine sq_setCell kp7 (fun wn kp7 mS => ?_))
   (refine sq_val (v := ?_) (by simp only [zK]; rfl) (by rfl) ?_ ?_; rotate_left; (next => go_simp; try with_reducible rfl); try simp only [zL])
   refine sq_nil ?_
   replace kp7 : wn.heap[p7]? = some (.cells zRdy 41 (0, 0)) := kp7
   have m4 : Mod (fun _ => False) w3 wn := mp7.then mS (fun i hi e => by omega)
   have HM4 : Hid (Mod (fun _ => False) w wn) := Lib.hid (HM3.out.then0 m4)
   have hn1 : ((n : Int) != 0) = true := by simp; omega
   have hn2 : (n != 0) = true := by simp; omega
   have hbr := bRdy0
   clear mS mp7 gp7 m4 herr herr' hne
   obtain ⟨w4, rfl⟩ : ∃ w4 : World, w4 = wn := ⟨_, rfl⟩
   go_upto_region 6 with fail
   clear hn1 hn2
   have Lkp7 := lt_size kp7
   refine wp_pass0 (C := fun _ _ v => v = .bool true) (κ := fun i => [1, 0, 2, 0, 2, 0, 0].getD i 0) [0, 1, 2, 3, 4, 5, 6] (by kernel_rfl) (by kernel_rfl) (fun _ _ d _ _ h => by cases d <;> first | exact h | exact absurd h (hP _ _ _)) ?_
   (refine TD.load (v := ?v112) (p := ?p112) (Mod.refl _ _) (by simp only [zK]; rfl) rfl (by rfl) rfl ?hx112 (fun wq hSq => ?y112) ?n112; (case hx112 => simp only [zM]; try rfl); (case y112 => (have kp7q := hSq.at kp7 (fun h => h); exact (ldRdyZ kp7q))); try simp only [zL])
   (refine TD.build (v := ?v113) (ps := ?p113) (by simp only [zK]; rfl) rfl (by rfl) rfl ?hx113 (fun w1 => ?y113) ?n113; (case hx113 => (simp only [List.map_toArray, List.map_cons, List.map_nil, zM]; (try rfl))); (case y113 => (rw [hbr]; (try with_reducible rfl))); try simp only [zL])
   (refine TD.call (f := ?f114) (args := ?r114) (Mod.refl _ _) (by simp only [zK]; rfl) rfl (by rfl) (fun w1 => ?y114) ?hsp114 ?n114; (case y114 => (go_simp; (first | with_reducible rfl | (constructor <;> with_reducible rfl)))); (case hsp114 => (intro wq hSq; have kp7q := hSq.at kp7 (fun h => h); exact (sameReady_c rd0 rd0 wq (rd0_rd wq) (rd0_rd wq) rfl).mono (fun e w' h => ⟨_, h.1, rfl, h.2⟩))); rintro _ hC; subst hC; try simp only [zL])
   (refine TD.val0 (v := ?_) (by simp only [zK]; rfl) rfl (by rfl) (fun w1 => ?_) ?_; rotate_left; (next => go_simp; try with_reducible rfl); try simp only [zL])
   (refine TD.call (f := ?f116) (args := ?r116) (Mod.refl _ _) (by simp only [zK]; rfl) rfl (by rfl) (fun w1 => ?y116) ?hsp116 ?n116; (case y116 => (go_simp; (first | with_reducible rfl | (constructor <;> with_reducible rfl)))); (case hsp116 => (intro wq hSq; have kp7q := hSq.at kp7 (fun h => h); exact (lives_c wq (HB.out.mod0 (HM4.out.then0 hSq))).mono (fun e w' h => ⟨_, h.1, rfl, h.2⟩))); rintro _ hC; subst hC; try simp only [zL])
   iterate 2 (refine TD.val0 (v := ?_) (by simp only [zK]; rfl) rfl (by rfl) (fun w1 => ?_) ?_; rotate_left; (next => go_simp; try with_reducible rfl); try simp only [zL])
   refine TD.nil (fun w5 hr => ?_)
   replace kp7 := hr.mod.at kp7 (fun h => h)
   have HM5 := Lib.hid (HM4.out.then0 hr.mod)
   clear hr
   go_wp2_with fail
   go_ret
   exact ⟨rfl, HM5.out⟩
end Go.Proofs.YtiaehkkkcaeaiaaGreatDoor
