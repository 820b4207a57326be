/- The lemmas of the proof, part 6: how the program and its data lie in memory, and what its functions do. -/
import Derived.Test.YtofpnmoeimjnnaaK5
namespace Go.Proofs.Ytofpnmoeimjnnaa
open Go.RowKit
open Go.ChangeMaps (setBlock)
set_option linter.unusedSimpArgs false
set_option linter.unusedVariables false
attribute [local go_sem ↓] wlKey ldKey stKey wlAcct ldAcct stAcct wlHold ldHold stHold wlHash ldHash stHash wlSig ldSig stSig wlLim ldLim stLim wlRdy ldRdy stRdy wlOut ldOut stOut wlTd ldTd stTd wlTx ldTx stTx eqKey1
attribute [local go_sem] eqMap neMap av_size av_all av_one hd_size hd_key hd_acct hd_all hd_one zKey_size zAcct_size zHold_size zHash_size zSg_size zLim_size zRdy_size zOut_size zTried_size zTx_size cell_blk frozen_blk kc_ext one_int one_bool one_ptr one_slice one_map kc_one kc_one0 kc_size sgc_size sgc_ext sgc_one0 sgc_one' rdr_size rdr_all rdr_one rdr_tx rdr_rec rdr0 rdr1 rdr6 rdr39 rdr40 rdr41 rdr0' rdr1' rdr6' rdr39' rdr40' rdr41' ocr_size ocr_all ocr_one ocr2 ocr3 ocr4 ocr5 ocr2' ocr3' ocr4' ocr5' tdr_size tdr_all tdr_one tdr_r tdr_o tdr_tx tdr_rec tdr0 tdr1 tdr41 tdr50 tdr51 tdr52 tdr53 tdr0' tdr1' tdr41' tdr50' tdr51' tdr52' tdr53' txr_size txr_all txr_one txr0 txr38 txr39 txr0' txr38' txr39' Value.cells
attribute [local go_sem ↓] eqHash eqSig eqAcct eqHold wlGnd ldGnd stGnd
attribute [local go_sem] zHash_ext zHash_one0 eqMapS neMapS eqMapU neMapU grc_size grc_all grc_lim grc_one grc0 grc1 grc2 grc3 grc4 grc5 grc0' grc1' grc2' grc3' grc4' grc5'
theorem td_lk {w : World} {x : TdR} (h : TdOk w x) : TdLk w x :=
  ⟨h.1.2.1.2.2.1.1, h.1.2.1.2.2.2.1, reach_small h.1.2.1.2.2.1.2.2.1 (by omega), reach_small h.1.2.1.2.2.2.2.2.1 (by omega), reach_small h.1.1.2.2.1 (by omega)⟩
theorem td_rc {w : World} {x : TdR} (h : TdOk w x) (hs : TdSm x) : RcOk w x :=
  ⟨⟨h.1.2.1.1.1, h.1.2.2.1, h.1.2.1.2.2.1.1, hs.2.1, reach_small h.1.2.1.2.2.1.2.2.1 (by omega), reach_small h.1.2.1.1.2.2.1 (by omega), fun y hy => reach_small (h.1.2.1.2.2.1.2.1 y hy).2.2.2.1 (by omega)⟩, h.2.1, by have := hs.2.2; omega, h.1.1.1⟩
theorem bldAct (a : Option Addr) (n c : Nat) (w : World) : (Instr.build 33 #[(1, .slice a n c)]).run Try.prog w = .ok (.agg #[.int .u8 0, .slice a n c]) w := by kernel_rfl
theorem bsAct (a : Option Addr) (n c : Nat) (w : World) : (Instr.buildSlice 34 1 #[(0, .agg #[.int .u8 0, .slice a n c])]).run Try.prog w = .ok (.slice (some ⟨w.heap.size, 0, none⟩) 1 1) (w.alloc (.cells #[.int .u8 0, .slice a n c] 33)) := by kernel_rfl
theorem by_le {l : List TdR} (h : (l.map wtT).sum ≤ 600) : (l.map (fun x => x.r.b.l.length)).sum ≤ 900000 := by
  have : ∀ l : List TdR, (l.map (fun x => x.r.b.l.length)).sum ≤ 50 * (l.map wtT).sum := fun l => by
    induction l with
    | nil => simp
    | cons x r ih =>
      simp only [List.map_cons, List.sum_cons]
      have : x.r.b.l.length ≤ 50 * wtT x := by unfold wtT; omega
      omega
  have := this l
  omega
theorem slOk_mod0 {α : Type} {f : α → Array Value} {n B : Nat} {w w' : World} {s : Sl α} (h : SlOk f n B (fun _ _ => True) w s) (hm : Mod (fun _ => False) w w') : SlOk f n B (fun _ _ => True) w' s := ⟨h.1.mod0 hm, fun _ _ => trivial, h.2.2.1, fun y hy => (h.2.2.2.1 y hy).imp (fun q => Nat.lt_of_lt_of_le q hm.size) id, h.2.2.2.2⟩
theorem grOk_mod0 {w w' : World} {g : GrR'} (h : GrOk w g) (hm : Mod (fun _ => False) w w') : GrOk w' g := ⟨slOk_mod0 h.1 hm, slOk_mod0 h.2.1 hm, slOk_mod0 h.2.2 hm⟩
theorem add_cast (a b : UInt64) : ((a.toNat : Int) + (b.toNat : Int)) % 18446744073709551616 = ((a + b).toNat : Int) := by
  rw [UInt64.toNat_add]
  omega
theorem lt_cast (a b : UInt64) (z : Bool) (h : decide (a < b) = z) : decide ((a.toNat : Int) < (b.toNat : Int)) = z ∧ decide (a.toNat < b.toNat) = z ∧ decide ((b.toNat : Int) > (a.toNat : Int)) = z := by
  rw [← h]
  refine ⟨?_, ?_, ?_⟩ <;> rw [decide_eq_decide, UInt64.lt_iff_toNat_lt] <;> omega
set_option maxRecDepth 20000 in
set_option maxHeartbeats 12800000 in
theorem roomLaw_c (g : GrR') (a : Option Addr) (l : List TdR) (c : Nat) (w : World) (hok : GrOk w g) (hl : SlAt tdr 54 w a l) (hx : ∀ x ∈ l, TdOk w x) (hn : l.length ≤ 140737488355328) :
    Calls Try.prog 3 #[.agg (grc g), .slice a l.length c] w fun e w' => e = .returned (.bool true) ∧ Mod (fun _ => False) w w' := by
  have HL := Lib.hid (And.intro hl (And.intro hx (And.intro hn hok)))
  clear hl hx hn hok
  obtain ⟨ll, hll⟩ : ∃ ll, l.length = ll := ⟨_, rfl⟩
  have HLL := Lib.hid hll
  have hba := bldAct a ll c
  have hbs := bsAct a ll c
  rw [hll]
  clear hll
  go_enter Try.func3, Try.ntmps3
  go_upto_region 0 with fail
  refine wp_pass0 (C := fun _ _ _ => False) (κ := fun i => [3, 0].getD i 0) [0, 1] (by kernel_rfl) (by kernel_rfl) (fun _ _ d _ _ h => by cases d <;> first | exact h | exact absurd h (hP _ _ _)) ?_
  (refine TD.box (v := ?v1) (by simp only [zA, zB, zC]; rfl) rfl ?hw1 rfl rfl ?hx1 (fun p2 hp2 => ?hn1); (case hw1 => rfl); (case hx1 => (simp only [Act.eval, zD, zA, zB, zC, zE]; (try rfl))); (try simp only [Act.put, zF, zG, zH]))
  (refine TD.val0 (v := ?v2) (by simp only [zA, zB, zC]; rfl) rfl ?hw2 (fun w1 => ?hy2) ?hn2; (case hw2 => rfl); (case hy2 => (go_simp; (try with_reducible rfl))); (try simp only [Act.put, zF, zG, zH]))
  refine TD.nil (fun w1 hr => ?_)
  have kp2 := hr.box p2 _ (by first | exact Bx.set_same _ _ _ | (simp only [Bx.set_same]; rfl)); dsimp only [Value.cells] at kp2; obtain ⟨gp2, kp2⟩ := kp2
  have m1 := hr.mod
  clear hr
  go_upto_region 1 with fail
  go_wp2_with fail
  go_at_call 5
  obtain ⟨w2, pA, hpA, kA, m2, e2⟩ : ∃ w2 pA, w1.heap.size = pA ∧ w2.heap[pA]? = some (.cells #[.int .u8 0, .slice a ll c] 33 (0, 0)) ∧ Mod (fun _ => False) w1 w2 ∧ w1.alloc (.cells #[.int .u8 0, .slice a ll c] 33) = w2 := ⟨_, _, rfl, heap_alloc_new _ _, (Mod.refl _ _).alloc _, rfl⟩
  rw [e2, hpA]
  have m12 := m1.trans m2
  refine (great_c g a l c pA w2 (by rw [HLL.out]; exact kA) (HL.out.1.mod0 m12) (fun x hx => (td_lk (HL.out.2.1 x hx)).mod0 m12) HL.out.2.2.1).mono ?_
  rintro e w3 ⟨bz, rfl, hz, m3⟩
  have kp2 := m3.at0 (m2.at0 kp2)
  have mm := m12.trans m3
  clear e2 hpA kA m12 m1 m2 m3 hba hbs
  by_cases hl100 : ll > 100
  · have hd : decide ((ll : Int) > 100) = true := decide_eq_true (by omega)
    clear hz
    cases bz
    · go_upto_region 2 with fail
      go_wp2_with fail
      go_at_call 6
      refine (lives_c _).mono ?_
      rintro e wl ⟨rfl, ml⟩
      go_wp2_with fail
      go_ret
      exact ⟨rfl, mm.trans ml⟩
    · go_upto_region 2 with fail
      go_wp2_with fail
      go_at_call 6
      refine (lives_c _).mono ?_
      rintro e wl ⟨rfl, ml⟩
      go_wp2_with fail
      go_ret
      exact ⟨rfl, mm.trans ml⟩
  have hd : decide ((ll : Int) > 100) = false := decide_eq_false (by omega)
  cases bz
  case true =>
    clear hz
    go_upto_region 2 with fail
    go_wp2_with fail
    go_at_call 6
    refine (lives_c _).mono ?_
    rintro e wl ⟨rfl, ml⟩
    go_wp2_with fail
    go_ret
    exact ⟨rfl, mm.trans ml⟩
  case false =>
  have hz := hz rfl
  have HZ := Lib.hid (And.intro hz.1 (hz.2 (by rw [HLL.out]; omega)))
  clear hz hd
  go_upto_region 3 with fail
  go_wp2_with fail
  go_at_call 7
  have HP2 := Lib.hid (lt_size kp2)
  refine (opened_c g _ (grOk_mod0 HL.out.2.2.2 mm) HZ.out.1.1 HZ.out.1.2.1 HZ.out.1.2.2).mono ?_
  rintro e w4 ⟨b, s, r, sb, Tn, Tr, rfl, hbk, hlo, -, m4⟩
  have kp2 := m4.at0 kp2
  have HBK := Lib.hid (And.intro hbk (And.intro hlo (And.intro m4 mm)))
  clear hbk hlo m4 mm
  go_upto_region 4 with fail
  go_wp2_with fail
  go_at_call 8
  have hrec := record_c (S := ⟨false, quL g.H.l, seL g.M.l, g.lim, 0, 0, [], [], [], 0⟩) a l c w3 w4 HBK.out.1 (HL.out.1.mod0 HBK.out.2.2.2) (fun x hx => (td_rc (HL.out.2.1 x hx) (HZ.out.2.1 x hx)).mod0 HBK.out.2.2.2) HBK.out.2.2.1 HBK.out.2.1 (by
    have h1 := seL_len g.M.l
    have h2 := HZ.out.1.2.2
    have h3 := HLL.out
    show (seL g.M.l).length + l.length ≤ 900000
    omega) (by
    have h3 := HLL.out
    show 0 + l.length ≤ 900000
    omega) (by_le HZ.out.2.2) (by show 0 ≤ 900000; omega) (by have h3 := HLL.out; omega)
  rw [HLL.out] at hrec
  refine hrec.mono ?_
  clear hrec
  rintro e w5 ⟨gv, vs, S1, ent, k, Tn1, Tr1, rfl, hgv, kv, hrun, hbk1, hb1, m5⟩
  have kp2 := m5.at kp2 (fun h => by
    have h1 := HBK.out.2.1 p2 h
    have h2 := HP2.out
    omega)
  rw [HLL.out]
  have hvs : vs.length = ll := by rw [hrun.len.1, HLL.out]
  have HV : Hid (RSteps ⟨false, quL g.H.l, seL g.M.l, g.lim, 0, 0, [], [], [], 0⟩ l vs S1 ∧ BkAt Tn1 Tr1 w5 b s (if k = 0 then S1 else { S1 with es := S1.es ++ [leB k.toUInt64 ++ ent] }) ∧ (∀ j, Tn1 j ∨ Tr1 j → j < w5.heap.size)) := Lib.hid ⟨hrun.steps, hbk1, fun j hj => (hb1 j hj).2.2⟩
  have HM5 : Hid (Mod (fun _ => False) w w5) := Lib.hid ((HBK.out.2.2.2.then0 HBK.out.2.2.1).then m5 (fun j hj e => by
    have h1 := (HBK.out.2.1 j e).1
    have h2 := HBK.out.2.2.2.size
    omega))
  clear hrun hbk1 hb1 m5 hgv
  have hmm := @run_makeMap Try.prog
  go_upto_region 9 with fail
  obtain ⟨w6, pm, hpm, kpm, m6, e6⟩ : ∃ w6 pm, w5.heap.size = pm ∧ w6.heap[pm]? = some (.map #[] 0) ∧ Mod (fun _ => False) w5 w6 ∧ w5.alloc (.map #[] 0) = w6 := ⟨_, _, rfl, heap_alloc_new _ _, (Mod.refl _ _).alloc _, rfl⟩
  go_wp2_with fail
  (try rw [e6]); (try rw [hpm])
  have kp2 := m6.at0 kp2
  have kve := m6.at0 kv
  have hne1 : p2 ≠ pm := ne_of_obj kp2 kpm (by simp)
  have hne2 : gv ≠ pm := ne_of_obj kve kpm (by simp)
  have hpm0 : w.heap.size ≤ pm := by rw [← hpm]; exact HM5.out.size
  have hpm5 : w5.heap.size ≤ pm := by omega
  have HPM := Lib.hid (And.intro hne1 (And.intro hne2 (And.intro hpm0 hpm5)))
  have KK := Lib.hid (And.intro kp2 kve)
  have HM6 := Lib.hid (And.intro (HM5.out.then0 m6) m6)
  have KM := Lib.hid kpm
  clear e6 hpm m6 kpm hmm kv kp2 kve hne1 hne2 hpm0 hpm5
  go_loopw [9, 10, 12] (fun s9 s10 s12 ws => ∃ (i : Nat) (sum space : UInt64) (M : List (Key × UInt64)) (Si : BS), i ≤ ll ∧ s9 = u64v sum ∧ s10 = u64v space ∧ s12 = .int .i64 (i : Int) ∧ Hid (∃ es c, ws.heap[pm]? = some (.map es c) ∧ MapIs kv u64v es c M) ∧ Hid (RoI Si sum space (ofK M) ∧ RSteps Si (l.drop i) (vs.drop i) S1 ∧ Si.L = g.lim) ∧ Hid (Mod (fun j => j = pm) w6 ws)) (fun _ _ s12 _ => ll - (intOf s12).toNat)
  case atStart => exact ⟨0, 0, 0, [], _, by omega, rfl, rfl, rfl, Lib.hid ⟨_, _, KM.out, MapIs.empty kv u64v⟩, Lib.hid ⟨⟨rfl, rfl, rfl, fun k => ⟨rfl, UInt64.le_refl _⟩⟩, by simpa using HV.out.1, rfl⟩, Lib.hid (Mod.refl _ _)⟩
  case round =>
    obtain ⟨i, sum, space, M, Si, hi, rfl, rfl, rfl, HMP, HI, HM⟩ := hrel
    have kp2 := HM.out.at_ne KK.out.1 HPM.out.1
    have kve := HM.out.at_ne KK.out.2 HPM.out.2.1
    have HW := Lib.hid (HM6.out.1.thenB HM.out (.inl HPM.out.2.2.1))
    obtain ⟨es, cm, kpm, hM⟩ := HMP.out
    have HMM := Lib.hid hM
    clear hM
    by_cases hlt : i < ll
    · have hdl := decide_eq_true hlt
      obtain ⟨x, hx⟩ : ∃ x, l[i]? = some x := ⟨_, List.getElem?_eq_getElem (by rw [HLL.out]; exact hlt)⟩
      obtain ⟨gg, o, C, U, fr, rfl, kl, he, hle⟩ := td_at (HL.out.1.mod0 HW.out) hx
      have c52 : C[o + i * 54 + 52]? = some (u64v x.o.sp) := cellC he (j := 52) (tdr52 x)
      have c41 : C[o + i * 54 + 41]? = some (.slice x.r.ro.a x.r.ro.l.length x.r.ro.c) := cellC he (j := 41) (tdr41 x)
      have hxm := List.mem_of_getElem? hx
      have HOK := Lib.hid (td_rc (HL.out.2.1 x hxm) (HZ.out.2.1 x hxm))
      obtain ⟨n, S2, hvn, hstep, hrest⟩ := HI.out.2.1.step hx
      have HR := Lib.hid (And.intro (room_step HI.out.1 hstep) (And.intro hrest hstep.same))
      have hvn' := errC_get hvn
      have hvs2 : (errC vs).size = ll := by rw [errC_size]; exact hvs
      clear hx hxm hvn hstep hrest
      obtain ⟨cx, hcx⟩ : ∃ cx, coX x = cx := ⟨_, rfl⟩
      have HCX := Lib.hid hcx
      have hlc := lcost_c x wr (HOK.out.1.2.1.mod0 HW.out) HOK.out.1.2.2.2.1 (HOK.out.1.2.2.1.mod0 HW.out) HOK.out.1.2.2.2.2.1 HOK.out.1.2.2.2.2.2.1 HOK.out.1.2.2.2.2.2.2
      rw [show coF (UInt64.ofNat x.r.sg.l.length) (UInt64.ofNat (wrL x.r.ro.l).length) (dSum x.r.ins.l) x.o.un = cx from hcx] at hlc
      have HLC := Lib.hid hlc
      clear hcx hlc
      go_upto_region 13 with fail
      go_wp2_with fail
      go_at_call 9
      refine HLC.out.mono ?_
      rintro e w7 ⟨rfl, m7⟩
      have kp2 := m7.at0 kp2
      have kve := m7.at0 kve
      have kl := m7.at0 kl
      have kpm := m7.at0 kpm
      have HM7 := Lib.hid (HM.out.then0 m7)
      have HW7 := Lib.hid (HW.out.then0 m7)
      clear m7 he
      go_upto_region 14 with fail
      go_wp2_with fail
      go_at_call 10
      refine (written_c x.r.ro.a x.r.ro.l x.r.ro.c _ (HOK.out.1.2.1.mod0 HW7.out) (by have := HOK.out.1.2.2.2.1; omega)).mono ?_
      rintro e w8 ⟨v8, rfl, hN8, m8⟩
      obtain ⟨a8, rfl, hS8, hB8⟩ := hN8.at
      have kp2 := m8.at0 kp2
      have kve := m8.at0 kve
      have kl := m8.at0 kl
      have kpm := m8.at0 kpm
      have HM8 := Lib.hid (HM7.out.then0 m8)
      have HS8 := Lib.hid hS8
      obtain ⟨wn, hwn⟩ : ∃ wn, (wrL x.r.ro.l).length = wn := ⟨_, rfl⟩
      have HWN := Lib.hid hwn
      have hwnb : wn ≤ 300 := by rw [← hwn]; exact Nat.le_trans (wrL_len _) HOK.out.1.2.2.2.1
      have HB8 := Lib.hid (And.intro hB8 HW7.out.size)
      rw [hwn]
      clear hN8 hS8 hB8 m8 hwn
      go_upto_region 15 with fail
      go_cut [15] from 48 to 227 (fun s15 wx => ∃ zo : Bool, s15 = .bool zo ∧ Hid (overL sum cx g.lim.b = zo) ∧ Hid (Mod (fun _ => False) w8 wx))
      case first =>
        as_aux_lemma =>
        have ha1 := add_cast sum cx
        obtain ⟨z1, hz1⟩ : ∃ z1, sum + cx = z1 := ⟨_, rfl⟩
        rw [hz1] at ha1
        have ha1w : IntKind.u64.wrap ((sum.toNat : Int) + (cx.toNat : Int)) = (z1.toNat : Int) := by rw [IntKind.wrap_u64]; exact ha1
        have HZ1 := Lib.hid hz1
        clear hz1
        by_cases h1 : z1 < sum
        · obtain ⟨hd1, hd1b, hd1c⟩ := lt_cast z1 sum true (decide_eq_true h1)
          have Lkp2 := lt_size kp2
          refine wp_pass0 (C := fun _ _ _ => False) (κ := fun i => [0, 0, 0, 0, 0, 0, 0, 0, 0, 0, 0, 1, 0, 0, 0].getD i 0) [0, 1, 2, 3, 4, 5, 6, 7, 8, 9, 10, 11, 12, 13, 14] (by kernel_rfl) (by kernel_rfl) (fun _ _ d _ _ h => by cases d <;> first | exact h | exact absurd h (hP _ _ _)) ?_
          (refine TD.val0 (v := ?v3) (by simp only [zA, zB, zC]; rfl) rfl ?hw3 (fun w1 => ?hy3) ?hn3; (case hw3 => rfl); (case hy3 => (go_simp; (try with_reducible rfl))); (try simp only [Act.put, zF, zG, zH]))
          (refine TD.val0 (v := ?v4) (by simp only [zA, zB, zC]; rfl) rfl ?hw4 (fun w1 => ?hy4) ?hn4; (case hw4 => rfl); (case hy4 => (go_simp; (try with_reducible rfl))); (try simp only [Act.put, zF, zG, zH]))
          (refine TD.val0 (v := ?v5) (by simp only [zA, zB, zC]; rfl) rfl ?hw5 (fun w1 => ?hy5) ?hn5; (case hw5 => rfl); (case hy5 => (go_simp; (try with_reducible rfl))); (try simp only [Act.put, zF, zG, zH]))
          (refine TD.val0 (v := ?v6) (by simp only [zA, zB, zC]; rfl) rfl ?hw6 (fun w1 => ?hy6) ?hn6; (case hw6 => rfl); (case hy6 => (go_simp; (try with_reducible rfl))); (try simp only [Act.put, zF, zG, zH]))
          (refine TD.val0 (v := ?v7) (by simp only [zA, zB, zC]; rfl) rfl ?hw7 (fun w1 => ?hy7) ?hn7; (case hw7 => rfl); (case hy7 => (go_simp; (try with_reducible rfl))); (try simp only [Act.put, zF, zG, zH]))
          (refine TD.val0 (v := ?v8) (by simp only [zA, zB, zC]; rfl) rfl ?hw8 (fun w1 => ?hy8) ?hn8; (case hw8 => rfl); (case hy8 => (go_simp; (try with_reducible rfl))); (try simp only [Act.put, zF, zG, zH]))
          (refine TD.pass (by simp only [zA, zB, zC]; rfl) rfl ?hw9 ?hn9; (case hw9 => rfl); (try simp only [Act.put, zF, zG, zH]))
          (refine TD.pass (by simp only [zA, zB, zC]; rfl) rfl ?hw10 ?hn10; (case hw10 => rfl); (try simp only [Act.put, zF, zG, zH]))
          (refine TD.pass (by simp only [zA, zB, zC]; rfl) rfl ?hw11 ?hn11; (case hw11 => rfl); (try simp only [Act.put, zF, zG, zH]))
          (refine TD.pass (by simp only [zA, zB, zC]; rfl) rfl ?hw12 ?hn12; (case hw12 => rfl); (try simp only [Act.put, zF, zG, zH]))
          (refine TD.pass (by simp only [zA, zB, zC]; rfl) rfl ?hw13 ?hn13; (case hw13 => rfl); (try simp only [Act.put, zF, zG, zH]))
          (refine TD.pass1 (by simp only [zA, zB, zC]; rfl) rfl ?hw14 ?hn14; (case hw14 => rfl); (try simp only [Act.put, zF, zG, zH]))
          (refine TD.pass (by simp only [zA, zB, zC]; rfl) rfl ?hw15 ?hn15; (case hw15 => rfl); (try simp only [Act.put, zF, zG, zH]))
          (refine TD.val0 (v := ?v16) (by simp only [zA, zB, zC]; rfl) rfl ?hw16 (fun w1 => ?hy16) ?hn16; (case hw16 => rfl); (case hy16 => (go_simp; (try with_reducible rfl))); (try simp only [Act.put, zF, zG, zH]))
          (refine TD.val0 (v := ?v17) (by simp only [zA, zB, zC]; rfl) rfl ?hw17 (fun w1 => ?hy17) ?hn17; (case hw17 => rfl); (case hy17 => (go_simp; (try with_reducible rfl))); (try simp only [Act.put, zF, zG, zH]))
          refine TD.nil (fun w9 hr => ?_)
          replace kp2 := hr.mod.at kp2 (fun h => h)
          have HM9 := Lib.hid hr.mod
          clear hr
          go_wp2_with fail
          go_meet
          case rel => exact ⟨true, rfl, Lib.hid (by unfold overL; rw [HZ1.out, decide_eq_true h1]; rfl), HM9⟩
        · obtain ⟨hd1, hd1b, hd1c⟩ := lt_cast z1 sum false (decide_eq_false h1)
          obtain ⟨z2, hz2⟩ : ∃ z2, decide (g.lim.b < z1) = z2 := ⟨_, rfl⟩
          obtain ⟨hd2, hd2b, hd2c⟩ := lt_cast g.lim.b z1 z2 hz2
          have HZ2 := Lib.hid hz2
          clear hz2
          have Lkp2 := lt_size kp2
          refine wp_pass0 (C := fun _ _ _ => False) (κ := fun i => [0, 0, 0, 0, 0, 0, 0, 0, 0, 0, 0, 1, 0, 0, 0].getD i 0) [0, 1, 2, 3, 4, 5, 6, 7, 8, 9, 10, 11, 12, 13, 14] (by kernel_rfl) (by kernel_rfl) (fun _ _ d _ _ h => by cases d <;> first | exact h | exact absurd h (hP _ _ _)) ?_
          (refine TD.val0 (v := ?v18) (by simp only [zA, zB, zC]; rfl) rfl ?hw18 (fun w1 => ?hy18) ?hn18; (case hw18 => rfl); (case hy18 => (go_simp; (try with_reducible rfl))); (try simp only [Act.put, zF, zG, zH]))
          (refine TD.val0 (v := ?v19) (by simp only [zA, zB, zC]; rfl) rfl ?hw19 (fun w1 => ?hy19) ?hn19; (case hw19 => rfl); (case hy19 => (go_simp; (try with_reducible rfl))); (try simp only [Act.put, zF, zG, zH]))
          (refine TD.val0 (v := ?v20) (by simp only [zA, zB, zC]; rfl) rfl ?hw20 (fun w1 => ?hy20) ?hn20; (case hw20 => rfl); (case hy20 => (go_simp; (try with_reducible rfl))); (try simp only [Act.put, zF, zG, zH]))
          (refine TD.val0 (v := ?v21) (by simp only [zA, zB, zC]; rfl) rfl ?hw21 (fun w1 => ?hy21) ?hn21; (case hw21 => rfl); (case hy21 => (go_simp; (try with_reducible rfl))); (try simp only [Act.put, zF, zG, zH]))
          (refine TD.val0 (v := ?v22) (by simp only [zA, zB, zC]; rfl) rfl ?hw22 (fun w1 => ?hy22) ?hn22; (case hw22 => rfl); (case hy22 => (go_simp; (try with_reducible rfl))); (try simp only [Act.put, zF, zG, zH]))
          (refine TD.val0 (v := ?v23) (by simp only [zA, zB, zC]; rfl) rfl ?hw23 (fun w1 => ?hy23) ?hn23; (case hw23 => rfl); (case hy23 => (go_simp; (try with_reducible rfl))); (try simp only [Act.put, zF, zG, zH]))
          (refine TD.val0 (v := ?v24) (by simp only [zA, zB, zC]; rfl) rfl ?hw24 (fun w1 => ?hy24) ?hn24; (case hw24 => rfl); (case hy24 => (go_simp; (try with_reducible rfl))); (try simp only [Act.put, zF, zG, zH]))
          (refine TD.val0 (v := ?v25) (by simp only [zA, zB, zC]; rfl) rfl ?hw25 (fun w1 => ?hy25) ?hn25; (case hw25 => rfl); (case hy25 => (go_simp; (try with_reducible rfl))); (try simp only [Act.put, zF, zG, zH]))
          (refine TD.val0 (v := ?v26) (by simp only [zA, zB, zC]; rfl) rfl ?hw26 (fun w1 => ?hy26) ?hn26; (case hw26 => rfl); (case hy26 => (go_simp; (try with_reducible rfl))); (try simp only [Act.put, zF, zG, zH]))
          (refine TD.val0 (v := ?v27) (by simp only [zA, zB, zC]; rfl) rfl ?hw27 (fun w1 => ?hy27) ?hn27; (case hw27 => rfl); (case hy27 => (go_simp; (try with_reducible rfl))); (try simp only [Act.put, zF, zG, zH]))
          (refine TD.val0 (v := ?v28) (by simp only [zA, zB, zC]; rfl) rfl ?hw28 (fun w1 => ?hy28) ?hn28; (case hw28 => rfl); (case hy28 => (go_simp; (try with_reducible rfl))); (try simp only [Act.put, zF, zG, zH]))
          (refine TD.load (v := ?v29) (p := ?p29) (Mod.refl _ _) (by simp only [zA, zB, zC]; rfl) rfl ?hw29 rfl ?hx29 (fun wq hSq => ?hy29) ?hn29; (case hw29 => rfl); (case hx29 => (simp only [Act.eval, zD, zA, zB, zC, zE]; (try rfl))); (case hy29 => (have kp2q := hSq.at kp2 (fun h => h); go_simp; (try with_reducible rfl))); (try simp only [Act.put, zF, zG, zH]))
          (refine TD.val0 (v := ?v30) (by simp only [zA, zB, zC]; rfl) rfl ?hw30 (fun w1 => ?hy30) ?hn30; (case hw30 => rfl); (case hy30 => (go_simp; (try with_reducible rfl))); (try simp only [Act.put, zF, zG, zH]))
          (refine TD.val0 (v := ?v31) (by simp only [zA, zB, zC]; rfl) rfl ?hw31 (fun w1 => ?hy31) ?hn31; (case hw31 => rfl); (case hy31 => (go_simp; (try with_reducible rfl))); (try simp only [Act.put, zF, zG, zH]))
          (refine TD.val0 (v := ?v32) (by simp only [zA, zB, zC]; rfl) rfl ?hw32 (fun w1 => ?hy32) ?hn32; (case hw32 => rfl); (case hy32 => (go_simp; (try with_reducible rfl))); (try simp only [Act.put, zF, zG, zH]))
          refine TD.nil (fun w9 hr => ?_)
          replace kp2 := hr.mod.at kp2 (fun h => h)
          have HM9 := Lib.hid hr.mod
          clear hr hd2 hd2b hd2c
          go_wp2_with fail
          go_meet
          case rel => exact ⟨z2, rfl, Lib.hid (by unfold overL; rw [HZ1.out, decide_eq_false h1, HZ2.out]; rfl), HM9⟩
      case rest =>
      obtain ⟨zo, rfl, HOV, HC9⟩ := hcut
      obtain ⟨w9, rfl⟩ : ∃ w9 : World, w9 = wc := ⟨_, rfl⟩
      have kp2 := HC9.out.at0 kp2
      have kve := HC9.out.at0 kve
      have kl := HC9.out.at0 kl
      have kpm := HC9.out.at0 kpm
      have HM9 := Lib.hid (HM8.out.then0 HC9.out)
      have HS9 := Lib.hid (HS8.out.mod0 HC9.out)
      have KE := Lib.hid (And.intro kp2 (And.intro kve (And.intro kl kpm)))
      go_wp2_with fail
      go_loopw [16, 17] (fun s16 s17 ws => ∃ j : Nat, j ≤ wn ∧ s17 = .int .i64 (j : Int) ∧ s16 = .bool (((wrL x.r.ro.l).take j).any (fun k => over (ofK M k) cx g.lim.a)) ∧ Hid (Mod (fun _ => False) w9 ws)) (fun _ s17 _ => wn - (intOf s17).toNat)
      case atStart => exact ⟨0, by omega, rfl, by simp, Lib.hid (Mod.refl _ _)⟩
      case round =>
        obtain ⟨j, hj, rfl, rfl, HJ⟩ := hrel
        have kp2 := HJ.out.at0 KE.out.1
        by_cases hjl : j < wn
        ·
          as_aux_lemma =>
          have hjd := decide_eq_true hjl
          obtain ⟨ky, hky⟩ : ∃ ky, (wrL x.r.ro.l)[j]? = some ky := ⟨_, List.getElem?_eq_getElem (by rw [HWN.out]; exact hjl)⟩
          obtain ⟨g8, o8, C8, U8, fr8, rfl, k8, he8, hle8⟩ := key_at (HS9.out.mod0 HJ.out) hky
          have HKY : Hid ((wrL x.r.ro.l).take (j + 1) = (wrL x.r.ro.l).take j ++ [ky]) := Lib.hid (by rw [List.take_add_one, hky]; rfl)
          clear hky
          have kpm := HJ.out.at0 KE.out.2.2.2
          obtain ⟨zt, hzt⟩ : ∃ zt, ((wrL x.r.ro.l).take j).any (fun k => over (ofK M k) cx g.lim.a) = zt := ⟨_, rfl⟩
          rw [hzt]
          have HZT : Hid (((wrL x.r.ro.l).take (j + 1)).any (fun k => over (ofK M k) cx g.lim.a) = (zt || over (ofK M ky) cx g.lim.a)) := Lib.hid (by rw [HKY.out, List.any_append, hzt]; simp)
          clear hzt
          cases zt with
          | true =>
            go_upto_region 20 with fail
            have Lkp2 := lt_size kp2
            refine wp_pass (C := fun _ _ _ => False) (κ := fun i => [0, 0, 0, 0, 0, 0, 1, 1, 0, 0, 0, 0, 0, 0, 0, 0, 0, 0, 1, 1, 0, 0, 0, 0, 1, 0, 0, 0].getD i 0) [0, 1, 2, 3, 4, 5, 6, 7, 8, 9, 10, 11, 12, 13, 14, 15, 16, 17, 18, 19, 20, 21, 22, 23, 24, 25, 26, 27] (by kernel_rfl) (by kernel_rfl) (fun _ _ d _ _ h => by cases d <;> first | exact h | exact absurd h (hP _ _ _)) ?_
            (refine TD.val0 (v := ?v33) (by simp only [zA, zB, zC]; rfl) rfl ?hw33 (fun w1 => ?hy33) ?hn33; (case hw33 => rfl); (case hy33 => (go_simp; (try with_reducible rfl))); (try simp only [Act.put, zF, zG, zH]))
            (refine TD.val0 (v := ?v34) (by simp only [zA, zB, zC]; rfl) rfl ?hw34 (fun w1 => ?hy34) ?hn34; (case hw34 => rfl); (case hy34 => (go_simp; (try with_reducible rfl))); (try simp only [Act.put, zF, zG, zH]))
            (refine TD.pass (by simp only [zA, zB, zC]; rfl) rfl ?hw35 ?hn35; (case hw35 => rfl); (try simp only [Act.put, zF, zG, zH]))
            (refine TD.pass (by simp only [zA, zB, zC]; rfl) rfl ?hw36 ?hn36; (case hw36 => rfl); (try simp only [Act.put, zF, zG, zH]))
            (refine TD.pass (by simp only [zA, zB, zC]; rfl) rfl ?hw37 ?hn37; (case hw37 => rfl); (try simp only [Act.put, zF, zG, zH]))
            (refine TD.pass (by simp only [zA, zB, zC]; rfl) rfl ?hw38 ?hn38; (case hw38 => rfl); (try simp only [Act.put, zF, zG, zH]))
            (refine TD.pass1 (by simp only [zA, zB, zC]; rfl) rfl ?hw39 ?hn39; (case hw39 => rfl); (try simp only [Act.put, zF, zG, zH]))
            (refine TD.pass1 (by simp only [zA, zB, zC]; rfl) rfl ?hw40 ?hn40; (case hw40 => rfl); (try simp only [Act.put, zF, zG, zH]))
            (refine TD.pass (by simp only [zA, zB, zC]; rfl) rfl ?hw41 ?hn41; (case hw41 => rfl); (try simp only [Act.put, zF, zG, zH]))
            (refine TD.pass (by simp only [zA, zB, zC]; rfl) rfl ?hw42 ?hn42; (case hw42 => rfl); (try simp only [Act.put, zF, zG, zH]))
            (refine TD.pass (by simp only [zA, zB, zC]; rfl) rfl ?hw43 ?hn43; (case hw43 => rfl); (try simp only [Act.put, zF, zG, zH]))
            (refine TD.pass (by simp only [zA, zB, zC]; rfl) rfl ?hw44 ?hn44; (case hw44 => rfl); (try simp only [Act.put, zF, zG, zH]))
            (refine TD.val0 (v := ?v45) (by simp only [zA, zB, zC]; rfl) rfl ?hw45 (fun w1 => ?hy45) ?hn45; (case hw45 => rfl); (case hy45 => (go_simp; (try with_reducible rfl))); (try simp only [Act.put, zF, zG, zH]))
            (refine TD.val0 (v := ?v46) (by simp only [zA, zB, zC]; rfl) rfl ?hw46 (fun w1 => ?hy46) ?hn46; (case hw46 => rfl); (case hy46 => (go_simp; (try with_reducible rfl))); (try simp only [Act.put, zF, zG, zH]))
            (refine TD.pass (by simp only [zA, zB, zC]; rfl) rfl ?hw47 ?hn47; (case hw47 => rfl); (try simp only [Act.put, zF, zG, zH]))
            (refine TD.pass (by simp only [zA, zB, zC]; rfl) rfl ?hw48 ?hn48; (case hw48 => rfl); (try simp only [Act.put, zF, zG, zH]))
            (refine TD.pass (by simp only [zA, zB, zC]; rfl) rfl ?hw49 ?hn49; (case hw49 => rfl); (try simp only [Act.put, zF, zG, zH]))
            (refine TD.pass (by simp only [zA, zB, zC]; rfl) rfl ?hw50 ?hn50; (case hw50 => rfl); (try simp only [Act.put, zF, zG, zH]))
            (refine TD.pass1 (by simp only [zA, zB, zC]; rfl) rfl ?hw51 ?hn51; (case hw51 => rfl); (try simp only [Act.put, zF, zG, zH]))
            (refine TD.pass1 (by simp only [zA, zB, zC]; rfl) rfl ?hw52 ?hn52; (case hw52 => rfl); (try simp only [Act.put, zF, zG, zH]))
            (refine TD.pass (by simp only [zA, zB, zC]; rfl) rfl ?hw53 ?hn53; (case hw53 => rfl); (try simp only [Act.put, zF, zG, zH]))
            (refine TD.pass (by simp only [zA, zB, zC]; rfl) rfl ?hw54 ?hn54; (case hw54 => rfl); (try simp only [Act.put, zF, zG, zH]))
            (refine TD.pass (by simp only [zA, zB, zC]; rfl) rfl ?hw55 ?hn55; (case hw55 => rfl); (try simp only [Act.put, zF, zG, zH]))
            (refine TD.pass (by simp only [zA, zB, zC]; rfl) rfl ?hw56 ?hn56; (case hw56 => rfl); (try simp only [Act.put, zF, zG, zH]))
            (refine TD.pass1 (by simp only [zA, zB, zC]; rfl) rfl ?hw57 ?hn57; (case hw57 => rfl); (try simp only [Act.put, zF, zG, zH]))
            (refine TD.pass (by simp only [zA, zB, zC]; rfl) rfl ?hw58 ?hn58; (case hw58 => rfl); (try simp only [Act.put, zF, zG, zH]))
            (refine TD.val0 (v := ?v59) (by simp only [zA, zB, zC]; rfl) rfl ?hw59 (fun w1 => ?hy59) ?hn59; (case hw59 => rfl); (case hy59 => (go_simp; (try with_reducible rfl))); (try simp only [Act.put, zF, zG, zH]))
            (refine TD.val0 (v := ?v60) (by simp only [zA, zB, zC]; rfl) rfl ?hw60 (fun w1 => ?hy60) ?hn60; (case hw60 => rfl); (case hy60 => (go_simp; (try with_reducible rfl))); (try simp only [Act.put, zF, zG, zH]))
            refine TD.nil (fun w10 hr => ?_)
            replace kp2 := hr.mod.at kp2 (fun h => h)
            have m10 := hr.mod
            clear hr
            go_wp2_with fail
            go_roundw
            case rel => exact ⟨j + 1, by omega, by go_num, by rw [HZT.out]; rfl, Lib.hid (HJ.out.then0 m10)⟩
            case measure => simp [intOf]; omega
          | false =>
            obtain ⟨y, hy⟩ : ∃ y, ofK M ky = y := ⟨_, rfl⟩
            have hlk : ∀ wq, Mod (fun _ => False) wr wq → (Instr.lookup 43 (.map (some pm)) (.agg (kc ky)) false).run Try.prog wq = .ok (u64v y) wq := fun wq hq => by
              have := HMM.out.lookupD keyT Try.underlying43 zero_u64 wq (hq.at0 kpm) ky
              rw [show ((lkp ky M).getD 0) = y from hy] at this
              exact this
            obtain ⟨z3, hz3⟩ : ∃ z3, y + cx = z3 := ⟨_, rfl⟩
            have ha3w : IntKind.u64.wrap ((y.toNat : Int) + (cx.toNat : Int)) = (z3.toNat : Int) := by rw [IntKind.wrap_u64, ← hz3]; exact add_cast y cx
            have HOY : Hid (over (ofK M ky) cx g.lim.a = (decide (z3 < cx) || decide (g.lim.a < z3))) := Lib.hid (by unfold over; rw [hy, hz3])
            clear hz3 hy
            by_cases h3 : z3 < cx
            · obtain ⟨he1, he1b, he1c⟩ := lt_cast z3 cx true (decide_eq_true h3)
              go_upto_region 20 with fail
              have Lkp2 := lt_size kp2
              have Lk8 := lt_size k8
              refine wp_pass (C := fun _ _ _ => False) (κ := fun i => [0, 0, 0, 0, 0, 0, 1, 1, 0, 0, 0, 0, 0, 0, 0, 0, 0, 0, 1, 1, 0, 0, 0, 0, 1, 0, 0, 0].getD i 0) [0, 1, 2, 3, 4, 5, 6, 7, 8, 9, 10, 11, 12, 13, 14, 15, 16, 17, 18, 19, 20, 21, 22, 23, 24, 25, 26, 27] (by kernel_rfl) (by kernel_rfl) (fun _ _ d _ _ h => by cases d <;> first | exact h | exact absurd h (hP _ _ _)) ?_
              (refine TD.val0 (v := ?v61) (by simp only [zA, zB, zC]; rfl) rfl ?hw61 (fun w1 => ?hy61) ?hn61; (case hw61 => rfl); (case hy61 => (go_simp; (try with_reducible rfl))); (try simp only [Act.put, zF, zG, zH]))
              (refine TD.val0 (v := ?v62) (by simp only [zA, zB, zC]; rfl) rfl ?hw62 (fun w1 => ?hy62) ?hn62; (case hw62 => rfl); (case hy62 => (go_simp; (try with_reducible rfl))); (try simp only [Act.put, zF, zG, zH]))
              (refine TD.val0 (v := ?v63) (by simp only [zA, zB, zC]; rfl) rfl ?hw63 (fun w1 => ?hy63) ?hn63; (case hw63 => rfl); (case hy63 => (go_simp; (try with_reducible rfl))); (try simp only [Act.put, zF, zG, zH]))
              (refine TD.val0 (v := ?v64) (by simp only [zA, zB, zC]; rfl) rfl ?hw64 (fun w1 => ?hy64) ?hn64; (case hw64 => rfl); (case hy64 => (go_simp; (try with_reducible rfl))); (try simp only [Act.put, zF, zG, zH]))
              (refine TD.val0 (v := ?v65) (by simp only [zA, zB, zC]; rfl) rfl ?hw65 (fun w1 => ?hy65) ?hn65; (case hw65 => rfl); (case hy65 => (go_simp; (try with_reducible rfl))); (try simp only [Act.put, zF, zG, zH]))
              (refine TD.val0 (v := ?v66) (by simp only [zA, zB, zC]; rfl) rfl ?hw66 (fun w1 => ?hy66) ?hn66; (case hw66 => rfl); (case hy66 => (go_simp; (try with_reducible rfl))); (try simp only [Act.put, zF, zG, zH]))
              (refine TD.load (v := ?v67) (p := ?p67) (Mod.refl _ _) (by simp only [zA, zB, zC]; rfl) rfl ?hw67 rfl ?hx67 (fun wq hSq => ?hy67) ?hn67; (case hw67 => rfl); (case hx67 => (simp only [Act.eval, zD, zA, zB, zC, zE]; (try rfl))); (case hy67 => (have kp2q := hSq.at kp2 (fun h => h); have k8q := hSq.at k8 (fun h => h); go_simp; (try with_reducible rfl))); (try simp only [Act.put, zF, zG, zH]))
              (refine TD.lookup (v := ?v68) (p := ?p68) (q := ?q68) (Mod.refl _ _) (by simp only [zA, zB, zC]; rfl) rfl ?hw68 rfl ?hx68 ?hz68 (fun wq hSq => ?hy68) ?hn68; (case hw68 => rfl); (case hx68 => (simp only [Act.eval, zD, zA, zB, zC, zE]; (try rfl))); (case hz68 => (simp only [Act.eval, zD, zA, zB, zC, zE]; (try rfl))); (case hy68 => (rw [hlk wq hSq]; (try with_reducible rfl))); (try simp only [Act.put, zF, zG, zH]))
              (refine TD.val0 (v := ?v69) (by simp only [zA, zB, zC]; rfl) rfl ?hw69 (fun w1 => ?hy69) ?hn69; (case hw69 => rfl); (case hy69 => (go_simp; (try with_reducible rfl))); (try simp only [Act.put, zF, zG, zH]))
              (refine TD.val0 (v := ?v70) (by simp only [zA, zB, zC]; rfl) rfl ?hw70 (fun w1 => ?hy70) ?hn70; (case hw70 => rfl); (case hy70 => (go_simp; (try with_reducible rfl))); (try simp only [Act.put, zF, zG, zH]))
              (refine TD.val0 (v := ?v71) (by simp only [zA, zB, zC]; rfl) rfl ?hw71 (fun w1 => ?hy71) ?hn71; (case hw71 => rfl); (case hy71 => (go_simp; (try with_reducible rfl))); (try simp only [Act.put, zF, zG, zH]))
              (refine TD.val0 (v := ?v72) (by simp only [zA, zB, zC]; rfl) rfl ?hw72 (fun w1 => ?hy72) ?hn72; (case hw72 => rfl); (case hy72 => (go_simp; (try with_reducible rfl))); (try simp only [Act.put, zF, zG, zH]))
              (refine TD.val0 (v := ?v73) (by simp only [zA, zB, zC]; rfl) rfl ?hw73 (fun w1 => ?hy73) ?hn73; (case hw73 => rfl); (case hy73 => (go_simp; (try with_reducible rfl))); (try simp only [Act.put, zF, zG, zH]))
              (refine TD.val0 (v := ?v74) (by simp only [zA, zB, zC]; rfl) rfl ?hw74 (fun w1 => ?hy74) ?hn74; (case hw74 => rfl); (case hy74 => (go_simp; (try with_reducible rfl))); (try simp only [Act.put, zF, zG, zH]))
              (refine TD.pass (by simp only [zA, zB, zC]; rfl) rfl ?hw75 ?hn75; (case hw75 => rfl); (try simp only [Act.put, zF, zG, zH]))
              (refine TD.pass (by simp only [zA, zB, zC]; rfl) rfl ?hw76 ?hn76; (case hw76 => rfl); (try simp only [Act.put, zF, zG, zH]))
              (refine TD.pass (by simp only [zA, zB, zC]; rfl) rfl ?hw77 ?hn77; (case hw77 => rfl); (try simp only [Act.put, zF, zG, zH]))
              (refine TD.pass (by simp only [zA, zB, zC]; rfl) rfl ?hw78 ?hn78; (case hw78 => rfl); (try simp only [Act.put, zF, zG, zH]))
              (refine TD.pass1 (by simp only [zA, zB, zC]; rfl) rfl ?hw79 ?hn79; (case hw79 => rfl); (try simp only [Act.put, zF, zG, zH]))
              (refine TD.pass1 (by simp only [zA, zB, zC]; rfl) rfl ?hw80 ?hn80; (case hw80 => rfl); (try simp only [Act.put, zF, zG, zH]))
              (refine TD.pass (by simp only [zA, zB, zC]; rfl) rfl ?hw81 ?hn81; (case hw81 => rfl); (try simp only [Act.put, zF, zG, zH]))
              (refine TD.pass (by simp only [zA, zB, zC]; rfl) rfl ?hw82 ?hn82; (case hw82 => rfl); (try simp only [Act.put, zF, zG, zH]))
              (refine TD.pass (by simp only [zA, zB, zC]; rfl) rfl ?hw83 ?hn83; (case hw83 => rfl); (try simp only [Act.put, zF, zG, zH]))
              (refine TD.pass (by simp only [zA, zB, zC]; rfl) rfl ?hw84 ?hn84; (case hw84 => rfl); (try simp only [Act.put, zF, zG, zH]))
              (refine TD.pass1 (by simp only [zA, zB, zC]; rfl) rfl ?hw85 ?hn85; (case hw85 => rfl); (try simp only [Act.put, zF, zG, zH]))
              (refine TD.pass (by simp only [zA, zB, zC]; rfl) rfl ?hw86 ?hn86; (case hw86 => rfl); (try simp only [Act.put, zF, zG, zH]))
              (refine TD.val0 (v := ?v87) (by simp only [zA, zB, zC]; rfl) rfl ?hw87 (fun w1 => ?hy87) ?hn87; (case hw87 => rfl); (case hy87 => (go_simp; (try with_reducible rfl))); (try simp only [Act.put, zF, zG, zH]))
              (refine TD.val0 (v := ?v88) (by simp only [zA, zB, zC]; rfl) rfl ?hw88 (fun w1 => ?hy88) ?hn88; (case hw88 => rfl); (case hy88 => (go_simp; (try with_reducible rfl))); (try simp only [Act.put, zF, zG, zH]))
              refine TD.nil (fun w10 hr => ?_)
              replace kp2 := hr.mod.at kp2 (fun h => h)
              replace k8 := hr.mod.at k8 (fun h => h)
              have m10 := hr.mod
              clear hr hlk
              go_wp2_with fail
              go_roundw
              case rel => exact ⟨j + 1, by omega, by go_num, by rw [HZT.out, HOY.out, decide_eq_true h3]; rfl, Lib.hid (HJ.out.then0 m10)⟩
              case measure => simp [intOf]; omega
            · obtain ⟨he1, he1b, he1c⟩ := lt_cast z3 cx false (decide_eq_false h3)
              obtain ⟨z4, hz4⟩ : ∃ z4, decide (g.lim.a < z3) = z4 := ⟨_, rfl⟩
              obtain ⟨he2, he2b, he2c⟩ := lt_cast g.lim.a z3 z4 hz4
              have HZ4 := Lib.hid hz4
              clear hz4
              go_upto_region 20 with fail
              have Lkp2 := lt_size kp2
              have Lk8 := lt_size k8
              refine wp_pass (C := fun _ _ _ => False) (κ := fun i => [0, 0, 0, 0, 0, 0, 1, 1, 0, 0, 0, 0, 0, 0, 0, 0, 0, 0, 1, 1, 0, 0, 0, 0, 1, 0, 0, 0].getD i 0) [0, 1, 2, 3, 4, 5, 6, 7, 8, 9, 10, 11, 12, 13, 14, 15, 16, 17, 18, 19, 20, 21, 22, 23, 24, 25, 26, 27] (by kernel_rfl) (by kernel_rfl) (fun _ _ d _ _ h => by cases d <;> first | exact h | exact absurd h (hP _ _ _)) ?_
              (refine TD.val0 (v := ?v89) (by simp only [zA, zB, zC]; rfl) rfl ?hw89 (fun w1 => ?hy89) ?hn89; (case hw89 => rfl); (case hy89 => (go_simp; (try with_reducible rfl))); (try simp only [Act.put, zF, zG, zH]))
              (refine TD.val0 (v := ?v90) (by simp only [zA, zB, zC]; rfl) rfl ?hw90 (fun w1 => ?hy90) ?hn90; (case hw90 => rfl); (case hy90 => (go_simp; (try with_reducible rfl))); (try simp only [Act.put, zF, zG, zH]))
              (refine TD.val0 (v := ?v91) (by simp only [zA, zB, zC]; rfl) rfl ?hw91 (fun w1 => ?hy91) ?hn91; (case hw91 => rfl); (case hy91 => (go_simp; (try with_reducible rfl))); (try simp only [Act.put, zF, zG, zH]))
              (refine TD.val0 (v := ?v92) (by simp only [zA, zB, zC]; rfl) rfl ?hw92 (fun w1 => ?hy92) ?hn92; (case hw92 => rfl); (case hy92 => (go_simp; (try with_reducible rfl))); (try simp only [Act.put, zF, zG, zH]))
              (refine TD.val0 (v := ?v93) (by simp only [zA, zB, zC]; rfl) rfl ?hw93 (fun w1 => ?hy93) ?hn93; (case hw93 => rfl); (case hy93 => (go_simp; (try with_reducible rfl))); (try simp only [Act.put, zF, zG, zH]))
              (refine TD.val0 (v := ?v94) (by simp only [zA, zB, zC]; rfl) rfl ?hw94 (fun w1 => ?hy94) ?hn94; (case hw94 => rfl); (case hy94 => (go_simp; (try with_reducible rfl))); (try simp only [Act.put, zF, zG, zH]))
              (refine TD.load (v := ?v95) (p := ?p95) (Mod.refl _ _) (by simp only [zA, zB, zC]; rfl) rfl ?hw95 rfl ?hx95 (fun wq hSq => ?hy95) ?hn95; (case hw95 => rfl); (case hx95 => (simp only [Act.eval, zD, zA, zB, zC, zE]; (try rfl))); (case hy95 => (have kp2q := hSq.at kp2 (fun h => h); have k8q := hSq.at k8 (fun h => h); go_simp; (try with_reducible rfl))); (try simp only [Act.put, zF, zG, zH]))
              (refine TD.lookup (v := ?v96) (p := ?p96) (q := ?q96) (Mod.refl _ _) (by simp only [zA, zB, zC]; rfl) rfl ?hw96 rfl ?hx96 ?hz96 (fun wq hSq => ?hy96) ?hn96; (case hw96 => rfl); (case hx96 => (simp only [Act.eval, zD, zA, zB, zC, zE]; (try rfl))); (case hz96 => (simp only [Act.eval, zD, zA, zB, zC, zE]; (try rfl))); (case hy96 => (rw [hlk wq hSq]; (try with_reducible rfl))); (try simp only [Act.put, zF, zG, zH]))
              (refine TD.val0 (v := ?v97) (by simp only [zA, zB, zC]; rfl) rfl ?hw97 (fun w1 => ?hy97) ?hn97; (case hw97 => rfl); (case hy97 => (go_simp; (try with_reducible rfl))); (try simp only [Act.put, zF, zG, zH]))
              (refine TD.val0 (v := ?v98) (by simp only [zA, zB, zC]; rfl) rfl ?hw98 (fun w1 => ?hy98) ?hn98; (case hw98 => rfl); (case hy98 => (go_simp; (try with_reducible rfl))); (try simp only [Act.put, zF, zG, zH]))
              (refine TD.val0 (v := ?v99) (by simp only [zA, zB, zC]; rfl) rfl ?hw99 (fun w1 => ?hy99) ?hn99; (case hw99 => rfl); (case hy99 => (go_simp; (try with_reducible rfl))); (try simp only [Act.put, zF, zG, zH]))
              (refine TD.val0 (v := ?v100) (by simp only [zA, zB, zC]; rfl) rfl ?hw100 (fun w1 => ?hy100) ?hn100; (case hw100 => rfl); (case hy100 => (go_simp; (try with_reducible rfl))); (try simp only [Act.put, zF, zG, zH]))
              (refine TD.val0 (v := ?v101) (by simp only [zA, zB, zC]; rfl) rfl ?hw101 (fun w1 => ?hy101) ?hn101; (case hw101 => rfl); (case hy101 => (go_simp; (try with_reducible rfl))); (try simp only [Act.put, zF, zG, zH]))
              (refine TD.val0 (v := ?v102) (by simp only [zA, zB, zC]; rfl) rfl ?hw102 (fun w1 => ?hy102) ?hn102; (case hw102 => rfl); (case hy102 => (go_simp; (try with_reducible rfl))); (try simp only [Act.put, zF, zG, zH]))
              (refine TD.val0 (v := ?v103) (by simp only [zA, zB, zC]; rfl) rfl ?hw103 (fun w1 => ?hy103) ?hn103; (case hw103 => rfl); (case hy103 => (go_simp; (try with_reducible rfl))); (try simp only [Act.put, zF, zG, zH]))
              (refine TD.val0 (v := ?v104) (by simp only [zA, zB, zC]; rfl) rfl ?hw104 (fun w1 => ?hy104) ?hn104; (case hw104 => rfl); (case hy104 => (go_simp; (try with_reducible rfl))); (try simp only [Act.put, zF, zG, zH]))
              (refine TD.val0 (v := ?v105) (by simp only [zA, zB, zC]; rfl) rfl ?hw105 (fun w1 => ?hy105) ?hn105; (case hw105 => rfl); (case hy105 => (go_simp; (try with_reducible rfl))); (try simp only [Act.put, zF, zG, zH]))
              (refine TD.val0 (v := ?v106) (by simp only [zA, zB, zC]; rfl) rfl ?hw106 (fun w1 => ?hy106) ?hn106; (case hw106 => rfl); (case hy106 => (go_simp; (try with_reducible rfl))); (try simp only [Act.put, zF, zG, zH]))
              (refine TD.load (v := ?v107) (p := ?p107) (Mod.refl _ _) (by simp only [zA, zB, zC]; rfl) rfl ?hw107 rfl ?hx107 (fun wq hSq => ?hy107) ?hn107; (case hw107 => rfl); (case hx107 => (simp only [Act.eval, zD, zA, zB, zC, zE]; (try rfl))); (case hy107 => (have kp2q := hSq.at kp2 (fun h => h); have k8q := hSq.at k8 (fun h => h); go_simp; (try with_reducible rfl))); (try simp only [Act.put, zF, zG, zH]))
              (refine TD.lookup (v := ?v108) (p := ?p108) (q := ?q108) (Mod.refl _ _) (by simp only [zA, zB, zC]; rfl) rfl ?hw108 rfl ?hx108 ?hz108 (fun wq hSq => ?hy108) ?hn108; (case hw108 => rfl); (case hx108 => (simp only [Act.eval, zD, zA, zB, zC, zE]; (try rfl))); (case hz108 => (simp only [Act.eval, zD, zA, zB, zC, zE]; (try rfl))); (case hy108 => (rw [hlk wq hSq]; (try with_reducible rfl))); (try simp only [Act.put, zF, zG, zH]))
              (refine TD.val0 (v := ?v109) (by simp only [zA, zB, zC]; rfl) rfl ?hw109 (fun w1 => ?hy109) ?hn109; (case hw109 => rfl); (case hy109 => (go_simp; (try with_reducible rfl))); (try simp only [Act.put, zF, zG, zH]))
              (refine TD.val0 (v := ?v110) (by simp only [zA, zB, zC]; rfl) rfl ?hw110 (fun w1 => ?hy110) ?hn110; (case hw110 => rfl); (case hy110 => (go_simp; (try with_reducible rfl))); (try simp only [Act.put, zF, zG, zH]))
              (refine TD.val0 (v := ?v111) (by simp only [zA, zB, zC]; rfl) rfl ?hw111 (fun w1 => ?hy111) ?hn111; (case hw111 => rfl); (case hy111 => (go_simp; (try with_reducible rfl))); (try simp only [Act.put, zF, zG, zH]))
              (refine TD.val0 (v := ?v112) (by simp only [zA, zB, zC]; rfl) rfl ?hw112 (fun w1 => ?hy112) ?hn112; (case hw112 => rfl); (case hy112 => (go_simp; (try with_reducible rfl))); (try simp only [Act.put, zF, zG, zH]))
              (refine TD.load (v := ?v113) (p := ?p113) (Mod.refl _ _) (by simp only [zA, zB, zC]; rfl) rfl ?hw113 rfl ?hx113 (fun wq hSq => ?hy113) ?hn113; (case hw113 => rfl); (case hx113 => (simp only [Act.eval, zD, zA, zB, zC, zE]; (try rfl))); (case hy113 => (have kp2q := hSq.at kp2 (fun h => h); have k8q := hSq.at k8 (fun h => h); go_simp; (try with_reducible rfl))); (try simp only [Act.put, zF, zG, zH]))
              (refine TD.val0 (v := ?v114) (by simp only [zA, zB, zC]; rfl) rfl ?hw114 (fun w1 => ?hy114) ?hn114; (case hw114 => rfl); (case hy114 => (go_simp; (try with_reducible rfl))); (try simp only [Act.put, zF, zG, zH]))
              (refine TD.val0 (v := ?v115) (by simp only [zA, zB, zC]; rfl) rfl ?hw115 (fun w1 => ?hy115) ?hn115; (case hw115 => rfl); (case hy115 => (go_simp; (try with_reducible rfl))); (try simp only [Act.put, zF, zG, zH]))
              (refine TD.val0 (v := ?v116) (by simp only [zA, zB, zC]; rfl) rfl ?hw116 (fun w1 => ?hy116) ?hn116; (case hw116 => rfl); (case hy116 => (go_simp; (try with_reducible rfl))); (try simp only [Act.put, zF, zG, zH]))
              refine TD.nil (fun w10 hr => ?_)
              replace kp2 := hr.mod.at kp2 (fun h => h)
              replace k8 := hr.mod.at k8 (fun h => h)
              have m10 := hr.mod
              clear hr hlk
              go_wp2_with fail
              go_roundw
              case rel => exact ⟨j + 1, by omega, by go_num, by rw [HZT.out, HOY.out, decide_eq_false h3, HZ4.out]; rfl, Lib.hid (HJ.out.then0 m10)⟩
              case measure => simp [intOf]; omega
        · obtain rfl : wn = j := by omega
          rw [List.take_of_length_le (by rw [HWN.out]; omega)]
          obtain ⟨zt, hzt⟩ : ∃ zt, (wrL x.r.ro.l).any (fun k => over (ofK M k) cx g.lim.a) = zt := ⟨_, rfl⟩
          have HZT := Lib.hid hzt
          rw [hzt]
          clear hzt
          have kve := HJ.out.at0 KE.out.2.1
          have kl := HJ.out.at0 KE.out.2.2.1
          have kpm := HJ.out.at0 KE.out.2.2.2
          have HM10 := Lib.hid (HM9.out.then0 HJ.out)
          have HE10 := Lib.hid HJ.out
          clear HJ
          obtain ⟨w10, rfl⟩ : ∃ w10 : World, w10 = wr := ⟨_, rfl⟩
          go_upto_region 21 with fail
          go_cut [18] from 48 to 227 (fun s18 wx => ∃ zw : Bool, s18 = .bool zw ∧ Hid (overL space x.o.sp g.lim.s = zw) ∧ Hid (Mod (fun _ => False) w10 wx))
          case first =>
            as_aux_lemma =>
            obtain ⟨y1, hy1⟩ : ∃ y1, space + x.o.sp = y1 := ⟨_, rfl⟩
            have hb1w : IntKind.u64.wrap ((space.toNat : Int) + (x.o.sp.toNat : Int)) = (y1.toNat : Int) := by rw [IntKind.wrap_u64, ← hy1]; exact add_cast space x.o.sp
            have HY1 := Lib.hid hy1
            clear hy1
            by_cases g1 : y1 < space
            · obtain ⟨ge1, ge1b, ge1c⟩ := lt_cast y1 space true (decide_eq_true g1)
              have Lkp2 := lt_size kp2
              have Lkl := lt_size kl
              refine wp_pass (C := fun _ _ _ => False) (κ := fun i => [0, 0, 0, 0, 0, 0, 1, 0, 0, 0, 0, 0, 0, 0, 0, 0, 0, 1, 0, 0, 0, 1, 0, 0, 0].getD i 0) [0, 1, 2, 3, 4, 5, 6, 7, 8, 9, 10, 11, 12, 13, 14, 15, 16, 17, 18, 19, 20, 21, 22, 23, 24] (by kernel_rfl) (by kernel_rfl) (fun _ _ d _ _ h => by cases d <;> first | exact h | exact absurd h (hP _ _ _)) ?_
              (refine TD.val0 (v := ?v117) (by simp only [zA, zB, zC]; rfl) rfl ?hw117 (fun w1 => ?hy117) ?hn117; (case hw117 => rfl); (case hy117 => (go_simp; (try with_reducible rfl))); (try simp only [Act.put, zF, zG, zH]))
              (refine TD.val0 (v := ?v118) (by simp only [zA, zB, zC]; rfl) rfl ?hw118 (fun w1 => ?hy118) ?hn118; (case hw118 => rfl); (case hy118 => (go_simp; (try with_reducible rfl))); (try simp only [Act.put, zF, zG, zH]))
              (refine TD.val0 (v := ?v119) (by simp only [zA, zB, zC]; rfl) rfl ?hw119 (fun w1 => ?hy119) ?hn119; (case hw119 => rfl); (case hy119 => (go_simp; (try with_reducible rfl))); (try simp only [Act.put, zF, zG, zH]))
              (refine TD.val0 (v := ?v120) (by simp only [zA, zB, zC]; rfl) rfl ?hw120 (fun w1 => ?hy120) ?hn120; (case hw120 => rfl); (case hy120 => (go_simp; (try with_reducible rfl))); (try simp only [Act.put, zF, zG, zH]))
              (refine TD.val0 (v := ?v121) (by simp only [zA, zB, zC]; rfl) rfl ?hw121 (fun w1 => ?hy121) ?hn121; (case hw121 => rfl); (case hy121 => (go_simp; (try with_reducible rfl))); (try simp only [Act.put, zF, zG, zH]))
              (refine TD.val0 (v := ?v122) (by simp only [zA, zB, zC]; rfl) rfl ?hw122 (fun w1 => ?hy122) ?hn122; (case hw122 => rfl); (case hy122 => (go_simp; (try with_reducible rfl))); (try simp only [Act.put, zF, zG, zH]))
              (refine TD.load (v := ?v123) (p := ?p123) (Mod.refl _ _) (by simp only [zA, zB, zC]; rfl) rfl ?hw123 rfl ?hx123 (fun wq hSq => ?hy123) ?hn123; (case hw123 => rfl); (case hx123 => (simp only [Act.eval, zD, zA, zB, zC, zE]; (try rfl))); (case hy123 => (have kp2q := hSq.at kp2 (fun h => h); have klq := hSq.at kl (fun h => h); go_simp; (try with_reducible rfl))); (try simp only [Act.put, zF, zG, zH]))
              (refine TD.val0 (v := ?v124) (by simp only [zA, zB, zC]; rfl) rfl ?hw124 (fun w1 => ?hy124) ?hn124; (case hw124 => rfl); (case hy124 => (go_simp; (try with_reducible rfl))); (try simp only [Act.put, zF, zG, zH]))
              (refine TD.val0 (v := ?v125) (by simp only [zA, zB, zC]; rfl) rfl ?hw125 (fun w1 => ?hy125) ?hn125; (case hw125 => rfl); (case hy125 => (go_simp; (try with_reducible rfl))); (try simp only [Act.put, zF, zG, zH]))
              (refine TD.val0 (v := ?v126) (by simp only [zA, zB, zC]; rfl) rfl ?hw126 (fun w1 => ?hy126) ?hn126; (case hw126 => rfl); (case hy126 => (go_simp; (try with_reducible rfl))); (try simp only [Act.put, zF, zG, zH]))
              (refine TD.val0 (v := ?v127) (by simp only [zA, zB, zC]; rfl) rfl ?hw127 (fun w1 => ?hy127) ?hn127; (case hw127 => rfl); (case hy127 => (go_simp; (try with_reducible rfl))); (try simp only [Act.put, zF, zG, zH]))
              (refine TD.pass (by simp only [zA, zB, zC]; rfl) rfl ?hw128 ?hn128; (case hw128 => rfl); (try simp only [Act.put, zF, zG, zH]))
              (refine TD.pass (by simp only [zA, zB, zC]; rfl) rfl ?hw129 ?hn129; (case hw129 => rfl); (try simp only [Act.put, zF, zG, zH]))
              (refine TD.pass (by simp only [zA, zB, zC]; rfl) rfl ?hw130 ?hn130; (case hw130 => rfl); (try simp only [Act.put, zF, zG, zH]))
              (refine TD.pass (by simp only [zA, zB, zC]; rfl) rfl ?hw131 ?hn131; (case hw131 => rfl); (try simp only [Act.put, zF, zG, zH]))
              (refine TD.pass (by simp only [zA, zB, zC]; rfl) rfl ?hw132 ?hn132; (case hw132 => rfl); (try simp only [Act.put, zF, zG, zH]))
              (refine TD.pass (by simp only [zA, zB, zC]; rfl) rfl ?hw133 ?hn133; (case hw133 => rfl); (try simp only [Act.put, zF, zG, zH]))
              (refine TD.pass1 (by simp only [zA, zB, zC]; rfl) rfl ?hw134 ?hn134; (case hw134 => rfl); (try simp only [Act.put, zF, zG, zH]))
              (refine TD.pass (by simp only [zA, zB, zC]; rfl) rfl ?hw135 ?hn135; (case hw135 => rfl); (try simp only [Act.put, zF, zG, zH]))
              (refine TD.pass (by simp only [zA, zB, zC]; rfl) rfl ?hw136 ?hn136; (case hw136 => rfl); (try simp only [Act.put, zF, zG, zH]))
              (refine TD.pass (by simp only [zA, zB, zC]; rfl) rfl ?hw137 ?hn137; (case hw137 => rfl); (try simp only [Act.put, zF, zG, zH]))
              (refine TD.pass1 (by simp only [zA, zB, zC]; rfl) rfl ?hw138 ?hn138; (case hw138 => rfl); (try simp only [Act.put, zF, zG, zH]))
              (refine TD.pass (by simp only [zA, zB, zC]; rfl) rfl ?hw139 ?hn139; (case hw139 => rfl); (try simp only [Act.put, zF, zG, zH]))
              (refine TD.val0 (v := ?v140) (by simp only [zA, zB, zC]; rfl) rfl ?hw140 (fun w1 => ?hy140) ?hn140; (case hw140 => rfl); (case hy140 => (go_simp; (try with_reducible rfl))); (try simp only [Act.put, zF, zG, zH]))
              (refine TD.val0 (v := ?v141) (by simp only [zA, zB, zC]; rfl) rfl ?hw141 (fun w1 => ?hy141) ?hn141; (case hw141 => rfl); (case hy141 => (go_simp; (try with_reducible rfl))); (try simp only [Act.put, zF, zG, zH]))
              refine TD.nil (fun w11 hr => ?_)
              replace kp2 := hr.mod.at kp2 (fun h => h)
              replace kl := hr.mod.at kl (fun h => h)
              have HM11 := Lib.hid hr.mod
              clear hr
              go_wp2_with fail
              go_meet
              case rel => exact ⟨true, rfl, Lib.hid (by unfold overL; rw [HY1.out, decide_eq_true g1]; rfl), HM11⟩
            · obtain ⟨ge1, ge1b, ge1c⟩ := lt_cast y1 space false (decide_eq_false g1)
              obtain ⟨y2, hy2⟩ : ∃ y2, decide (g.lim.s < y1) = y2 := ⟨_, rfl⟩
              obtain ⟨gd2, gd2b, gd2c⟩ := lt_cast g.lim.s y1 y2 hy2
              have HY2 := Lib.hid hy2
              clear hy2
              have Lkp2 := lt_size kp2
              have Lkl := lt_size kl
              refine wp_pass (C := fun _ _ _ => False) (κ := fun i => [0, 0, 0, 0, 0, 0, 1, 0, 0, 0, 0, 0, 0, 0, 0, 0, 0, 1, 0, 0, 0, 1, 0, 0, 0].getD i 0) [0, 1, 2, 3, 4, 5, 6, 7, 8, 9, 10, 11, 12, 13, 14, 15, 16, 17, 18, 19, 20, 21, 22, 23, 24] (by kernel_rfl) (by kernel_rfl) (fun _ _ d _ _ h => by cases d <;> first | exact h | exact absurd h (hP _ _ _)) ?_
              (refine TD.val0 (v := ?v142) (by simp only [zA, zB, zC]; rfl) rfl ?hw142 (fun w1 => ?hy142) ?hn142; (case hw142 => rfl); (case hy142 => (go_simp; (try with_reducible rfl))); (try simp only [Act.put, zF, zG, zH]))
              (refine TD.val0 (v := ?v143) (by simp only [zA, zB, zC]; rfl) rfl ?hw143 (fun w1 => ?hy143) ?hn143; (case hw143 => rfl); (case hy143 => (go_simp; (try with_reducible rfl))); (try simp only [Act.put, zF, zG, zH]))
              (refine TD.val0 (v := ?v144) (by simp only [zA, zB, zC]; rfl) rfl ?hw144 (fun w1 => ?hy144) ?hn144; (case hw144 => rfl); (case hy144 => (go_simp; (try with_reducible rfl))); (try simp only [Act.put, zF, zG, zH]))
              (refine TD.val0 (v := ?v145) (by simp only [zA, zB, zC]; rfl) rfl ?hw145 (fun w1 => ?hy145) ?hn145; (case hw145 => rfl); (case hy145 => (go_simp; (try with_reducible rfl))); (try simp only [Act.put, zF, zG, zH]))
              (refine TD.val0 (v := ?v146) (by simp only [zA, zB, zC]; rfl) rfl ?hw146 (fun w1 => ?hy146) ?hn146; (case hw146 => rfl); (case hy146 => (go_simp; (try with_reducible rfl))); (try simp only [Act.put, zF, zG, zH]))
              (refine TD.val0 (v := ?v147) (by simp only [zA, zB, zC]; rfl) rfl ?hw147 (fun w1 => ?hy147) ?hn147; (case hw147 => rfl); (case hy147 => (go_simp; (try with_reducible rfl))); (try simp only [Act.put, zF, zG, zH]))
              (refine TD.load (v := ?v148) (p := ?p148) (Mod.refl _ _) (by simp only [zA, zB, zC]; rfl) rfl ?hw148 rfl ?hx148 (fun wq hSq => ?hy148) ?hn148; (case hw148 => rfl); (case hx148 => (simp only [Act.eval, zD, zA, zB, zC, zE]; (try rfl))); (case hy148 => (have kp2q := hSq.at kp2 (fun h => h); have klq := hSq.at kl (fun h => h); go_simp; (try with_reducible rfl))); (try simp only [Act.put, zF, zG, zH]))
              (refine TD.val0 (v := ?v149) (by simp only [zA, zB, zC]; rfl) rfl ?hw149 (fun w1 => ?hy149) ?hn149; (case hw149 => rfl); (case hy149 => (go_simp; (try with_reducible rfl))); (try simp only [Act.put, zF, zG, zH]))
              (refine TD.val0 (v := ?v150) (by simp only [zA, zB, zC]; rfl) rfl ?hw150 (fun w1 => ?hy150) ?hn150; (case hw150 => rfl); (case hy150 => (go_simp; (try with_reducible rfl))); (try simp only [Act.put, zF, zG, zH]))
              (refine TD.val0 (v := ?v151) (by simp only [zA, zB, zC]; rfl) rfl ?hw151 (fun w1 => ?hy151) ?hn151; (case hw151 => rfl); (case hy151 => (go_simp; (try with_reducible rfl))); (try simp only [Act.put, zF, zG, zH]))
              (refine TD.val0 (v := ?v152) (by simp only [zA, zB, zC]; rfl) rfl ?hw152 (fun w1 => ?hy152) ?hn152; (case hw152 => rfl); (case hy152 => (go_simp; (try with_reducible rfl))); (try simp only [Act.put, zF, zG, zH]))
              (refine TD.val0 (v := ?v153) (by simp only [zA, zB, zC]; rfl) rfl ?hw153 (fun w1 => ?hy153) ?hn153; (case hw153 => rfl); (case hy153 => (go_simp; (try with_reducible rfl))); (try simp only [Act.put, zF, zG, zH]))
              (refine TD.val0 (v := ?v154) (by simp only [zA, zB, zC]; rfl) rfl ?hw154 (fun w1 => ?hy154) ?hn154; (case hw154 => rfl); (case hy154 => (go_simp; (try with_reducible rfl))); (try simp only [Act.put, zF, zG, zH]))
              (refine TD.val0 (v := ?v155) (by simp only [zA, zB, zC]; rfl) rfl ?hw155 (fun w1 => ?hy155) ?hn155; (case hw155 => rfl); (case hy155 => (go_simp; (try with_reducible rfl))); (try simp only [Act.put, zF, zG, zH]))
              (refine TD.val0 (v := ?v156) (by simp only [zA, zB, zC]; rfl) rfl ?hw156 (fun w1 => ?hy156) ?hn156; (case hw156 => rfl); (case hy156 => (go_simp; (try with_reducible rfl))); (try simp only [Act.put, zF, zG, zH]))
              (refine TD.val0 (v := ?v157) (by simp only [zA, zB, zC]; rfl) rfl ?hw157 (fun w1 => ?hy157) ?hn157; (case hw157 => rfl); (case hy157 => (go_simp; (try with_reducible rfl))); (try simp only [Act.put, zF, zG, zH]))
              (refine TD.val0 (v := ?v158) (by simp only [zA, zB, zC]; rfl) rfl ?hw158 (fun w1 => ?hy158) ?hn158; (case hw158 => rfl); (case hy158 => (go_simp; (try with_reducible rfl))); (try simp only [Act.put, zF, zG, zH]))
              (refine TD.load (v := ?v159) (p := ?p159) (Mod.refl _ _) (by simp only [zA, zB, zC]; rfl) rfl ?hw159 rfl ?hx159 (fun wq hSq => ?hy159) ?hn159; (case hw159 => rfl); (case hx159 => (simp only [Act.eval, zD, zA, zB, zC, zE]; (try rfl))); (case hy159 => (have kp2q := hSq.at kp2 (fun h => h); have klq := hSq.at kl (fun h => h); go_simp; (try with_reducible rfl))); (try simp only [Act.put, zF, zG, zH]))
              (refine TD.val0 (v := ?v160) (by simp only [zA, zB, zC]; rfl) rfl ?hw160 (fun w1 => ?hy160) ?hn160; (case hw160 => rfl); (case hy160 => (go_simp; (try with_reducible rfl))); (try simp only [Act.put, zF, zG, zH]))
              (refine TD.val0 (v := ?v161) (by simp only [zA, zB, zC]; rfl) rfl ?hw161 (fun w1 => ?hy161) ?hn161; (case hw161 => rfl); (case hy161 => (go_simp; (try with_reducible rfl))); (try simp only [Act.put, zF, zG, zH]))
              (refine TD.val0 (v := ?v162) (by simp only [zA, zB, zC]; rfl) rfl ?hw162 (fun w1 => ?hy162) ?hn162; (case hw162 => rfl); (case hy162 => (go_simp; (try with_reducible rfl))); (try simp only [Act.put, zF, zG, zH]))
              (refine TD.load (v := ?v163) (p := ?p163) (Mod.refl _ _) (by simp only [zA, zB, zC]; rfl) rfl ?hw163 rfl ?hx163 (fun wq hSq => ?hy163) ?hn163; (case hw163 => rfl); (case hx163 => (simp only [Act.eval, zD, zA, zB, zC, zE]; (try rfl))); (case hy163 => (have kp2q := hSq.at kp2 (fun h => h); have klq := hSq.at kl (fun h => h); go_simp; (try with_reducible rfl))); (try simp only [Act.put, zF, zG, zH]))
              (refine TD.val0 (v := ?v164) (by simp only [zA, zB, zC]; rfl) rfl ?hw164 (fun w1 => ?hy164) ?hn164; (case hw164 => rfl); (case hy164 => (go_simp; (try with_reducible rfl))); (try simp only [Act.put, zF, zG, zH]))
              (refine TD.val0 (v := ?v165) (by simp only [zA, zB, zC]; rfl) rfl ?hw165 (fun w1 => ?hy165) ?hn165; (case hw165 => rfl); (case hy165 => (go_simp; (try with_reducible rfl))); (try simp only [Act.put, zF, zG, zH]))
              (refine TD.val0 (v := ?v166) (by simp only [zA, zB, zC]; rfl) rfl ?hw166 (fun w1 => ?hy166) ?hn166; (case hw166 => rfl); (case hy166 => (go_simp; (try with_reducible rfl))); (try simp only [Act.put, zF, zG, zH]))
              refine TD.nil (fun w11 hr => ?_)
              replace kp2 := hr.mod.at kp2 (fun h => h)
              replace kl := hr.mod.at kl (fun h => h)
              have HM11 := Lib.hid hr.mod
              clear hr gd2 gd2b gd2c
              go_wp2_with fail
              go_meet
              case rel => exact ⟨y2, rfl, Lib.hid (by unfold overL; rw [HY1.out, decide_eq_false g1, HY2.out]; rfl), HM11⟩
          case rest =>
          obtain ⟨zw, rfl, HWD, HC11⟩ := hcut
          obtain ⟨w11, rfl⟩ : ∃ w11 : World, w11 = wc := ⟨_, rfl⟩
          have kp2 := HC11.out.at0 kp2
          have kve := HC11.out.at0 kve
          have kl := HC11.out.at0 kl
          have kpm := HC11.out.at0 kpm
          have HM11 := Lib.hid (HM10.out.then0 HC11.out)
          have HS11 := Lib.hid ((HS9.out.mod0 HE10.out).mod0 HC11.out)
          have HQ24 : Hid (n = 24 → zo = true) := Lib.hid fun h => by
            have := HR.out.1.1 h
            rw [HI.out.2.2, HCX.out, HOV.out] at this
            exact this
          have HQ25 : Hid (n = 25 → zt = true) := Lib.hid fun h => by
            have := HR.out.1.2.1 h
            rw [HI.out.2.2, HCX.out, HZT.out] at this
            exact this
          have HQ26 : Hid (n = 26 → zw = true) := Lib.hid fun h => by
            have := HR.out.1.2.2.1 h
            rw [HI.out.2.2, HWD.out] at this
            exact this
          have HQ0 : Hid (n = 0 → ¬ sum + cx < sum → ¬ space + x.o.sp < space → zo = false ∧ zt = false ∧ zw = false ∧ RoI S2 (sum + cx) (space + x.o.sp) (fun k => if k ∈ wrL x.r.ro.l then ofK M k + cx else ofK M k)) := Lib.hid fun h h1 h2 => by
            have := HR.out.1.2.2.2.1 h (by rw [HCX.out]; exact h1) h2
            rw [HI.out.2.2, HCX.out, HOV.out, HZT.out, HWD.out] at this
            exact this
          have HQn : Hid (RSteps S2 (l.drop (i + 1)) (vs.drop (i + 1)) S1 ∧ S2.L = g.lim ∧ (n ≠ 0 → RoI S2 sum space (ofK M))) := Lib.hid ⟨HR.out.2.1, HR.out.2.2.2.1.trans HI.out.2.2, HR.out.1.2.2.2.2⟩
          by_cases e24 : n = 24
          ·
            as_aux_lemma =>
            subst e24
            obtain rfl := HQ24.out rfl
            have hvn2 : ∀ h, (errC vs)[i]'h = .int .i64 24 := fun h => by rw [Array.getElem?_eq_getElem h] at hvn'; exact Option.some.inj hvn'
            clear hvn'
            go_wp2_with fail
            go_roundw
            case rel =>
              exact ⟨i + 1, sum, space, M, S2, by omega, rfl, rfl, by go_num, Lib.hid ⟨_, _, kpm, HMM.out⟩, Lib.hid ⟨HQn.out.2.2 (by omega), HQn.out.1, HQn.out.2.1⟩, HM11⟩
            case measure => simp [intOf]; omega
          by_cases e25 : n = 25
          ·
            as_aux_lemma =>
            subst e25
            obtain rfl := HQ25.out rfl
            have hvn2 : ∀ h, (errC vs)[i]'h = .int .i64 25 := fun h => by rw [Array.getElem?_eq_getElem h] at hvn'; exact Option.some.inj hvn'
            clear hvn' e24
            go_wp2_with fail
            go_roundw
            case rel =>
              exact ⟨i + 1, sum, space, M, S2, by omega, rfl, rfl, by go_num, Lib.hid ⟨_, _, kpm, HMM.out⟩, Lib.hid ⟨HQn.out.2.2 (by omega), HQn.out.1, HQn.out.2.1⟩, HM11⟩
            case measure => simp [intOf]; omega
          by_cases e26 : n = 26
          ·
            as_aux_lemma =>
            subst e26
            obtain rfl := HQ26.out rfl
            have hvn2 : ∀ h, (errC vs)[i]'h = .int .i64 26 := fun h => by rw [Array.getElem?_eq_getElem h] at hvn'; exact Option.some.inj hvn'
            clear hvn' e24 e25
            go_wp2_with fail
            go_roundw
            case rel =>
              exact ⟨i + 1, sum, space, M, S2, by omega, rfl, rfl, by go_num, Lib.hid ⟨_, _, kpm, HMM.out⟩, Lib.hid ⟨HQn.out.2.2 (by omega), HQn.out.1, HQn.out.2.1⟩, HM11⟩
            case measure => simp [intOf]; omega
          by_cases e0 : n = 0
          · subst e0
            have hvn2 : ∀ h, (errC vs)[i]'h = .int .i64 0 := fun h => by rw [Array.getElem?_eq_getElem h] at hvn'; exact Option.some.inj hvn'
            clear hvn' e24 e25 e26
            obtain ⟨z1, hz1⟩ : ∃ z1, sum + cx = z1 := ⟨_, rfl⟩
            have ha1w : IntKind.u64.wrap ((sum.toNat : Int) + (cx.toNat : Int)) = (z1.toNat : Int) := by rw [IntKind.wrap_u64, ← hz1]; exact add_cast sum cx
            obtain ⟨y1, hy1⟩ : ∃ y1, space + x.o.sp = y1 := ⟨_, rfl⟩
            have hb1w : IntKind.u64.wrap ((space.toNat : Int) + (x.o.sp.toNat : Int)) = (y1.toNat : Int) := by rw [IntKind.wrap_u64, ← hy1]; exact add_cast space x.o.sp
            have HZY := Lib.hid (And.intro hz1 hy1)
            rw [hz1, hy1] at HQ0
            clear hz1 hy1
            have HMf := Lib.hid (HM6.out.1.thenB HM11.out (.inl HPM.out.2.2.1))
            by_cases f1 : z1 < sum
            ·
              as_aux_lemma =>
              obtain ⟨hd1, hd1b, hd1c⟩ := lt_cast z1 sum true (decide_eq_true f1)
              go_upto_region 33 with fail
              refine wp_pass0 (C := fun _ _ _ => False) (κ := fun i => [0, 0, 0, 0, 0, 0, 0, 0, 0, 0, 0, 0, 1, 0, 0, 0, 0].getD i 0) [0, 1, 2, 3, 4, 5, 6, 7, 8, 9, 10, 11, 12, 13, 14, 15, 16] (by kernel_rfl) (by kernel_rfl) (fun _ _ d _ _ h => by cases d <;> first | exact h | exact absurd h (hP _ _ _)) ?_
              (refine TD.val0 (v := ?v167) (by simp only [zA, zB, zC]; rfl) rfl ?hw167 (fun w1 => ?hy167) ?hn167; (case hw167 => rfl); (case hy167 => (go_simp; (try with_reducible rfl))); (try simp only [Act.put, zF, zG, zH]))
              (refine TD.val0 (v := ?v168) (by simp only [zA, zB, zC]; rfl) rfl ?hw168 (fun w1 => ?hy168) ?hn168; (case hw168 => rfl); (case hy168 => (go_simp; (try with_reducible rfl))); (try simp only [Act.put, zF, zG, zH]))
              (refine TD.val0 (v := ?v169) (by simp only [zA, zB, zC]; rfl) rfl ?hw169 (fun w1 => ?hy169) ?hn169; (case hw169 => rfl); (case hy169 => (go_simp; (try with_reducible rfl))); (try simp only [Act.put, zF, zG, zH]))
              (refine TD.val0 (v := ?v170) (by simp only [zA, zB, zC]; rfl) rfl ?hw170 (fun w1 => ?hy170) ?hn170; (case hw170 => rfl); (case hy170 => (go_simp; (try with_reducible rfl))); (try simp only [Act.put, zF, zG, zH]))
              (refine TD.val0 (v := ?v171) (by simp only [zA, zB, zC]; rfl) rfl ?hw171 (fun w1 => ?hy171) ?hn171; (case hw171 => rfl); (case hy171 => (go_simp; (try with_reducible rfl))); (try simp only [Act.put, zF, zG, zH]))
              (refine TD.val0 (v := ?v172) (by simp only [zA, zB, zC]; rfl) rfl ?hw172 (fun w1 => ?hy172) ?hn172; (case hw172 => rfl); (case hy172 => (go_simp; (try with_reducible rfl))); (try simp only [Act.put, zF, zG, zH]))
              (refine TD.pass (by simp only [zA, zB, zC]; rfl) rfl ?hw173 ?hn173; (case hw173 => rfl); (try simp only [Act.put, zF, zG, zH]))
              (refine TD.pass (by simp only [zA, zB, zC]; rfl) rfl ?hw174 ?hn174; (case hw174 => rfl); (try simp only [Act.put, zF, zG, zH]))
              (refine TD.pass (by simp only [zA, zB, zC]; rfl) rfl ?hw175 ?hn175; (case hw175 => rfl); (try simp only [Act.put, zF, zG, zH]))
              (refine TD.pass (by simp only [zA, zB, zC]; rfl) rfl ?hw176 ?hn176; (case hw176 => rfl); (try simp only [Act.put, zF, zG, zH]))
              (refine TD.pass (by simp only [zA, zB, zC]; rfl) rfl ?hw177 ?hn177; (case hw177 => rfl); (try simp only [Act.put, zF, zG, zH]))
              (refine TD.pass (by simp only [zA, zB, zC]; rfl) rfl ?hw178 ?hn178; (case hw178 => rfl); (try simp only [Act.put, zF, zG, zH]))
              (refine TD.pass1 (by simp only [zA, zB, zC]; rfl) rfl ?hw179 ?hn179; (case hw179 => rfl); (try simp only [Act.put, zF, zG, zH]))
              (refine TD.pass (by simp only [zA, zB, zC]; rfl) rfl ?hw180 ?hn180; (case hw180 => rfl); (try simp only [Act.put, zF, zG, zH]))
              (refine TD.pass (by simp only [zA, zB, zC]; rfl) rfl ?hw181 ?hn181; (case hw181 => rfl); (try simp only [Act.put, zF, zG, zH]))
              (refine TD.pass (by simp only [zA, zB, zC]; rfl) rfl ?hw182 ?hn182; (case hw182 => rfl); (try simp only [Act.put, zF, zG, zH]))
              (refine TD.val0 (v := ?v183) (by simp only [zA, zB, zC]; rfl) rfl ?hw183 (fun w1 => ?hy183) ?hn183; (case hw183 => rfl); (case hy183 => (go_simp; (try with_reducible rfl))); (try simp only [Act.put, zF, zG, zH]))
              refine TD.nil (fun w12 hr => ?_)
              have mmf := HMf.out.then0 hr.mod
              clear hr
              go_wp2_with fail
              go_at_call 6
              refine (lives_c _).mono ?_
              rintro e wl ⟨rfl, ml⟩
              go_wp2_with fail
              go_ret
              exact ⟨rfl, mmf.trans ml⟩
            obtain ⟨hd1, hd1b, hd1c⟩ := lt_cast z1 sum false (decide_eq_false f1)
            by_cases f2 : y1 < space
            ·
              as_aux_lemma =>
              obtain ⟨ge1, ge1b, ge1c⟩ := lt_cast y1 space true (decide_eq_true f2)
              go_upto_region 33 with fail
              have Lkl := lt_size kl
              refine wp_pass0 (C := fun _ _ _ => False) (κ := fun i => [0, 0, 0, 0, 0, 0, 0, 0, 0, 0, 0, 0, 1, 0, 0, 0, 0].getD i 0) [0, 1, 2, 3, 4, 5, 6, 7, 8, 9, 10, 11, 12, 13, 14, 15, 16] (by kernel_rfl) (by kernel_rfl) (fun _ _ d _ _ h => by cases d <;> first | exact h | exact absurd h (hP _ _ _)) ?_
              (refine TD.val0 (v := ?v184) (by simp only [zA, zB, zC]; rfl) rfl ?hw184 (fun w1 => ?hy184) ?hn184; (case hw184 => rfl); (case hy184 => (go_simp; (try with_reducible rfl))); (try simp only [Act.put, zF, zG, zH]))
              (refine TD.val0 (v := ?v185) (by simp only [zA, zB, zC]; rfl) rfl ?hw185 (fun w1 => ?hy185) ?hn185; (case hw185 => rfl); (case hy185 => (go_simp; (try with_reducible rfl))); (try simp only [Act.put, zF, zG, zH]))
              (refine TD.val0 (v := ?v186) (by simp only [zA, zB, zC]; rfl) rfl ?hw186 (fun w1 => ?hy186) ?hn186; (case hw186 => rfl); (case hy186 => (go_simp; (try with_reducible rfl))); (try simp only [Act.put, zF, zG, zH]))
              (refine TD.val0 (v := ?v187) (by simp only [zA, zB, zC]; rfl) rfl ?hw187 (fun w1 => ?hy187) ?hn187; (case hw187 => rfl); (case hy187 => (go_simp; (try with_reducible rfl))); (try simp only [Act.put, zF, zG, zH]))
              (refine TD.val0 (v := ?v188) (by simp only [zA, zB, zC]; rfl) rfl ?hw188 (fun w1 => ?hy188) ?hn188; (case hw188 => rfl); (case hy188 => (go_simp; (try with_reducible rfl))); (try simp only [Act.put, zF, zG, zH]))
              (refine TD.val0 (v := ?v189) (by simp only [zA, zB, zC]; rfl) rfl ?hw189 (fun w1 => ?hy189) ?hn189; (case hw189 => rfl); (case hy189 => (go_simp; (try with_reducible rfl))); (try simp only [Act.put, zF, zG, zH]))
              (refine TD.val0 (v := ?v190) (by simp only [zA, zB, zC]; rfl) rfl ?hw190 (fun w1 => ?hy190) ?hn190; (case hw190 => rfl); (case hy190 => (go_simp; (try with_reducible rfl))); (try simp only [Act.put, zF, zG, zH]))
              (refine TD.val0 (v := ?v191) (by simp only [zA, zB, zC]; rfl) rfl ?hw191 (fun w1 => ?hy191) ?hn191; (case hw191 => rfl); (case hy191 => (go_simp; (try with_reducible rfl))); (try simp only [Act.put, zF, zG, zH]))
              (refine TD.val0 (v := ?v192) (by simp only [zA, zB, zC]; rfl) rfl ?hw192 (fun w1 => ?hy192) ?hn192; (case hw192 => rfl); (case hy192 => (go_simp; (try with_reducible rfl))); (try simp only [Act.put, zF, zG, zH]))
              (refine TD.val0 (v := ?v193) (by simp only [zA, zB, zC]; rfl) rfl ?hw193 (fun w1 => ?hy193) ?hn193; (case hw193 => rfl); (case hy193 => (go_simp; (try with_reducible rfl))); (try simp only [Act.put, zF, zG, zH]))
              (refine TD.val0 (v := ?v194) (by simp only [zA, zB, zC]; rfl) rfl ?hw194 (fun w1 => ?hy194) ?hn194; (case hw194 => rfl); (case hy194 => (go_simp; (try with_reducible rfl))); (try simp only [Act.put, zF, zG, zH]))
              (refine TD.val0 (v := ?v195) (by simp only [zA, zB, zC]; rfl) rfl ?hw195 (fun w1 => ?hy195) ?hn195; (case hw195 => rfl); (case hy195 => (go_simp; (try with_reducible rfl))); (try simp only [Act.put, zF, zG, zH]))
              (refine TD.load (v := ?v196) (p := ?p196) (Mod.refl _ _) (by simp only [zA, zB, zC]; rfl) rfl ?hw196 rfl ?hx196 (fun wq hSq => ?hy196) ?hn196; (case hw196 => rfl); (case hx196 => (simp only [Act.eval, zD, zA, zB, zC, zE]; (try rfl))); (case hy196 => (have klq := hSq.at kl (fun h => h); go_simp; (try with_reducible rfl))); (try simp only [Act.put, zF, zG, zH]))
              (refine TD.val0 (v := ?v197) (by simp only [zA, zB, zC]; rfl) rfl ?hw197 (fun w1 => ?hy197) ?hn197; (case hw197 => rfl); (case hy197 => (go_simp; (try with_reducible rfl))); (try simp only [Act.put, zF, zG, zH]))
              (refine TD.val0 (v := ?v198) (by simp only [zA, zB, zC]; rfl) rfl ?hw198 (fun w1 => ?hy198) ?hn198; (case hw198 => rfl); (case hy198 => (go_simp; (try with_reducible rfl))); (try simp only [Act.put, zF, zG, zH]))
              (refine TD.val0 (v := ?v199) (by simp only [zA, zB, zC]; rfl) rfl ?hw199 (fun w1 => ?hy199) ?hn199; (case hw199 => rfl); (case hy199 => (go_simp; (try with_reducible rfl))); (try simp only [Act.put, zF, zG, zH]))
              (refine TD.val0 (v := ?v200) (by simp only [zA, zB, zC]; rfl) rfl ?hw200 (fun w1 => ?hy200) ?hn200; (case hw200 => rfl); (case hy200 => (go_simp; (try with_reducible rfl))); (try simp only [Act.put, zF, zG, zH]))
              refine TD.nil (fun w12 hr => ?_)
              replace kl := hr.mod.at kl (fun h => h)
              have mmf := HMf.out.then0 hr.mod
              clear hr
              go_wp2_with fail
              go_at_call 6
              refine (lives_c _).mono ?_
              rintro e wl ⟨rfl, ml⟩
              go_wp2_with fail
              go_ret
              exact ⟨rfl, mmf.trans ml⟩
            obtain ⟨ge1, ge1b, ge1c⟩ := lt_cast y1 space false (decide_eq_false f2)
            obtain ⟨rfl, rfl, rfl, hroi⟩ := HQ0.out rfl f1 f2
            have HROI := Lib.hid hroi
            clear hroi HQ0
            go_upto_region 33 with fail
            have Lkp2 := lt_size kp2
            have Lkve := lt_size kve
            have Lkl := lt_size kl
            have Lkpm := lt_size kpm
            refine wp_pass0 (C := fun _ _ _ => False) (κ := fun i => [0, 0, 0, 0, 0, 0, 0, 0, 0, 0, 0, 0, 1, 0, 0, 0, 0].getD i 0) [0, 1, 2, 3, 4, 5, 6, 7, 8, 9, 10, 11, 12, 13, 14, 15, 16] (by kernel_rfl) (by kernel_rfl) (fun _ _ d _ _ h => by cases d <;> first | exact h | exact absurd h (hP _ _ _)) ?_
            (refine TD.val0 (v := ?v201) (by simp only [zA, zB, zC]; rfl) rfl ?hw201 (fun w1 => ?hy201) ?hn201; (case hw201 => rfl); (case hy201 => (go_simp; (try with_reducible rfl))); (try simp only [Act.put, zF, zG, zH]))
            (refine TD.val0 (v := ?v202) (by simp only [zA, zB, zC]; rfl) rfl ?hw202 (fun w1 => ?hy202) ?hn202; (case hw202 => rfl); (case hy202 => (go_simp; (try with_reducible rfl))); (try simp only [Act.put, zF, zG, zH]))
            (refine TD.val0 (v := ?v203) (by simp only [zA, zB, zC]; rfl) rfl ?hw203 (fun w1 => ?hy203) ?hn203; (case hw203 => rfl); (case hy203 => (go_simp; (try with_reducible rfl))); (try simp only [Act.put, zF, zG, zH]))
            (refine TD.val0 (v := ?v204) (by simp only [zA, zB, zC]; rfl) rfl ?hw204 (fun w1 => ?hy204) ?hn204; (case hw204 => rfl); (case hy204 => (go_simp; (try with_reducible rfl))); (try simp only [Act.put, zF, zG, zH]))
            (refine TD.val0 (v := ?v205) (by simp only [zA, zB, zC]; rfl) rfl ?hw205 (fun w1 => ?hy205) ?hn205; (case hw205 => rfl); (case hy205 => (go_simp; (try with_reducible rfl))); (try simp only [Act.put, zF, zG, zH]))
            (refine TD.val0 (v := ?v206) (by simp only [zA, zB, zC]; rfl) rfl ?hw206 (fun w1 => ?hy206) ?hn206; (case hw206 => rfl); (case hy206 => (go_simp; (try with_reducible rfl))); (try simp only [Act.put, zF, zG, zH]))
            (refine TD.val0 (v := ?v207) (by simp only [zA, zB, zC]; rfl) rfl ?hw207 (fun w1 => ?hy207) ?hn207; (case hw207 => rfl); (case hy207 => (go_simp; (try with_reducible rfl))); (try simp only [Act.put, zF, zG, zH]))
            (refine TD.val0 (v := ?v208) (by simp only [zA, zB, zC]; rfl) rfl ?hw208 (fun w1 => ?hy208) ?hn208; (case hw208 => rfl); (case hy208 => (go_simp; (try with_reducible rfl))); (try simp only [Act.put, zF, zG, zH]))
            (refine TD.val0 (v := ?v209) (by simp only [zA, zB, zC]; rfl) rfl ?hw209 (fun w1 => ?hy209) ?hn209; (case hw209 => rfl); (case hy209 => (go_simp; (try with_reducible rfl))); (try simp only [Act.put, zF, zG, zH]))
            (refine TD.val0 (v := ?v210) (by simp only [zA, zB, zC]; rfl) rfl ?hw210 (fun w1 => ?hy210) ?hn210; (case hw210 => rfl); (case hy210 => (go_simp; (try with_reducible rfl))); (try simp only [Act.put, zF, zG, zH]))
            (refine TD.val0 (v := ?v211) (by simp only [zA, zB, zC]; rfl) rfl ?hw211 (fun w1 => ?hy211) ?hn211; (case hw211 => rfl); (case hy211 => (go_simp; (try with_reducible rfl))); (try simp only [Act.put, zF, zG, zH]))
            (refine TD.val0 (v := ?v212) (by simp only [zA, zB, zC]; rfl) rfl ?hw212 (fun w1 => ?hy212) ?hn212; (case hw212 => rfl); (case hy212 => (go_simp; (try with_reducible rfl))); (try simp only [Act.put, zF, zG, zH]))
            (refine TD.load (v := ?v213) (p := ?p213) (Mod.refl _ _) (by simp only [zA, zB, zC]; rfl) rfl ?hw213 rfl ?hx213 (fun wq hSq => ?hy213) ?hn213; (case hw213 => rfl); (case hx213 => (simp only [Act.eval, zD, zA, zB, zC, zE]; (try rfl))); (case hy213 => (have kp2q := hSq.at kp2 (fun h => h); have kveq := hSq.at kve (fun h => h); have klq := hSq.at kl (fun h => h); have kpmq := hSq.at kpm (fun h => h); go_simp; (try with_reducible rfl))); (try simp only [Act.put, zF, zG, zH]))
            (refine TD.val0 (v := ?v214) (by simp only [zA, zB, zC]; rfl) rfl ?hw214 (fun w1 => ?hy214) ?hn214; (case hw214 => rfl); (case hy214 => (go_simp; (try with_reducible rfl))); (try simp only [Act.put, zF, zG, zH]))
            (refine TD.val0 (v := ?v215) (by simp only [zA, zB, zC]; rfl) rfl ?hw215 (fun w1 => ?hy215) ?hn215; (case hw215 => rfl); (case hy215 => (go_simp; (try with_reducible rfl))); (try simp only [Act.put, zF, zG, zH]))
            (refine TD.val0 (v := ?v216) (by simp only [zA, zB, zC]; rfl) rfl ?hw216 (fun w1 => ?hy216) ?hn216; (case hw216 => rfl); (case hy216 => (go_simp; (try with_reducible rfl))); (try simp only [Act.put, zF, zG, zH]))
            (refine TD.val0 (v := ?v217) (by simp only [zA, zB, zC]; rfl) rfl ?hw217 (fun w1 => ?hy217) ?hn217; (case hw217 => rfl); (case hy217 => (go_simp; (try with_reducible rfl))); (try simp only [Act.put, zF, zG, zH]))
            refine TD.nil (fun wb hr => ?_)
            replace kp2 := hr.mod.at kp2 (fun h => h)
            replace kve := hr.mod.at kve (fun h => h)
            replace kl := hr.mod.at kl (fun h => h)
            replace kpm := hr.mod.at kpm (fun h => h)
            have HMb := Lib.hid (HM11.out.then0 hr.mod)
            have HSb := Lib.hid (HS11.out.mod0 hr.mod)
            have hmm := @run_makeMap Try.prog
            clear hr hd1 hd1b hd1c ge1 ge1b ge1c
            go_upto_region 39 with fail
            clear ha1w hb1w
            obtain ⟨w13, pn, hpn, kpn, m13, e13⟩ : ∃ w13 pn, wb.heap.size = pn ∧ w13.heap[pn]? = some (.map #[] 0) ∧ Mod (fun _ => False) wb w13 ∧ wb.alloc (.map #[] 0) = w13 := ⟨_, _, rfl, heap_alloc_new _ _, (Mod.refl _ _).alloc _, rfl⟩
            go_wp2_with fail
            (try rw [e13]); (try rw [hpn])
            have hpnb : wb.heap.size ≤ pn := by omega
            have hpmn : pn ≠ pm := fun h => by
              have := lt_size kpm
              omega
            have KB := Lib.hid (And.intro kp2 (And.intro kve (And.intro kl kpm)))
            have M13 := Lib.hid m13
            have KN0 : Hid (∃ es c, w13.heap[pn]? = some (.map es c) ∧ MapIs kv u64v es c (putAll (fun k => ofK M k + cx) ((wrL x.r.ro.l).take 0) [])) := Lib.hid ⟨_, _, kpn, by rw [List.take_zero]; exact MapIs.empty kv u64v⟩
            clear e13 hpn m13 kpn hmm kp2 kve kl kpm
            go_loopw [20] (fun s20 wx => ∃ j : Nat, j ≤ wn ∧ s20 = .int .i64 (j : Int) ∧ Hid (∃ es c, wx.heap[pn]? = some (.map es c) ∧ MapIs kv u64v es c (putAll (fun k => ofK M k + cx) ((wrL x.r.ro.l).take j) [])) ∧ Hid (Mod (fun q => q = pn) w13 wx)) (fun s20 _ => wn - (intOf s20).toNat)
            case atStart => exact ⟨0, by omega, rfl, KN0, Lib.hid (Mod.refl _ _)⟩
            case round =>
              obtain ⟨j, hj, rfl, HPN, HN⟩ := hrel
              have HNb := Lib.hid (M13.out.thenB HN.out (.inl hpnb))
              have kpm := HNb.out.at0 KB.out.2.2.2
              obtain ⟨en, cn, kpn, hMN⟩ := HPN.out
              have HMN := Lib.hid hMN
              clear hMN
              by_cases hjl : j < wn
              · have hjd := decide_eq_true hjl
                obtain ⟨ky, hky⟩ : ∃ ky, (wrL x.r.ro.l)[j]? = some ky := ⟨_, List.getElem?_eq_getElem (by rw [HWN.out]; exact hjl)⟩
                obtain ⟨g8, o8, C8, U8, fr8, rfl, k8, he8, hle8⟩ := key_at (HSb.out.mod0 HNb.out) hky
                have HKY : Hid ((wrL x.r.ro.l).take (j + 1) = (wrL x.r.ro.l).take j ++ [ky]) := Lib.hid (by rw [List.take_add_one, hky]; rfl)
                clear hky
                obtain ⟨y, hy⟩ : ∃ y, ofK M ky = y := ⟨_, rfl⟩
                have hlk : ∀ wq, Mod (fun _ => False) wr wq → (Instr.lookup 43 (.map (some pm)) (.agg (kc ky)) false).run Try.prog wq = .ok (u64v y) wq := fun wq hq => by
                  have := HMM.out.lookupD keyT Try.underlying43 zero_u64 wq (hq.at0 kpm) ky
                  rw [show ((lkp ky M).getD 0) = y from hy] at this
                  exact this
                obtain ⟨z3, hz3⟩ : ∃ z3, y + cx = z3 := ⟨_, rfl⟩
                have ha3w : IntKind.u64.wrap ((y.toNat : Int) + (cx.toNat : Int)) = (z3.toNat : Int) := by rw [IntKind.wrap_u64, ← hz3]; exact add_cast y cx
                have HZ3 : Hid (ofK M ky + cx = z3) := Lib.hid (by rw [hy, hz3])
                clear hz3 hy
                have h8n : g8 ≠ pn := ne_of_obj k8 kpn (by simp)
                have hmn2 : pm ≠ pn := fun h => hpmn h.symm
                go_upto_region 43 with fail
                have Lk8 := lt_size k8
                have Lkpm := lt_size kpm
                have Lkpn := lt_size kpn
                refine wp_pass (C := fun _ _ _ => False) (κ := fun i => [0, 0, 0, 0, 1, 0, 0, 0, 0, 1, 1, 0, 0, 5].getD i 0) [0, 1, 2, 3, 4, 5, 6, 7, 8, 9, 10, 11, 12, 13] (by kernel_rfl) (by kernel_rfl) (fun _ _ d _ _ h => by cases d <;> first | exact h | exact absurd h (hP _ _ _)) ?_
                (refine TD.val0 (v := ?v218) (by simp only [zA, zB, zC]; rfl) rfl ?hw218 (fun w1 => ?hy218) ?hn218; (case hw218 => rfl); (case hy218 => (go_simp; (try with_reducible rfl))); (try simp only [Act.put, zF, zG, zH]))
                (refine TD.val0 (v := ?v219) (by simp only [zA, zB, zC]; rfl) rfl ?hw219 (fun w1 => ?hy219) ?hn219; (case hw219 => rfl); (case hy219 => (go_simp; (try with_reducible rfl))); (try simp only [Act.put, zF, zG, zH]))
                (refine TD.val0 (v := ?v220) (by simp only [zA, zB, zC]; rfl) rfl ?hw220 (fun w1 => ?hy220) ?hn220; (case hw220 => rfl); (case hy220 => (go_simp; (try with_reducible rfl))); (try simp only [Act.put, zF, zG, zH]))
                (refine TD.val0 (v := ?v221) (by simp only [zA, zB, zC]; rfl) rfl ?hw221 (fun w1 => ?hy221) ?hn221; (case hw221 => rfl); (case hy221 => (go_simp; (try with_reducible rfl))); (try simp only [Act.put, zF, zG, zH]))
                (refine TD.load (v := ?v222) (p := ?p222) (Mod.refl _ _) (by simp only [zA, zB, zC]; rfl) rfl ?hw222 rfl ?hx222 (fun wq hSq => ?hy222) ?hn222; (case hw222 => rfl); (case hx222 => (simp only [Act.eval, zD, zA, zB, zC, zE]; (try rfl))); (case hy222 => (have k8q := hSq.at k8 (fun h => h); have kpmq := hSq.at kpm (fun h => h); have kpnq := hSq.at kpn (fun h => h); go_simp; (try with_reducible rfl))); (try simp only [Act.put, zF, zG, zH]))
                (refine TD.val0 (v := ?v223) (by simp only [zA, zB, zC]; rfl) rfl ?hw223 (fun w1 => ?hy223) ?hn223; (case hw223 => rfl); (case hy223 => (go_simp; (try with_reducible rfl))); (try simp only [Act.put, zF, zG, zH]))
                (refine TD.val0 (v := ?v224) (by simp only [zA, zB, zC]; rfl) rfl ?hw224 (fun w1 => ?hy224) ?hn224; (case hw224 => rfl); (case hy224 => (go_simp; (try with_reducible rfl))); (try simp only [Act.put, zF, zG, zH]))
                (refine TD.val0 (v := ?v225) (by simp only [zA, zB, zC]; rfl) rfl ?hw225 (fun w1 => ?hy225) ?hn225; (case hw225 => rfl); (case hy225 => (go_simp; (try with_reducible rfl))); (try simp only [Act.put, zF, zG, zH]))
                (refine TD.val0 (v := ?v226) (by simp only [zA, zB, zC]; rfl) rfl ?hw226 (fun w1 => ?hy226) ?hn226; (case hw226 => rfl); (case hy226 => (go_simp; (try with_reducible rfl))); (try simp only [Act.put, zF, zG, zH]))
                (refine TD.load (v := ?v227) (p := ?p227) (Mod.refl _ _) (by simp only [zA, zB, zC]; rfl) rfl ?hw227 rfl ?hx227 (fun wq hSq => ?hy227) ?hn227; (case hw227 => rfl); (case hx227 => (simp only [Act.eval, zD, zA, zB, zC, zE]; (try rfl))); (case hy227 => (have k8q := hSq.at k8 (fun h => h); have kpmq := hSq.at kpm (fun h => h); have kpnq := hSq.at kpn (fun h => h); go_simp; (try with_reducible rfl))); (try simp only [Act.put, zF, zG, zH]))
                (refine TD.lookup (v := ?v228) (p := ?p228) (q := ?q228) (Mod.refl _ _) (by simp only [zA, zB, zC]; rfl) rfl ?hw228 rfl ?hx228 ?hz228 (fun wq hSq => ?hy228) ?hn228; (case hw228 => rfl); (case hx228 => (simp only [Act.eval, zD, zA, zB, zC, zE]; (try rfl))); (case hz228 => (simp only [Act.eval, zD, zA, zB, zC, zE]; (try rfl))); (case hy228 => (rw [hlk wq hSq]; (try with_reducible rfl))); (try simp only [Act.put, zF, zG, zH]))
                (refine TD.val0 (v := ?v229) (by simp only [zA, zB, zC]; rfl) rfl ?hw229 (fun w1 => ?hy229) ?hn229; (case hw229 => rfl); (case hy229 => (go_simp; (try with_reducible rfl))); (try simp only [Act.put, zF, zG, zH]))
                (refine TD.val0 (v := ?v230) (by simp only [zA, zB, zC]; rfl) rfl ?hw230 (fun w1 => ?hy230) ?hn230; (case hw230 => rfl); (case hy230 => (go_simp; (try with_reducible rfl))); (try simp only [Act.put, zF, zG, zH]))
                refine TD.eff (by simp only [zA, zB, zC]; rfl) rfl (fun wE hr => ?_)
                replace k8 := hr.mod.at0 k8
                replace kpm := hr.mod.at0 kpm
                replace kpn := hr.mod.at0 kpn
                have mE := hr.mod
                obtain ⟨es231, cl231, hrun231, Mkpn⟩ := HMN.out.update keyT Try.underlying43 wE kpn ky z3
                (refine eff_update (X := ?X231) (Y := ?Y231) (Z := ?Z231) (w' := ?w231) (by simp only [zA, zB, zC]; rfl) ?hw231 rfl ?hx231 ?hz231 ?hv231 ?hy231 ?hn231; (case hw231 => rfl); (case hx231 => (simp only [Act.eval, zD, zA, zB, zC, zE]; (try rfl))); (case hz231 => (simp only [Act.eval, zD, zA, zB, zC, zE]; (try rfl))); (case hv231 => (simp only [Act.eval, zD, zA, zB, zC, zE]; (try rfl))); (case hy231 => exact hrun231))
                (first | refine TE.nil_set kpn (fun w14 kpn mS => ?_) | refine TE.nil_setCell kpn (fun w14 kpn mS => ?_))
                (try simp only [Array.setIfInBounds, zF, zG, zH] at kpn)
                replace k8 := mS.at_ne k8 (by omega)
                replace kpm := mS.at_ne kpm (by omega)
                have HUP : Hid (MapIs kv u64v _ _ (putAll (fun k => ofK M k + cx) ((wrL x.r.ro.l).take (j + 1)) [])) := Lib.hid (by rw [HKY.out, putAll_snoc, HZ3.out]; exact Mkpn)
                have HN2 := Lib.hid ((HN.out.then0 mE).trans mS)
                clear hr mE mS Mkpn hlk
                go_wp2_with fail
                go_roundw
                case rel => exact ⟨j + 1, by omega, by go_num, Lib.hid ⟨_, _, kpn, HUP.out⟩, HN2⟩
                case measure => simp [intOf]; omega
              · obtain rfl : wn = j := by omega
                rw [List.take_of_length_le (by rw [HWN.out]; omega)] at HMN
                obtain ⟨M2, hM2⟩ : ∃ M2, putAll (fun k => ofK M k + cx) (wrL x.r.ro.l) [] = M2 := ⟨_, rfl⟩
                rw [hM2] at HMN
                have HM2 := Lib.hid hM2
                have KN := Lib.hid (And.intro kpn kpm)
                obtain ⟨w15, rfl⟩ : ∃ w15 : World, w15 = wr := ⟨_, rfl⟩
                have KM0 : Hid (∃ es c, w15.heap[pm]? = some (.map es c) ∧ MapIs kv u64v es c (putAll (ofK M2) ((wrL x.r.ro.l).take 0) M)) := Lib.hid ⟨_, _, kpm, by rw [List.take_zero]; exact HMM.out⟩
                clear hM2 kpn kpm HPN HN
                go_wp2_with fail
                go_loopw [21] (fun s21 wx => ∃ j : Nat, j ≤ wn ∧ s21 = .int .i64 (j : Int) ∧ Hid (∃ es c, wx.heap[pm]? = some (.map es c) ∧ MapIs kv u64v es c (putAll (ofK M2) ((wrL x.r.ro.l).take j) M)) ∧ Hid (Mod (fun q => q = pm) w15 wx)) (fun s21 _ => wn - (intOf s21).toNat)
                case atStart => exact ⟨0, by omega, rfl, KM0, Lib.hid (Mod.refl _ _)⟩
                case round =>
                  obtain ⟨j, hj, rfl, HPN, HN⟩ := hrel
                  have kpn := HN.out.at_ne KN.out.1 hpmn
                  obtain ⟨em, cm2, kpm, hMN⟩ := HPN.out
                  have HMN2 := Lib.hid hMN
                  clear hMN
                  by_cases hjl : j < wn
                  · have hjd := decide_eq_true hjl
                    obtain ⟨ky, hky⟩ : ∃ ky, (wrL x.r.ro.l)[j]? = some ky := ⟨_, List.getElem?_eq_getElem (by rw [HWN.out]; exact hjl)⟩
                    obtain ⟨g8, o8, C8, U8, fr8, rfl, k8, he8, hle8⟩ := key_at ((HSb.out.mod0 HNb.out).modM HN.out (fun b hb C U fr h => by rw [hb, KN.out.2] at h; cases h)) hky
                    have HKY : Hid ((wrL x.r.ro.l).take (j + 1) = (wrL x.r.ro.l).take j ++ [ky]) := Lib.hid (by rw [List.take_add_one, hky]; rfl)
                    clear hky
                    obtain ⟨y, hy⟩ : ∃ y, ofK M2 ky = y := ⟨_, rfl⟩
                    have hlk : ∀ wq, Mod (fun _ => False) wr wq → (Instr.lookup 43 (.map (some pn)) (.agg (kc ky)) false).run Try.prog wq = .ok (u64v y) wq := fun wq hq => by
                      have := HMN.out.lookupD keyT Try.underlying43 zero_u64 wq (hq.at0 kpn) ky
                      rw [show ((lkp ky M2).getD 0) = y from hy] at this
                      exact this
                    have HY := Lib.hid hy
                    clear hy
                    have h8m : g8 ≠ pm := ne_of_obj k8 kpm (by simp)
                    go_upto_region 47 with fail
                    have Lk8 := lt_size k8
                    have Lkpm := lt_size kpm
                    have Lkpn := lt_size kpn
                    refine wp_pass (C := fun _ _ _ => False) (κ := fun i => [0, 0, 0, 0, 1, 0, 0, 0, 0, 1, 1, 5].getD i 0) [0, 1, 2, 3, 4, 5, 6, 7, 8, 9, 10, 11] (by kernel_rfl) (by kernel_rfl) (fun _ _ d _ _ h => by cases d <;> first | exact h | exact absurd h (hP _ _ _)) ?_
                    (refine TD.val0 (v := ?v232) (by simp only [zA, zB, zC]; rfl) rfl ?hw232 (fun w1 => ?hy232) ?hn232; (case hw232 => rfl); (case hy232 => (go_simp; (try with_reducible rfl))); (try simp only [Act.put, zF, zG, zH]))
                    (refine TD.val0 (v := ?v233) (by simp only [zA, zB, zC]; rfl) rfl ?hw233 (fun w1 => ?hy233) ?hn233; (case hw233 => rfl); (case hy233 => (go_simp; (try with_reducible rfl))); (try simp only [Act.put, zF, zG, zH]))
                    (refine TD.val0 (v := ?v234) (by simp only [zA, zB, zC]; rfl) rfl ?hw234 (fun w1 => ?hy234) ?hn234; (case hw234 => rfl); (case hy234 => (go_simp; (try with_reducible rfl))); (try simp only [Act.put, zF, zG, zH]))
                    (refine TD.val0 (v := ?v235) (by simp only [zA, zB, zC]; rfl) rfl ?hw235 (fun w1 => ?hy235) ?hn235; (case hw235 => rfl); (case hy235 => (go_simp; (try with_reducible rfl))); (try simp only [Act.put, zF, zG, zH]))
                    (refine TD.load (v := ?v236) (p := ?p236) (Mod.refl _ _) (by simp only [zA, zB, zC]; rfl) rfl ?hw236 rfl ?hx236 (fun wq hSq => ?hy236) ?hn236; (case hw236 => rfl); (case hx236 => (simp only [Act.eval, zD, zA, zB, zC, zE]; (try rfl))); (case hy236 => (have k8q := hSq.at k8 (fun h => h); have kpmq := hSq.at kpm (fun h => h); have kpnq := hSq.at kpn (fun h => h); go_simp; (try with_reducible rfl))); (try simp only [Act.put, zF, zG, zH]))
                    (refine TD.val0 (v := ?v237) (by simp only [zA, zB, zC]; rfl) rfl ?hw237 (fun w1 => ?hy237) ?hn237; (case hw237 => rfl); (case hy237 => (go_simp; (try with_reducible rfl))); (try simp only [Act.put, zF, zG, zH]))
                    (refine TD.val0 (v := ?v238) (by simp only [zA, zB, zC]; rfl) rfl ?hw238 (fun w1 => ?hy238) ?hn238; (case hw238 => rfl); (case hy238 => (go_simp; (try with_reducible rfl))); (try simp only [Act.put, zF, zG, zH]))
                    (refine TD.val0 (v := ?v239) (by simp only [zA, zB, zC]; rfl) rfl ?hw239 (fun w1 => ?hy239) ?hn239; (case hw239 => rfl); (case hy239 => (go_simp; (try with_reducible rfl))); (try simp only [Act.put, zF, zG, zH]))
                    (refine TD.val0 (v := ?v240) (by simp only [zA, zB, zC]; rfl) rfl ?hw240 (fun w1 => ?hy240) ?hn240; (case hw240 => rfl); (case hy240 => (go_simp; (try with_reducible rfl))); (try simp only [Act.put, zF, zG, zH]))
                    (refine TD.load (v := ?v241) (p := ?p241) (Mod.refl _ _) (by simp only [zA, zB, zC]; rfl) rfl ?hw241 rfl ?hx241 (fun wq hSq => ?hy241) ?hn241; (case hw241 => rfl); (case hx241 => (simp only [Act.eval, zD, zA, zB, zC, zE]; (try rfl))); (case hy241 => (have k8q := hSq.at k8 (fun h => h); have kpmq := hSq.at kpm (fun h => h); have kpnq := hSq.at kpn (fun h => h); go_simp; (try with_reducible rfl))); (try simp only [Act.put, zF, zG, zH]))
                    (refine TD.lookup (v := ?v242) (p := ?p242) (q := ?q242) (Mod.refl _ _) (by simp only [zA, zB, zC]; rfl) rfl ?hw242 rfl ?hx242 ?hz242 (fun wq hSq => ?hy242) ?hn242; (case hw242 => rfl); (case hx242 => (simp only [Act.eval, zD, zA, zB, zC, zE]; (try rfl))); (case hz242 => (simp only [Act.eval, zD, zA, zB, zC, zE]; (try rfl))); (case hy242 => (rw [hlk wq hSq]; (try with_reducible rfl))); (try simp only [Act.put, zF, zG, zH]))
                    refine TD.eff (by simp only [zA, zB, zC]; rfl) rfl (fun wE hr => ?_)
                    replace k8 := hr.mod.at0 k8
                    replace kpm := hr.mod.at0 kpm
                    replace kpn := hr.mod.at0 kpn
                    have mE := hr.mod
                    obtain ⟨es243, cl243, hrun243, Mkpm⟩ := HMN2.out.update keyT Try.underlying43 wE kpm ky y
                    (refine eff_update (X := ?X243) (Y := ?Y243) (Z := ?Z243) (w' := ?w243) (by simp only [zA, zB, zC]; rfl) ?hw243 rfl ?hx243 ?hz243 ?hv243 ?hy243 ?hn243; (case hw243 => rfl); (case hx243 => (simp only [Act.eval, zD, zA, zB, zC, zE]; (try rfl))); (case hz243 => (simp only [Act.eval, zD, zA, zB, zC, zE]; (try rfl))); (case hv243 => (simp only [Act.eval, zD, zA, zB, zC, zE]; (try rfl))); (case hy243 => exact hrun243))
                    (first | refine TE.nil_set kpm (fun w14 kpm mS => ?_) | refine TE.nil_setCell kpm (fun w14 kpm mS => ?_))
                    (try simp only [Array.setIfInBounds, zF, zG, zH] at kpm)
                    replace k8 := mS.at_ne k8 (by omega)
                    replace kpn := mS.at_ne kpn (by omega)
                    have HUP : Hid (MapIs kv u64v _ _ (putAll (ofK M2) ((wrL x.r.ro.l).take (j + 1)) M)) := Lib.hid (by rw [HKY.out, putAll_snoc, HY.out]; exact Mkpm)
                    have HN2 := Lib.hid ((HN.out.then0 mE).trans mS)
                    clear hr mE mS Mkpm hlk
                    go_wp2_with fail
                    go_roundw
                    case rel => exact ⟨j + 1, by omega, by go_num, Lib.hid ⟨_, _, kpm, HUP.out⟩, HN2⟩
                    case measure => simp [intOf]; omega
                  · obtain rfl : wn = j := by omega
                    rw [List.take_of_length_le (by rw [HWN.out]; omega)] at HMN2
                    have HFM : Hid (RoI S2 z1 y1 (ofK (putAll (ofK M2) (wrL x.r.ro.l) M))) := Lib.hid (by
                      have hf : ofK (putAll (ofK M2) (wrL x.r.ro.l) M) = fun k => if k ∈ wrL x.r.ro.l then ofK M k + cx else ofK M k := funext fun k => by
                        rw [ofK_putAll]
                        by_cases hk : k ∈ wrL x.r.ro.l
                        · rw [if_pos hk, if_pos hk, ← HM2.out, ofK_putAll, if_pos hk]
                        · rw [if_neg hk, if_neg hk]
                      rw [hf]
                      exact HROI.out)
                    have HMF := Lib.hid ((HMb.out.then0 HNb.out).trans HN.out)
                    go_wp2_with fail
                    go_roundw
                    case rel => exact ⟨i + 1, z1, y1, _, S2, by omega, rfl, rfl, by go_num, Lib.hid ⟨_, _, kpm, HMN2.out⟩, Lib.hid ⟨HFM.out, HQn.out.1, HQn.out.2.1⟩, HMF⟩
                    case measure => simp [intOf]; omega
          ·
            as_aux_lemma =>
            have hb24 : ((n : Int) == 24) = false := by rw [beq_eq_false_iff_ne]; omega
            have hb25 : ((n : Int) == 25) = false := by rw [beq_eq_false_iff_ne]; omega
            have hb26 : ((n : Int) == 26) = false := by rw [beq_eq_false_iff_ne]; omega
            have hb0 : ((n : Int) == 0) = false := by rw [beq_eq_false_iff_ne]; omega
            have E0 := Lib.hid e0
            have hvn2 : ∀ h, (errC vs)[i]'h = .int .i64 (n : Int) := fun h => by rw [Array.getElem?_eq_getElem h] at hvn'; exact Option.some.inj hvn'
            clear hvn'
            clear e24 e25 e26 e0
            go_wp2_with fail
            go_roundw
            case rel =>
              exact ⟨i + 1, sum, space, M, S2, by omega, rfl, rfl, by go_num, Lib.hid ⟨_, _, kpm, HMM.out⟩, Lib.hid ⟨HQn.out.2.2 E0.out, HQn.out.1, HQn.out.2.1⟩, HM11⟩
            case measure => simp [intOf]; omega
    · obtain rfl : i = ll := by omega
      have hS : S1 = Si := by
        have h := HI.out.2.1
        rw [List.drop_of_length_le (by rw [HLL.out]; omega), List.drop_of_length_le (by omega)] at h
        cases h
        rfl
      have hite : (if k = 0 then S1 else { S1 with es := S1.es ++ [leB k.toUInt64 ++ ent] }).b = sum := by
        have hb : S1.b = sum := by rw [hS]; exact HI.out.1.2.1
        split <;> exact hb
      have hbk := (HV.out.2.1.mod0 HM6.out.2).mod HM.out (fun j hj e => by
        have h1 := HV.out.2.2 j (.inl hj)
        have h2 := HPM.out.2.2.2
        omega) (fun j hj e => by
        have h1 := HV.out.2.2 j (.inr hj)
        have h2 := HPM.out.2.2.2
        omega) (fun q c0 c1 c2 kx e => by
        rw [e, KM.out] at kx
        cases kx)
      have hco := bcost_c wr hbk
      rw [hite] at hco
      have HCO := Lib.hid hco
      have mmf := HW.out
      clear hbk hco hite hS
      go_wp2_with fail
      go_at_call 11
      refine HCO.out.mono ?_
      rintro e w7 ⟨rfl, rfl⟩
      go_wp2_with fail
      go_at_call 6
      refine (lives_c _).mono ?_
      rintro e wl ⟨rfl, ml⟩
      go_wp2_with fail
      go_ret
      exact ⟨rfl, mmf.trans ml⟩
end Go.Proofs.Ytofpnmoeimjnnaa
namespace Go.Proofs.Ytofpnmoeimjnnaa
open Go.RowKit
open Go.ChangeMaps (setBlock)
set_option linter.unusedSimpArgs false
set_option linter.unusedVariables false
attribute [local go_sem ↓] wlKey ldKey stKey wlAcct ldAcct stAcct wlHold ldHold stHold wlHash ldHash stHash wlSig ldSig stSig wlLim ldLim stLim wlRdy ldRdy stRdy wlOut ldOut stOut wlTd ldTd stTd wlTx ldTx stTx eqKey1
attribute [local go_sem] eqMap neMap av_size av_all av_one hd_size hd_key hd_acct hd_all hd_one zKey_size zAcct_size zHold_size zHash_size zSg_size zLim_size zRdy_size zOut_size zTried_size zTx_size cell_blk frozen_blk kc_ext one_int one_bool one_ptr one_slice one_map kc_one kc_one0 kc_size sgc_size sgc_ext sgc_one0 sgc_one' rdr_size rdr_all rdr_one rdr_tx rdr_rec rdr0 rdr1 rdr6 rdr39 rdr40 rdr41 rdr0' rdr1' rdr6' rdr39' rdr40' rdr41' ocr_size ocr_all ocr_one ocr2 ocr3 ocr4 ocr5 ocr2' ocr3' ocr4' ocr5' tdr_size tdr_all tdr_one tdr_r tdr_o tdr_tx tdr_rec tdr0 tdr1 tdr41 tdr50 tdr51 tdr52 tdr53 tdr0' tdr1' tdr41' tdr50' tdr51' tdr52' tdr53' txr_size txr_all txr_one txr0 txr38 txr39 txr0' txr38' txr39' Value.cells
section
variable {H : Type} {enc : TypeId × Value → H}
theorem trieds_reads : Reads enc Try.prog 30 (slv (α := TdR)) (SlOk tdr 54 296 TdOk) :=
  slice_reads Try.underlying30 (by kernel_rfl) (by kernel_rfl) (by omega) tried_reads ⟨rd0, ⟨0, 0, 0, 0, 0, ⟨none, [], 0⟩⟩⟩
def limC (x : Lim) : Array Value := #[u64v x.b, u64v x.a, u64v x.s]
theorem lim_reads : Reads enc Try.prog 27 limC (fun _ _ => True) := fun w base sp held fuel cs x h hfit => by
  obtain ⟨a0, h0, ka0⟩ := field_read 0 0 1 Try.underlying27 rfl (by kernel_rfl) u64_reads h hfit
  obtain ⟨a1, h1, ka1⟩ := field_read 1 1 1 Try.underlying27 rfl (by kernel_rfl) u64_reads h hfit
  obtain ⟨a2, h2, ka2⟩ := field_read 2 2 1 Try.underlying27 rfl (by kernel_rfl) u64_reads h hfit
  have hl := len_of (n := 3) Try.underlying27 (by kernel_rfl) h
  refine ⟨⟨a0, a1, a2⟩, ?_, trivial⟩
  apply Array.toList_inj.1
  show cs = _
  have e := cut_at cs 0 1
  rw [cut_at cs (0 + 1) 1, cut_at cs (0 + 1 + 1) 1, h0, h1, h2, end_at (n := 0 + 1 + 1 + 1) hl] at e
  exact e
theorem gnd_reads : Reads enc Try.prog 29 grc GrOk := fun w base sp held fuel cs x h hfit => by
  obtain ⟨a0, h0, ka0⟩ := field_read 0 0 1 Try.underlying29 rfl (by kernel_rfl) holds_reads h hfit
  obtain ⟨a1, h1, ka1⟩ := field_read 1 1 1 Try.underlying29 rfl (by kernel_rfl) hashes_reads h hfit
  obtain ⟨a2, h2, ka2⟩ := field_read 2 2 1 Try.underlying29 rfl (by kernel_rfl) sigs_reads h hfit
  obtain ⟨a3, h3, ka3⟩ := field_read 3 3 3 Try.underlying29 rfl (by kernel_rfl) lim_reads h hfit
  have hl := len_of (n := 6) Try.underlying29 (by kernel_rfl) h
  refine ⟨⟨a0, a1, a2, a3⟩, ?_, ka0, ka1, ka2⟩
  apply Array.toList_inj.1
  show cs = _
  have e := cut_at cs 0 1
  rw [cut_at cs (0 + 1) 1, cut_at cs (0 + 1 + 1) 1, cut_at cs (0 + 1 + 1 + 1) 3, h0, h1, h2, h3, end_at (n := 0 + 1 + 1 + 1 + 3) hl] at e
  refine e.trans ?_
  simp [grc, slv, Sl.v, limC]
end
end Go.Proofs.Ytofpnmoeimjnnaa
namespace Go.Proofs.Ytofpnmoeimjnnaa
open Go.RowKit
open Go.ChangeMaps (setBlock)
set_option linter.unusedSimpArgs false
set_option linter.unusedVariables false
attribute [local go_sem ↓] wlKey ldKey stKey wlAcct ldAcct stAcct wlHold ldHold stHold wlHash ldHash stHash wlSig ldSig stSig wlLim ldLim stLim wlRdy ldRdy stRdy wlOut ldOut stOut wlTd ldTd stTd wlTx ldTx stTx eqKey1
attribute [local go_sem] eqMap neMap av_size av_all av_one hd_size hd_key hd_acct hd_all hd_one zKey_size zAcct_size zHold_size zHash_size zSg_size zLim_size zRdy_size zOut_size zTried_size zTx_size cell_blk frozen_blk kc_ext one_int one_bool one_ptr one_slice one_map kc_one kc_one0 kc_size sgc_size sgc_ext sgc_one0 sgc_one' rdr_size rdr_all rdr_one rdr_tx rdr_rec rdr0 rdr1 rdr6 rdr39 rdr40 rdr41 rdr0' rdr1' rdr6' rdr39' rdr40' rdr41' ocr_size ocr_all ocr_one ocr2 ocr3 ocr4 ocr5 ocr2' ocr3' ocr4' ocr5' tdr_size tdr_all tdr_one tdr_r tdr_o tdr_tx tdr_rec tdr0 tdr1 tdr41 tdr50 tdr51 tdr52 tdr53 tdr0' tdr1' tdr41' tdr50' tdr51' tdr52' tdr53' txr_size txr_all txr_one txr0 txr38 txr39 txr0' txr38' txr39' Value.cells
theorem roomLawS (g : GrR') (a : Option Addr) (l : List TdR) (c : Nat) (w : World) (hok : GrOk w g) (hl : SlAt tdr 54 w a l) (hx : ∀ x ∈ l, TdOk w x) (hz : l.length * 296 ≤ reachBytes) (_ : ∀ y, a = some y → y.block < w.heap.size ∨ l = []) (_ : l.length ≤ maxLen) :
    Calls Try.prog 3 #[.agg (grc g), .slice a l.length c] w fun e w' => e = .returned (.bool true) ∧ Mod (fun _ => False) w w' :=
  roomLaw_c g a l c w hok hl hx (reach_small hz (by omega))
end Go.Proofs.Ytofpnmoeimjnnaa
