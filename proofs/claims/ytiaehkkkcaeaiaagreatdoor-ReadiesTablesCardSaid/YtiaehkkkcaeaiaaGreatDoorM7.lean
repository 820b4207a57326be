/- The lemmas of the proof, part M7: how the program and its data lie in memory, and what its functions do. -/
import Derived.Test.YtiaehkkkcaeaiaaGreatDoorM6
set_option linter.unusedSimpArgs false
set_option linter.unusedVariables false
set_option linter.unusedSectionVars false
namespace Go.Proofs.YtiaehkkkcaeaiaaGreatDoor
open Go.RowKit
open Go.ChangeMaps (setBlock)
attribute [local go_sem ↓] wlKey ldKey stKey ldSg stSg wlTc ldTc stTc eqKey1
attribute [local go_sem] cell_blk frozen_blk kc_ext one_int one_bool one_ptr one_slice one_map kc_one kc_one0 kc_size zKey_size sgc_size sgc_ext sgc_one0 sgc_one' txr_size txr_all txr_one txr_one' txr0 txr38 txr39 txr0' txr38' txr39' zTx_size Value.cells
attribute [local go_sem ↓] wlRdy ldRdy stRdy wlMsg ldMsg stMsg ldBgd
attribute [local go_sem] zTc_size zTc_ext zTc_all zTc_all0 txr_ms rdr_size rdr_all rdr_one zRdy_size zRdy_one
theorem roles_len {m : MsP} {ws rs : List Key} {ro : List Role} (h : rolesP m ws rs = .ok ro) : ro.length = m.ks.length + ws.length + rs.length := by
 unfold rolesP at h
 split at h
 ·cases h
  simp [rolesL]
  omega
 ·cases h
def ClL (l : List UInt8) (n b : Nat) (v : Value) : Land := fun T w => ∃ a c, v = .slice a n c ∧ (∀ w2, (Instr.sliceAt 22 (.slice a n c) none (some (.int .i64 (n : Int))) (some (.int .i64 (n : Int)))).run Tryz.prog w2 = .ok (.slice a n n) w2) ∧ NewS uc 1 5 b w (.slice a n n) l ∧ ∀ g, (Value.slice a n n).ownBlock = some g → T g
theorem goodCl (l : List UInt8) (n b : Nat) (v : Value) : Good (ClL l n b v) where
 cl := fun T w w' h hm => by
  obtain ⟨a, c, e, h1, h2, h3⟩ := h
  exact ⟨a, c, e, h1, h2.mod hm (fun g hg hn => hn (h3 g hg)), h3⟩
 gr := fun T T' w hT h => by
  obtain ⟨a, c, e, h1, h2, h3⟩ := h
  exact ⟨a, c, e, h1, h2, fun g hg => hT g (h3 g hg)⟩
theorem clL {l : List UInt8} {n b : Nat} {v : Value} {T : Nat → Prop} {w w' : World} (h : SlOwn uc 1 5 w' w.heap.size v l) (hb : b ≤ w.heap.size) (hn : l.length = n) : ClL l n b v (Grow T w w') w' := by
 subst hn
 obtain ⟨a, c, e, h1, h2, h3, h4⟩ := clip_own bytesT h
 obtain ⟨a', c', v2, e', h1', h2'⟩ := h.clip bytesT
 have hv : v2 = .slice a l.length l.length := by
  have e1 := h1 w'
  rw [h1' w'] at e1
  injection e1 with e1 _
 subst hv
 subst e
 exact ⟨a, c, rfl, h1, h2'.base hb, fun g hg => .inr (h2'.lt g hg)⟩
theorem ry_apt {w : World} {S : Nat → Prop} {b : Nat} (h : ∀ p, S p → ∃ R, w.heap[p]? = some (.cells R 41 (0, 0))) : Apt w S b := fun g C E hg hk hE hs => by
 obtain ⟨R, hR⟩ := h g hs
 rw [hR] at hk
 cases hk
 revert hE
 decide
theorem ry_new {α : Type} {f : α → Array Value} {n : Nat} {E : TypeId} {b : Nat} {w : World} {v : Value} {l : List α} {S : Nat → Prop} (hv : NewS f n E b w v l) (hE : E ≠ 41) (h : ∀ p, S p → ∃ R, w.heap[p]? = some (.cells R 41 (0, 0))) : ∀ g, v.ownBlock = some g → ¬ S g := fun g hg hs => by
 obtain ⟨C, hk⟩ := hv.ty hg
 obtain ⟨R, hR⟩ := h g hs
 rw [hR] at hk
 cases hk
 exact hE rfl
theorem TxO.da {b : Nat} {w : World} {x : RdR} (h : TxO b w x) (hB : TxB (txP x)) : ∀ y ∈ x.ins.l, DaF w y := by
 obtain ⟨h1, h2, h3, h4, h5, h6, h7⟩ := h
 obtain ⟨b1, b2, ⟨b3, b4⟩, b5, b6⟩ := hB
 simp only [txP, msgP, List.length_map] at b1 b2 b3 b4 b5 b6
 intro i hi
 obtain ⟨y, hy, _, e2, e3, e4, e5⟩ := h4.1.left i hi
 have hb := b4 y hy
 rw [← e3] at e5
 have hlen : i.d.l.length ≤ 140737488355328 := by rw [e3]; exact Nat.le_trans hb.2 (by decide)
 obtain ⟨a5, q5, s5, o5⟩ := e5.at
 injection q5 with q51 q52 q53
 refine ⟨by rw [q51]; exact s5, by omega, fun hn => ?_, hlen⟩
 rcases e5 with ⟨e, hl⟩ | ⟨g, cur, e, _⟩
 ·injection e
 ·have e2 : Value.slice i.d.a i.d.l.length i.d.c = _ := e
  rw [hn] at e2
  cases e2
theorem dSum_P (l : List InR) : dSum l = dSumP (l.map inP) := by
 unfold dSum dSumP
 rw [List.foldl_map]
 rfl
set_option maxRecDepth 20000 in
set_option maxHeartbeats 6400000 in
theorem ready_c {b h r : Nat} {T : TbL} {a : Option Addr} {l : List UInt8} {c : Nat} (w : World) (H : RegA b h r T w) (hB : BudW w) (hl : SlAt uc 1 w a l) (hc : l.length ≤ c) (hn : a = none → c = 0) (hln : l.length ≤ 900000) (hin : ∀ x, a = some x → x.block < w.heap.size) :
  Calls Tryz.prog 9 #[.slice a l.length c, pV r] w (ReaP T w l) := by
 have HL := Lib.hid (And.intro hl (And.intro hc (And.intro hn (And.intro hln hin))))
 have HR := Lib.hid (And.intro H hB)
 obtain ⟨ll, hll⟩ : ∃ ll, l.length = ll := ⟨_, rfl⟩
 have HLL := Lib.hid hll
 have HW := Lib.hid (fun w1 (m : Mod (fun _ => False) w w1) => wire_c (c := c) w1 (hl.mod0 m) hc hn hln (by intro x h; exact Nat.lt_of_lt_of_le (hin x h) m.size))
 have hbk := bK0
 have hbr := bRdy0
 obtain ⟨e0, he0, hen⟩ := fnd_ne T key0
 have HF := Lib.hid he0
 have hd0 := decide_eq_false hen
 rw [hll]
 clear H hB hl hc hn hln hin hll he0 hen
 go_enter Tryz.func9, Tryz.ntmps9
 go_upto_region 0 with fail
 refine wp_pass0 (C := fun _ _ _ => False) (κ := fun i => [3, 0].getD i 0) [0, 1] (by kernel_rfl) (by kernel_rfl) (fun _ _ d _ _ h => by cases d <;> first | exact h | exact absurd h (hP _ _ _)) ?_
 (refine TD.allocB (by simp only [zK]; rfl) rfl (by rfl) rfl rfl alRdy (fun p4 hp4 => ?n1); try simp only [zL])
 (refine TD.val0 (v := ?_) (by simp only [zK]; rfl) rfl (by rfl) (fun w1 => ?_) ?_; rotate_left; (next => go_simp; try with_reducible rfl); try simp only [zL])
 refine TD.nil (fun w1 hr => ?_)
 have kp4 := hr.box p4 _ (by first | exact Bx.set_same _ _ _ | (simp only [Bx.set_same]; rfl)); dsimp only [Value.cells] at kp4; obtain ⟨gp4, kp4⟩ := kp4
 have HM1 := Lib.hid hr.mod
 have HGP4 := Lib.hid gp4
 clear hr
 go_upto_region 1 with fail
 have Lkp4 := lt_size kp4
 refine wp_pass0 (C := fun _ _ v => ∃ x, v = .tuple #[x, .int .i64 (e0 : Int)]) (κ := fun i => [0, 0, 2, 0, 0, 0, 0, 0].getD i 0) [0, 1, 2, 3, 4, 5, 6, 7] (by kernel_rfl) (by kernel_rfl) (fun _ _ d _ _ h => by cases d <;> first | exact h | exact absurd h (hP _ _ _)) ?_
 (refine TD.val0 (v := ?_) (by simp only [zK]; rfl) rfl (by rfl) (fun w1 => ?_) ?_; rotate_left; (next => go_simp; try with_reducible rfl); try simp only [zL])
 (refine TD.build (v := ?v4) (ps := ?p4) (by simp only [zK]; rfl) rfl (by rfl) rfl ?hx4 (fun w1 => ?y4) ?n4; (case hx4 => (simp only [List.map_toArray, List.map_cons, List.map_nil, zM]; (try rfl))); (case y4 => (rw [hbk]; (try with_reducible rfl))); try simp only [zL])
 (refine TD.call (f := ?f5) (args := ?r5) (Mod.refl _ _) (by simp only [zK]; rfl) rfl (by rfl) (fun w1 => ?y5) ?hsp5 ?n5; (case y5 => (go_simp; (first | with_reducible rfl | (constructor <;> with_reducible rfl)))); (case hsp5 => (intro wq hSq; have kp4q := hSq.at kp4 (fun h => h); exact (findE_c key0 wq (HR.out.1.mod0 (HM1.out.then0 hSq))).mono (fun e w' h => by obtain ⟨⟨v, hv⟩, h2⟩ := h; rw [HF.out] at hv; exact ⟨_, hv, ⟨_, rfl⟩, h2⟩))); rintro _ hC; obtain ⟨x1, hC⟩ := hC; subst hC; try simp only [zL])
 iterate 5 (refine TD.val0 (v := ?_) (by simp only [zK]; rfl) rfl (by rfl) (fun w1 => ?_) ?_; rotate_left; (next => go_simp; try with_reducible rfl); try simp only [zL])
 refine TD.nil (fun w2 hr => ?_)
 replace kp4 := hr.mod.at kp4 (fun h => h)
 have HM2 := Lib.hid (HM1.out.then0 hr.mod)
 clear hr
 go_upto_region 2 with fail
 have Lkp4 := lt_size kp4
 refine wp_pass0 (C := fun _ _ v => v = .bool false) (κ := fun i => [0, 0, 0, 2].getD i 0) [0, 1, 2, 3] (by kernel_rfl) (by kernel_rfl) (fun _ _ d _ _ h => by cases d <;> first | exact h | exact absurd h (hP _ _ _)) ?_
 iterate 3 (refine TD.val0 (v := ?_) (by simp only [zK]; rfl) rfl (by rfl) (fun w1 => ?_) ?_; rotate_left; (next => go_simp; try with_reducible rfl); try simp only [zL])
 (refine TD.call (f := ?f14) (args := ?r14) (Mod.refl _ _) (by simp only [zK]; rfl) rfl (by rfl) (fun w1 => ?y14) ?hsp14 ?n14; (case y14 => (go_simp; (first | with_reducible rfl | (constructor <;> with_reducible rfl)))); (case hsp14 => (intro wq hSq; have kp4q := hSq.at kp4 (fun h => h); exact (eIs_c (e0 : Int) 2 wq).mono (fun e w' h => ⟨_, by rw [h.1, hd0], rfl, by rw [h.2]; exact Mod.refl _ _⟩))); rintro _ hC; subst hC; try simp only [zL])
 refine TD.nil (fun w3 hr => ?_)
 replace kp4 := hr.mod.at kp4 (fun h => h)
 have HM3 := Lib.hid (HM2.out.then0 hr.mod)
 clear hr hd0
 have hG := HW.out _ HM3.out
 rw [HLL.out] at hG
 go_upto_region 4 with fail
 refine region_seq 8 rfl ?_
 simp only [List.range, List.range.loop]
 (refine sq_val (v := ?_) (by simp only [zK]; rfl) (by rfl) ?_ ?_; rotate_left; (next => go_simp; try with_reducible rfl); try simp only [zL])
 (refine sq_callT (by simp only [zK]; rfl) (by rfl) ?y16 hG ?hout (fun vn wn hR => ?hret) (fun ch wn hR => ?hpan); (case y16 => (go_simp; (try (first | with_reducible rfl | (constructor <;> with_reducible rfl))))))
 case hout =>
  intro w' h
  unfold WirP at h
  split at h
  ·obtain ⟨_, _, h, _⟩ := h
   cases h
  ·cases h.2
 case hpan =>
  exfalso
  unfold WirP at hR
  split at hR
  ·obtain ⟨_, _, h, _⟩ := hR
   cases h
  ·cases hR.2
 case hret =>
 obtain ⟨hm, hr⟩ := hR
 clear hG
 have HM4 := Lib.hid (HM3.out.trans hm)
 replace kp4 := hm.at0 kp4
 clear hm
 cases hres : wireP l with
 | error n1 =>
  rw [hres] at hr
  simp only at hr
  cases hr
  have h0 := chk_ne hres
  have HE : Hid (readyP T l = .error n1) := Lib.hid (by unfold readyP; rw [hres])
  (try simp only [zL])
  obtain ⟨w4, rfl⟩ : ∃ w4 : World, w4 = wn := ⟨_, rfl⟩
  iterate 3 (refine sq_val (v := ?_) (by simp only [zK]; rfl) (by rfl) ?_ ?_; rotate_left; (next => go_simp; try with_reducible rfl); try simp only [zL])
  (refine sq_alloc (by simp only [zK]; rfl) (by rfl) rfl alTx (fun p8 wn gp8 kp8 mp8 => ?n20); try simp only [zL])
  (refine sq_store (X := ?X21) (Y := ?Y21) (w' := ?w21) (by simp only [zK]; rfl) (by rfl) rfl rfl ?hx21 ?hz21 ?y21 ?n21; (case hx21 => simp only [zM]; try rfl); (case hz21 => simp only [zM]; try rfl); (case y21 => go_simp; try with_reducible rfl))
  (first | refine sq_set kp8 (fun wn kp8 mS => ?_) | refine sq_setCell kp8 (fun wn kp8 mS => ?_))
  (refine sq_val (v := ?_) (by simp only [zK]; rfl) (by rfl) ?_ ?_; rotate_left; (next => go_simp; try with_reducible rfl); try simp only [zL])
  refine sq_nil ?_
  have HM5 : Hid (Mod (fun _ => False) w wn) := Lib.hid ((HM4.out.trans mp8).then mS (fun i hi e => by have := HM4.out.size; omega))
  have hp48 : p4 < w4.heap.size := lt_size kp4
  have kp4' : wn.heap[p4]? = some (.cells zRdy 41 (0, 0)) := mS.at (mp8.at0 kp4) (fun e => by omega)
  have kp4 := kp4'
  have hw0 : (!decide ((n1 : Int) = 0)) = true := by simp; omega
  clear mS mp8 kp8 kp4' hp48 gp8 hres h0
  obtain ⟨w5, rfl⟩ : ∃ w5 : World, w5 = wn := ⟨_, rfl⟩
  go_upto_region 5 with fail
  have Lkp4 := lt_size kp4
  refine wp_pass0 (C := fun _ _ v => v = .bool true) (κ := fun i => [0, 2].getD i 0) [0, 1] (by kernel_rfl) (by kernel_rfl) (fun _ _ d _ _ h => by cases d <;> first | exact h | exact absurd h (hP _ _ _)) ?_
  (refine TD.val0 (v := ?_) (by simp only [zK]; rfl) rfl (by rfl) (fun w1 => ?_) ?_; rotate_left; (next => go_simp; try with_reducible rfl); try simp only [zL])
  (refine TD.call (f := ?f24) (args := ?r24) (Mod.refl _ _) (by simp only [zK]; rfl) rfl (by rfl) (fun w1 => ?y24) ?hsp24 ?n24; (case y24 => (go_simp; (first | with_reducible rfl | (constructor <;> with_reducible rfl)))); (case hsp24 => (intro wq hSq; have kp4q := hSq.at kp4 (fun h => h); exact (wrong_c (n1 : Int) wq).mono (fun e w' h => ⟨_, by rw [h.1, hw0], rfl, by rw [h.2]; exact Mod.refl _ _⟩))); rintro _ hC; subst hC; try simp only [zL])
  refine TD.nil (fun w6 hr => ?_)
  replace kp4 := hr.mod.at kp4 (fun h => h)
  have HM := Lib.hid (HM5.out.then0 hr.mod)
  clear hr
  go_upto_region 6 with fail
  have Lkp4 := lt_size kp4
  refine wp_pass0 (C := fun _ _ _ => False) (κ := fun i => [0, 0, 5, 0].getD i 0) [0, 1, 2, 3] (by kernel_rfl) (by kernel_rfl) (fun _ _ d _ _ h => by cases d <;> first | exact h | exact absurd h (hP _ _ _)) ?_
  (refine TD.build (v := ?v25) (ps := ?p25) (by simp only [zK]; rfl) rfl (by rfl) rfl ?hx25 (fun w1 => ?y25) ?n25; (case hx25 => (simp only [List.map_toArray, List.map_cons, List.map_nil, zM]; (try rfl))); (case y25 => (rw [hbr]; (try with_reducible rfl))); try simp only [zL])
  (refine TD.val0 (v := ?_) (by simp only [zK]; rfl) rfl (by rfl) (fun w1 => ?_) ?_; rotate_left; (next => go_simp; try with_reducible rfl); try simp only [zL])
  refine TD.eff (by simp only [zK]; rfl) rfl (fun w7 hr => ?_)
  replace kp4 := hr.mod.at kp4 (fun h => h)
  have HMz := Lib.hid (HM.out.then0 hr.mod)
  clear hr
  (refine eff_store (X := ?X28) (Y := ?Y28) (w' := ?w28) (by simp only [zK]; rfl) (by rfl) rfl ?hx28 ?hz28 ?y28 ?n28; (case hx28 => simp only [zM]; try rfl); (case hz28 => simp only [zM]; try rfl); (case y28 => go_simp; try with_reducible rfl))
  (first | refine TE.mid_set kp4 (fun wn kp4 mS => ?_) | refine TE.mid_setCell kp4 (fun wn kp4 mS => ?_))
  have HMy := Lib.hid (HMz.out.thenB mS (.inl gp4))
  clear mS
  (refine TE.val0 (v := ?v29) (by simp only [zK]; rfl) (by rfl) (fun w1 => ?y29) ?n29; (case y29 => go_simp; try with_reducible rfl); try simp only [zL])
  refine TE.nil ?_
  go_wp2_with fail
  refine bodyPost_ret (results_ct rfl rfl (ldRdyZ kp4)) rfl ?_
  unfold ReaP
  rw [HE.out]
  exact ⟨HMy.out, rfl⟩
 | ok x0 =>
  rw [hres] at hr
  obtain ⟨z, hv0, hO, hzx, hB⟩ := hr
  cases hv0
  have HZ := Lib.hid (And.intro hO (And.intro hzx (And.intro (hzx ▸ hB : TxB (txP z)) (And.intro (wire_few hres).1 hres))))
  clear hO hzx hB hres
  (try simp only [zL])
  obtain ⟨w4, rfl⟩ : ∃ w4 : World, w4 = wn := ⟨_, rfl⟩
  iterate 3 (refine sq_val (v := ?_) (by simp only [zK]; rfl) (by rfl) ?_ ?_; rotate_left; (next => go_simp; try with_reducible rfl); try simp only [zL])
  (refine sq_alloc (by simp only [zK]; rfl) (by rfl) rfl alTx (fun p8 wn gp8 kp8 mp8 => ?n33); try simp only [zL])
  (refine sq_store (X := ?X34) (Y := ?Y34) (w' := ?w34) (by simp only [zK]; rfl) (by rfl) rfl rfl ?hx34 ?hz34 ?y34 ?n34; (case hx34 => simp only [zM]; try rfl); (case hz34 => simp only [zM]; try rfl); (case y34 => go_simp; try with_reducible rfl))
  (first | refine sq_set kp8 (fun wn kp8 mS => ?_) | refine sq_setCell kp8 (fun wn kp8 mS => ?_))
  (refine sq_val (v := ?_) (by simp only [zK]; rfl) (by rfl) ?_ ?_; rotate_left; (next => go_simp; try with_reducible rfl); try simp only [zL])
  refine sq_nil ?_
  replace kp8 : wn.heap[p8]? = some (.cells (txr z) 35 (0, 0)) := kp8
  have m4 : Mod (fun _ => False) w4 wn := mp8.then mS (fun i hi e => by omega)
  have HM5 : Hid (Mod (fun _ => False) w wn) := Lib.hid (HM4.out.then0 m4)
  have HO5 := Lib.hid (HZ.out.1.mod0 m4)
  have HP8 := Lib.hid (And.intro gp8 (And.intro (lt_size kp4) m4.size))
  replace kp4 := m4.at0 kp4
  clear mS mp8 gp8 m4
  obtain ⟨w5, rfl⟩ : ∃ w5 : World, w5 = wn := ⟨_, rfl⟩
  go_upto_region 5 with fail
  have Lkp4 := lt_size kp4
  have Lkp8 := lt_size kp8
  refine wp_pass0 (C := fun _ _ v => v = .bool false) (κ := fun i => [0, 2].getD i 0) [0, 1] (by kernel_rfl) (by kernel_rfl) (fun _ _ d _ _ h => by cases d <;> first | exact h | exact absurd h (hP _ _ _)) ?_
  (refine TD.val0 (v := ?_) (by simp only [zK]; rfl) rfl (by rfl) (fun w1 => ?_) ?_; rotate_left; (next => go_simp; try with_reducible rfl); try simp only [zL])
  (refine TD.call (f := ?f37) (args := ?r37) (Mod.refl _ _) (by simp only [zK]; rfl) rfl (by rfl) (fun w1 => ?y37) ?hsp37 ?n37; (case y37 => (go_simp; (first | with_reducible rfl | (constructor <;> with_reducible rfl)))); (case hsp37 => (intro wq hSq; have kp4q := hSq.at kp4 (fun h => h); have kp8q := hSq.at kp8 (fun h => h); exact (wrong_c 0 wq).mono (fun e w' h => ⟨_, by rw [h.1]; rfl, rfl, by rw [h.2]; exact Mod.refl _ _⟩))); rintro _ hC; subst hC; try simp only [zL])
  refine TD.nil (fun wq2 hr => ?_)
  replace kp4 := hr.mod.at kp4 (fun h => h)
  replace kp8 := hr.mod.at kp8 (fun h => h)
  have HM6 := Lib.hid (HM5.out.then0 hr.mod)
  have HO6 := Lib.hid (HO5.out.mod0 hr.mod)
  have hm56 := hr.mod.size
  clear hr
  have hG7 := resolve_c (T := T) (xc := z.lks.c) wq2 (HR.out.1.mod0 HM6.out) (HO6.out.rd HZ.out.2.2.1).2.2.2.1 (HO6.out.lo HZ.out.2.2.1) (by have := HZ.out.2.2.1.2.2.2.1; simp only [txP, msgP, List.length_map] at this; omega) (Nat.le_trans (lo_tot z) (by have := HZ.out.2.2.2.1; rw [HZ.out.2.1]; omega))
  have HSZ : Hid (w4.heap.size ≤ wq2.heap.size ∧ p4 < w4.heap.size ∧ w4.heap.size ≤ p8) := Lib.hid ⟨Nat.le_trans HP8.out.2.2 hm56, HP8.out.2.1, Nat.le_of_eq HP8.out.1⟩
  clear hm56
  go_upto_region 7 with fail
  refine region_seq 12 rfl ?_
  simp only [List.range, List.range.loop]
  iterate 3 (refine sq_val (v := ?_) (by simp only [zK]; rfl) (by rfl) ?_ ?_; rotate_left; (next => go_simp; try with_reducible rfl); try simp only [zL])
  (refine sq_load (v := ?v41) (p := ?p41) (by simp only [zK]; rfl) (by rfl) rfl ?hx41 ?y41 ?n41; (case hx41 => simp only [zM]; try rfl); (case y41 => go_simp; try with_reducible rfl); try simp only [zL])
  (refine sq_callT (by simp only [zK]; rfl) (by rfl) ?y42 hG7 ?hout (fun vn wn hR => ?hret) (fun ch wn hR => ?hpan); (case y42 => (go_simp; (try (first | with_reducible rfl | (constructor <;> with_reducible rfl))))))
  case hout =>
   intro w' h
   unfold ResA at h
   split at h
   ·obtain ⟨_, _, _, h, _⟩ := h
    cases h
   ·cases h.2
  case hpan =>
   exfalso
   unfold ResA at hR
   split at hR
   ·obtain ⟨_, _, _, h, _⟩ := hR
    cases h
   ·cases hR.2
  case hret =>
  obtain ⟨hm, hr⟩ := hR
  clear hG7
  have HM7 := Lib.hid (HM6.out.then0 hm)
  have HO7 := Lib.hid (HO6.out.mod0 hm)
  replace kp4 := hm.at0 kp4
  replace kp8 := hm.at0 kp8
  clear hm
  cases hres : resP T (z.lks.l.map loP) ([], []) with
  | error n7 =>
   rw [hres] at hr
   simp only at hr
   cases hr
   have h0 := res_ne hres
   have HE : Hid (readyP T l = .error n7) := Lib.hid (by
    unfold readyP
    rw [HZ.out.2.2.2.2]
    simp only
    rw [← HZ.out.2.1]
    show (match resP T (z.lks.l.map loP) ([], []) with | .error e => Except.error e | .ok (ws, rs) => _) = _
    rw [hres])
   (try simp only [zL])
   iterate 7 (refine sq_val (v := ?_) (by simp only [zK]; rfl) (by rfl) ?_ ?_; rotate_left; (next => go_simp; try with_reducible rfl); try simp only [zL])
   refine sq_nil ?_
   clear hres
   have HM5 := HM7
   go_upto_region 8 with fail
   have hw0 : (!decide ((n7 : Int) = 0)) = true := by simp; omega
   have Lkp4 := lt_size kp4
   refine wp_pass0 (C := fun _ _ v => v = .bool true) (κ := fun i => [0, 2].getD i 0) [0, 1] (by kernel_rfl) (by kernel_rfl) (fun _ _ d _ _ h => by cases d <;> first | exact h | exact absurd h (hP _ _ _)) ?_
   (refine TD.val0 (v := ?_) (by simp only [zK]; rfl) rfl (by rfl) (fun w1 => ?_) ?_; rotate_left; (next => go_simp; try with_reducible rfl); try simp only [zL])
   (refine TD.call (f := ?f51) (args := ?r51) (Mod.refl _ _) (by simp only [zK]; rfl) rfl (by rfl) (fun w1 => ?y51) ?hsp51 ?n51; (case y51 => (go_simp; (first | with_reducible rfl | (constructor <;> with_reducible rfl)))); (case hsp51 => (intro wq hSq; have kp4q := hSq.at kp4 (fun h => h); exact (wrong_c (n7 : Int) wq).mono (fun e w' h => ⟨_, by rw [h.1, hw0], rfl, by rw [h.2]; exact Mod.refl _ _⟩))); rintro _ hC; subst hC; try simp only [zL])
   refine TD.nil (fun wq2 hr => ?_)
   replace kp4 := hr.mod.at kp4 (fun h => h)
   have HM := Lib.hid (HM5.out.then0 hr.mod)
   clear hr
   go_upto_region 9 with fail
   have Lkp4 := lt_size kp4
   refine wp_pass0 (C := fun _ _ _ => False) (κ := fun i => [0, 0, 5, 0].getD i 0) [0, 1, 2, 3] (by kernel_rfl) (by kernel_rfl) (fun _ _ d _ _ h => by cases d <;> first | exact h | exact absurd h (hP _ _ _)) ?_
   (refine TD.build (v := ?v52) (ps := ?p52) (by simp only [zK]; rfl) rfl (by rfl) rfl ?hx52 (fun w1 => ?y52) ?n52; (case hx52 => (simp only [List.map_toArray, List.map_cons, List.map_nil, zM]; (try rfl))); (case y52 => (rw [hbr]; (try with_reducible rfl))); try simp only [zL])
   (refine TD.val0 (v := ?_) (by simp only [zK]; rfl) rfl (by rfl) (fun w1 => ?_) ?_; rotate_left; (next => go_simp; try with_reducible rfl); try simp only [zL])
   refine TD.eff (by simp only [zK]; rfl) rfl (fun wq3 hr => ?_)
   replace kp4 := hr.mod.at kp4 (fun h => h)
   have HMz := Lib.hid (HM.out.then0 hr.mod)
   clear hr
   (refine eff_store (X := ?X55) (Y := ?Y55) (w' := ?w55) (by simp only [zK]; rfl) (by rfl) rfl ?hx55 ?hz55 ?y55 ?n55; (case hx55 => simp only [zM]; try rfl); (case hz55 => simp only [zM]; try rfl); (case y55 => go_simp; try with_reducible rfl))
   (first | refine TE.mid_set kp4 (fun wn kp4 mS => ?_) | refine TE.mid_setCell kp4 (fun wn kp4 mS => ?_))
   have HMy := Lib.hid (HMz.out.thenB mS (.inl gp4))
   clear mS
   (refine TE.val0 (v := ?v56) (by simp only [zK]; rfl) (by rfl) (fun w1 => ?y56) ?n56; (case y56 => go_simp; try with_reducible rfl); try simp only [zL])
   refine TE.nil ?_
   go_wp2_with fail
   refine bodyPost_ret (results_ct rfl rfl (ldRdyZ kp4)) rfl ?_
   unfold ReaP
   rw [HE.out]
   exact ⟨HMy.out, rfl⟩
  | ok y =>
   rw [hres] at hr
   obtain ⟨va, vb, hv0, hva, hvb⟩ := hr
   cases hv0
   obtain ⟨aa, rfl, hsa, _⟩ := hva.at
   obtain ⟨ab, rfl, hsb, _⟩ := hvb.at
   have hyl := res_len hres
   have hlt := HZ.out.2.2.2.1
   have hltL := lo_tot z
   rw [HZ.out.2.1] at hltL
   have hsum : ((z.lks.l.map loP).map (fun l => l.w.length + l.r.length)).sum = loSum z.lks.l := by
    rw [List.map_map]
    rfl
   rw [hsum] at hyl
   have HY := Lib.hid (And.intro hres (show y.1.length + y.2.length ≤ 64 by simp only [List.length_nil] at hyl; omega))
   have hG10 := fun w1 (hm : Mod (fun _ => False) wn w1) => rolesOf_c z y.1 y.2 aa ab y.1.length y.2.length w1 ((HO7.out.mod0 hm).rd HZ.out.2.2.1).2.1.1 ((HO7.out.mod0 hm).rd HZ.out.2.2.1).2.1.2 (hsa.mod0 hm) (hsb.mod0 hm) (by have := HY.out.2; omega) (by have := HY.out.2; omega)
   have HG10 := Lib.hid hG10
   clear hyl hlt hltL hsum hsa hsb hva hvb hres hG10
   (try simp only [zL])
   obtain ⟨w7, rfl⟩ : ∃ w7 : World, w7 = wn := ⟨_, rfl⟩
   iterate 7 (refine sq_val (v := ?_) (by simp only [zK]; rfl) (by rfl) ?_ ?_; rotate_left; (next => go_simp; try with_reducible rfl); try simp only [zL])
   refine sq_nil ?_
   go_upto_region 8 with fail
   have Lkp4 := lt_size kp4
   have Lkp8 := lt_size kp8
   refine wp_pass0 (C := fun _ _ v => v = .bool false) (κ := fun i => [0, 2].getD i 0) [0, 1] (by kernel_rfl) (by kernel_rfl) (fun _ _ d _ _ h => by cases d <;> first | exact h | exact absurd h (hP _ _ _)) ?_
   (refine TD.val0 (v := ?_) (by simp only [zK]; rfl) rfl (by rfl) (fun w1 => ?_) ?_; rotate_left; (next => go_simp; try with_reducible rfl); try simp only [zL])
   (refine TD.call (f := ?f65) (args := ?r65) (Mod.refl _ _) (by simp only [zK]; rfl) rfl (by rfl) (fun w1 => ?y65) ?hsp65 ?n65; (case y65 => (go_simp; (first | with_reducible rfl | (constructor <;> with_reducible rfl)))); (case hsp65 => (intro wq hSq; have kp4q := hSq.at kp4 (fun h => h); have kp8q := hSq.at kp8 (fun h => h); exact (wrong_c 0 wq).mono (fun e w' h => ⟨_, by rw [h.1]; rfl, rfl, by rw [h.2]; exact Mod.refl _ _⟩))); rintro _ hC; subst hC; try simp only [zL])
   refine TD.nil (fun wq2 hr => ?_)
   replace kp4 := hr.mod.at kp4 (fun h => h)
   replace kp8 := hr.mod.at kp8 (fun h => h)
   have HM8 := Lib.hid (HM7.out.then0 hr.mod)
   have HO8 := Lib.hid (HO7.out.mod0 hr.mod)
   have hG10 := HG10.out _ hr.mod
   clear hr HG10
   go_upto_region 10 with fail
   refine region_seq 10 rfl ?_
   simp only [List.range, List.range.loop]
   (refine sq_val (v := ?_) (by simp only [zK]; rfl) (by rfl) ?_ ?_; rotate_left; (next => go_simp; try with_reducible rfl); try simp only [zL])
   (refine sq_load (v := ?v67) (p := ?p67) (by simp only [zK]; rfl) (by rfl) rfl ?hx67 ?y67 ?n67; (case hx67 => simp only [zM]; try rfl); (case y67 => go_simp; try with_reducible rfl); try simp only [zL])
   iterate 2 (refine sq_val (v := ?_) (by simp only [zK]; rfl) (by rfl) ?_ ?_; rotate_left; (next => go_simp; try with_reducible rfl); try simp only [zL])
   (refine sq_callT (by simp only [zK]; rfl) (by rfl) ?y70 hG10 ?hout (fun vn wn hR => ?hret) (fun ch wn hR => ?hpan); (case y70 => (go_simp; (try (first | with_reducible rfl | (constructor <;> with_reducible rfl))))))
   case hout =>
    intro w' h
    unfold RolA at h
    split at h
    ·obtain ⟨_, _, h, _⟩ := h
     cases h
    ·cases h.2
   case hpan =>
    exfalso
    unfold RolA at hR
    split at hR
    ·obtain ⟨_, _, h, _⟩ := hR
     cases h
    ·cases hR.2
   case hret =>
   obtain ⟨hm, hr⟩ := hR
   clear hG10
   have HM9 := Lib.hid (HM8.out.then0 hm)
   have HO9 := Lib.hid (HO8.out.mod0 hm)
   replace kp4 := hm.at0 kp4
   replace kp8 := hm.at0 kp8
   clear hm
   cases hres : rolesP (msgP z) y.1 y.2 with
   | error n10 =>
    rw [hres] at hr
    simp only at hr
    cases hr
    have h0 : n10 ≠ 0 := by
     unfold rolesP at hres
     split at hres
     ·cases hres
     ·cases hres
      decide
    have HE : Hid (readyP T l = .error n10) := Lib.hid (by
     unfold readyP
     rw [HZ.out.2.2.2.2]
     simp only
     rw [← HZ.out.2.1]
     show (match resP T (z.lks.l.map loP) ([], []) with | .error e => Except.error e | .ok (ws, rs) => _) = _
     rw [HY.out.1]
     show (match rolesP (msgP z) y.1 y.2 with | .error e => Except.error e | .ok ro => _) = _
     rw [hres])
    (try simp only [zL])
    iterate 5 (refine sq_val (v := ?_) (by simp only [zK]; rfl) (by rfl) ?_ ?_; rotate_left; (next => go_simp; try with_reducible rfl); try simp only [zL])
    refine sq_nil ?_
    clear hres
    have HM5 := HM9
    go_upto_region 11 with fail
    have hw0 : (!decide ((n10 : Int) = 0)) = true := by simp; omega
    have Lkp4 := lt_size kp4
    refine wp_pass0 (C := fun _ _ v => v = .bool true) (κ := fun i => [0, 2].getD i 0) [0, 1] (by kernel_rfl) (by kernel_rfl) (fun _ _ d _ _ h => by cases d <;> first | exact h | exact absurd h (hP _ _ _)) ?_
    (refine TD.val0 (v := ?_) (by simp only [zK]; rfl) rfl (by rfl) (fun w1 => ?_) ?_; rotate_left; (next => go_simp; try with_reducible rfl); try simp only [zL])
    (refine TD.call (f := ?f77) (args := ?r77) (Mod.refl _ _) (by simp only [zK]; rfl) rfl (by rfl) (fun w1 => ?y77) ?hsp77 ?n77; (case y77 => (go_simp; (first | with_reducible rfl | (constructor <;> with_reducible rfl)))); (case hsp77 => (intro wq hSq; have kp4q := hSq.at kp4 (fun h => h); exact (wrong_c (n10 : Int) wq).mono (fun e w' h => ⟨_, by rw [h.1, hw0], rfl, by rw [h.2]; exact Mod.refl _ _⟩))); rintro _ hC; subst hC; try simp only [zL])
    refine TD.nil (fun wq2 hr => ?_)
    replace kp4 := hr.mod.at kp4 (fun h => h)
    have HM := Lib.hid (HM5.out.then0 hr.mod)
    clear hr
    go_upto_region 12 with fail
    have Lkp4 := lt_size kp4
    refine wp_pass0 (C := fun _ _ _ => False) (κ := fun i => [0, 0, 5, 0].getD i 0) [0, 1, 2, 3] (by kernel_rfl) (by kernel_rfl) (fun _ _ d _ _ h => by cases d <;> first | exact h | exact absurd h (hP _ _ _)) ?_
    (refine TD.build (v := ?v78) (ps := ?p78) (by simp only [zK]; rfl) rfl (by rfl) rfl ?hx78 (fun w1 => ?y78) ?n78; (case hx78 => (simp only [List.map_toArray, List.map_cons, List.map_nil, zM]; (try rfl))); (case y78 => (rw [hbr]; (try with_reducible rfl))); try simp only [zL])
    (refine TD.val0 (v := ?_) (by simp only [zK]; rfl) rfl (by rfl) (fun w1 => ?_) ?_; rotate_left; (next => go_simp; try with_reducible rfl); try simp only [zL])
    refine TD.eff (by simp only [zK]; rfl) rfl (fun wq3 hr => ?_)
    replace kp4 := hr.mod.at kp4 (fun h => h)
    have HMz := Lib.hid (HM.out.then0 hr.mod)
    clear hr
    (refine eff_store (X := ?X81) (Y := ?Y81) (w' := ?w81) (by simp only [zK]; rfl) (by rfl) rfl ?hx81 ?hz81 ?y81 ?n81; (case hx81 => simp only [zM]; try rfl); (case hz81 => simp only [zM]; try rfl); (case y81 => go_simp; try with_reducible rfl))
    (first | refine TE.mid_set kp4 (fun wn kp4 mS => ?_) | refine TE.mid_setCell kp4 (fun wn kp4 mS => ?_))
    have HMy := Lib.hid (HMz.out.thenB mS (.inl gp4))
    clear mS
    (refine TE.val0 (v := ?v82) (by simp only [zK]; rfl) (by rfl) (fun w1 => ?y82) ?n82; (case y82 => go_simp; try with_reducible rfl); try simp only [zL])
    refine TE.nil ?_
    go_wp2_with fail
    refine bodyPost_ret (results_ct rfl rfl (ldRdyZ kp4)) rfl ?_
    unfold ReaP
    rw [HE.out]
    exact ⟨HMy.out, rfl⟩
   | ok ro =>
    rw [hres] at hr
    obtain ⟨vr, hv0, hvr⟩ := hr
    cases hv0
    obtain ⟨ra, rfl, hsr, hrb⟩ := hvr.at
    have hrl := roles_len hres
    have hkl : (msgP z).ks.length ≤ 64 := Nat.le_trans (Nat.le_add_right _ _) (by have := HZ.out.2.2.2.1; rw [← HZ.out.2.1] at this; exact this)
    have HRO := Lib.hid (And.intro hvr (And.intro hres (show ro.length ≤ 200 by have := HY.out.2; omega)))
    clear hsr hrb hvr hrl hkl hres
    (try simp only [zL])
    obtain ⟨w9, rfl⟩ : ∃ w9 : World, w9 = wn := ⟨_, rfl⟩
    iterate 5 (refine sq_val (v := ?_) (by simp only [zK]; rfl) (by rfl) ?_ ?_; rotate_left; (next => go_simp; try with_reducible rfl); try simp only [zL])
    refine sq_nil ?_
    go_upto_region 11 with fail
    have Lkp4 := lt_size kp4
    have Lkp8 := lt_size kp8
    refine wp_pass0 (C := fun _ _ v => v = .bool false) (κ := fun i => [0, 2].getD i 0) [0, 1] (by kernel_rfl) (by kernel_rfl) (fun _ _ d _ _ h => by cases d <;> first | exact h | exact absurd h (hP _ _ _)) ?_
    (refine TD.val0 (v := ?_) (by simp only [zK]; rfl) rfl (by rfl) (fun w1 => ?_) ?_; rotate_left; (next => go_simp; try with_reducible rfl); try simp only [zL])
    (refine TD.call (f := ?f89) (args := ?r89) (Mod.refl _ _) (by simp only [zK]; rfl) rfl (by rfl) (fun w1 => ?y89) ?hsp89 ?n89; (case y89 => (go_simp; (first | with_reducible rfl | (constructor <;> with_reducible rfl)))); (case hsp89 => (intro wq hSq; have kp4q := hSq.at kp4 (fun h => h); have kp8q := hSq.at kp8 (fun h => h); exact (wrong_c 0 wq).mono (fun e w' h => ⟨_, by rw [h.1]; rfl, rfl, by rw [h.2]; exact Mod.refl _ _⟩))); rintro _ hC; subst hC; try simp only [zL])
    refine TD.nil (fun wq2 hr => ?_)
    replace kp4 := hr.mod.at kp4 (fun h => h)
    replace kp8 := hr.mod.at kp8 (fun h => h)
    have HM10 := Lib.hid (HM9.out.then0 hr.mod)
    have HO10 := Lib.hid (HO9.out.mod0 hr.mod)
    have HRO10 := Lib.hid (HRO.out.1.mod0 hr.mod)
    have HS10 := Lib.hid hr.mod.size
    clear hr
    obtain ⟨w10, rfl⟩ : ∃ w10 : World, w10 = wq2 := ⟨_, rfl⟩
    obtain ⟨bd, hbd, hbg⟩ := budP_bg (msgP z) (by have := HZ.out.2.2.1.2.2.1.1; simp only [txP, msgP, List.length_map] at this ⊢; omega)
    have HBG := Lib.hid (And.intro hbd hbg)
    obtain ⟨bu, hbu⟩ : ∃ bu, (budP (msgP z)).units = bu := ⟨_, rfl⟩
    obtain ⟨bp, hbp⟩ : ∃ bp, (budP (msgP z)).price = bp := ⟨_, rfl⟩
    rw [hbu, hbp] at hbg
    have HBU := Lib.hid (And.intro hbg (And.intro hbu hbp))
    clear hbd hbg hbu hbp
    obtain ⟨rl, hrl⟩ : ∃ rl, ro.length = rl := ⟨_, rfl⟩
    have hby : ∀ a1 : Option Addr, ∀ w, _ := fun a1 w => bldRyR z a1 ra l ll ro rl bu bp bd HLL.out hrl w
    have HRL := Lib.hid hrl
    rw [hrl]
    clear hrl
    go_upto_region 13 with fail
    have Lkp4 := lt_size kp4
    have Lkp8 := lt_size kp8
    refine wp_gpass (T0 := fun _ => False) (K := fun _ _ => True) (κ := fun i => [0, 6, 6, 0, 0, 0, 0, 6, 0, 3, 4].getD i 0) (υ := fun _ => []) [0, 1, 2, 3, 4, 5, 6, 7, 8, 9, 10] (by kernel_rfl) (by kernel_rfl) (Good.true).cl (trivial) (fun _ h => h.elim) ?_
    have gK := Good.true
    (refine TG.v0 (v := ?_) (by simp only [zK]; rfl) rfl (by rfl) (fun w1 => ?_) ?_; rotate_left; (next => go_simp; try with_reducible rfl); try simp only [zL])
    (refine TG.callM (f := ?f91) (args := ?r91) (ClL l ll w10.heap.size) (goodCl l ll w10.heap.size) gK (by simp only [zK]; rfl) rfl (by rfl) (fun w1 => ?y91) (fun T wq kq ltq hSq ub => ?hsp91) ?n91; (case y91 => (go_simp; (first | with_reducible rfl | (constructor <;> with_reducible rfl)))); (case hsp91 => (have kp4q := hSq.at kp4 (fun h => h); have kp8q := hSq.at kp8 (fun h => h); exact (by have h := cloneY_c (c := c) (HL.out.1.mod0 (HM10.out.then0 hSq)) (by have := HL.out.2.2.2.1; omega); rw [HLL.out] at h; exact h.mono (fun e w' h => by obtain ⟨v, h1, h2, h3⟩ := h; exact ⟨_, h1, h3, clL h2 hSq.size HLL.out⟩)))); rintro v91 ⟨wI, TI, hI⟩; replace gK := gK.and ((goodCl l ll w10.heap.size) v91); obtain ⟨a61, c61, rfl, hcl, -, -⟩ := hI.k.2; (try clear hI TI wI); try simp only [zL])
    (refine TG.callN (f := ?f92) (args := ?r92) (fun v => v = .slice a61 ll ll) gK (by simp only [zK]; rfl) rfl (by rfl) (fun w1 => ?y92) (fun T wq kq ltq hSq ub => ?hsp92) ?n92; (case y92 => (go_simp; (first | with_reducible rfl | (constructor <;> with_reducible rfl)))); (case hsp92 => (have kp4q := hSq.at kp4 (fun h => h); have kp8q := hSq.at kp8 (fun h => h); exact (clipY_c _ _ _ hcl).mono (fun e w' h => ⟨_, h.1, rfl, by rw [h.2]; exact Mod.refl _ _⟩))); rintro v92 hC; subst hC; try simp only [zL])
    (refine TG.load (v := ?v93) (p := ?p93) (by simp only [zK]; rfl) rfl (by rfl) rfl ?hx93 (fun wq hSq => ?y93) ?n93; (case hx93 => simp only [zM]; try rfl); (case y93 => (have kp4q := hSq.at kp4 (fun h => h); have kp8q := hSq.at kp8 (fun h => h); go_simp; (try with_reducible rfl))); try simp only [zL])
    iterate 2 (refine TG.v0 (v := ?_) (by simp only [zK]; rfl) rfl (by rfl) (fun w1 => ?_) ?_; rotate_left; (next => go_simp; try with_reducible rfl); try simp only [zL])
    (refine TG.load (v := ?v96) (p := ?p96) (by simp only [zK]; rfl) rfl (by rfl) rfl ?hx96 (fun wq hSq => ?y96) ?n96; (case hx96 => simp only [zM]; try rfl); (case y96 => (have kp4q := hSq.at kp4 (fun h => h); have kp8q := hSq.at kp8 (fun h => h); go_simp; (try with_reducible rfl))); try simp only [zL])
    (refine TG.callN (f := ?f97) (args := ?r97) (fun v => v = .agg (bgR bu bp bd.toInt)) gK (by simp only [zK]; rfl) rfl (by rfl) (fun w1 => ?y97) (fun T wq kq ltq hSq ub => ?hsp97) ?n97; (case y97 => (go_simp; (first | with_reducible rfl | (constructor <;> with_reducible rfl)))); (case hsp97 => (have kp4q := hSq.at kp4 (fun h => h); have kp8q := hSq.at kp8 (fun h => h); exact (budgetOf_c z wq (HR.out.2.mod0 (HM10.out.then0 hSq)) ((HO10.out.mod0 hSq).rd HZ.out.2.2.1).2.1.1 ((HO10.out.mod0 hSq).rd HZ.out.2.2.1).2.1.2 ((HO10.out.mod0 hSq).rd HZ.out.2.2.1).2.2.1.1 ((HO10.out.mod0 hSq).da HZ.out.2.2.1) ((HO10.out.mod0 hSq).rd HZ.out.2.2.1).2.2.1.2.1).mono (fun e w' h => ⟨_, by rw [h.1, HBU.out.1], rfl, h.2⟩))); rintro v97 hC; subst hC; try simp only [zL])
    (refine TG.build (v := ?v98) (ps := ?p98) (by simp only [zK]; rfl) rfl (by rfl) rfl ?hx98 (fun w1 => ?y98) ?n98; (case hx98 => (simp only [List.map_toArray, List.map_cons, List.map_nil, zM]; (try rfl))); (case y98 => (rw [(hby a61)]; (try with_reducible rfl))); try simp only [zL])
    (refine TG.allocB (by simp only [zK]; rfl) rfl (by rfl) rfl rfl alRdy (fun p13 hp13 _ => ?n99); try simp only [zL])
    (refine TG.storeB (d := ?d100) (T := ?T100) (y := ?y100) (p := ?p100) (b := ?b100) (v := ?v100) (by simp only [zK]; rfl) rfl (by rfl) ?hd100 ?hop100 ?hev100 ?hx100 ?hb100 ?htag100 (fun w1 hb1 => ?hy100) ?hn100; (case hd100 => rfl); (case hop100 => rfl); (case hev100 => (simp only [zM]; (try rfl))); (case hx100 => simp only [zM]; try rfl); (case hb100 => first | exact Bx.set_same _ _ _ | (simp only [Bx.set_same]; rfl)); (case htag100 => rfl); (case hy100 => (go_simp; (try first | with_reducible rfl | (rw [setCell_blk hb1]; rfl)))); try simp only [zL])
    refine TG.nil (fun w11 ⟨TR, hr⟩ => ?_)
    replace kp4 := hr.mod.at kp4 (fun h => h)
    replace kp8 := hr.mod.at kp8 (fun h => h)
    have kp13 := hr.box p13 _ (by first | exact Bx.set_same _ _ _ | (simp only [Bx.set_same]; rfl)); dsimp only [Value.cells] at kp13; obtain ⟨gp13, nTp13, kp13⟩ := kp13
    clear gK
    obtain ⟨aq, cq, eq, -, hN, hT⟩ := hr.k.2
    injection eq with eq1 eq2 eq3
    subst eq1
    clear eq2 eq3
    have HN11 := Lib.hid hN
    have HM11 := Lib.hid (HM10.out.then0 hr.mod)
    have HO11 := Lib.hid (HO10.out.mod0 hr.mod)
    have HRO11 := Lib.hid (HRO10.out.mod0 hr.mod)
    have HP13 : Hid (p13 ≠ p4 ∧ p13 ≠ p8 ∧ w10.heap.size ≤ p13 ∧ w.heap.size ≤ p13) := Lib.hid ⟨by omega, by omega, gp13, Nat.le_trans HM10.out.size gp13⟩
    have HK11 : Hid (∀ p, (p = p13 ∨ p = p4) → ∃ R, w11.heap[p]? = some (.cells R 41 (0, 0))) := Lib.hid (fun p hp => by rcases hp with rfl | rfl; exact ⟨_, kp13⟩; exact ⟨_, kp4⟩)
    clear hr hT hN hcl hby
    obtain ⟨sn, hsn⟩ : ∃ sn, z.sg.l.length = sn := ⟨_, rfl⟩
    have HSN : Hid (z.sg.l.length = sn ∧ sn < 1000000) := Lib.hid ⟨hsn, by have := HZ.out.2.2.1.1; simp only [txP] at this; omega⟩
    have hs0 : (txr z)[0]? = some (.slice z.sg.a sn z.sg.c) := by rw [txr0, hsn]
    have hs0' : ∀ h : 0 < (txr z).size, (txr z)[0] = .slice z.sg.a sn z.sg.c := fun h => at_get hs0 h
    clear hsn
    go_upto_region 14 with fail
    have Lkp4 := lt_size kp4
    have Lkp8 := lt_size kp8
    have Lkp13 := lt_size kp13
    refine wp_pass0 (C := fun _ _ _ => False) (κ := fun i => [0, 1, 0, 0].getD i 0) [0, 1, 2, 3] (by kernel_rfl) (by kernel_rfl) (fun _ _ d _ _ h => by cases d <;> first | exact h | exact absurd h (hP _ _ _)) ?_
    iterate 4 first | (refine TD.val0 (v := ?_) (by simp only [zK]; rfl) rfl (by rfl) (fun w1 => ?_) ?_; rotate_left; (next => go_simp; try with_reducible rfl); try simp only [zL]) | (refine TD.load (v := ?_) (p := ?_) (Mod.refl _ _) (by simp only [zK]; rfl) rfl (by rfl) rfl ?_ (fun wq hSq => ?_) ?_; rotate_left 2; (next => simp only [zM]; try rfl); (next => have kp4q := hSq.at kp4 (fun h => h); have kp8q := hSq.at kp8 (fun h => h); have kp13q := hSq.at kp13 (fun h => h); go_simp; try with_reducible rfl); try simp only [zL])
    refine TD.nil (fun w12 hr => ?_)
    replace kp4 := hr.mod.at kp4 (fun h => h)
    replace kp8 := hr.mod.at kp8 (fun h => h)
    replace kp13 := hr.mod.at kp13 (fun h => h)
    have HM12 := Lib.hid (HM11.out.then0 hr.mod)
    have HS12 := Lib.hid hr.mod
    clear hr
    obtain ⟨fe, hfe⟩ : ∃ fe, feeF (UInt64.ofNat sn) bu bp = fe := ⟨_, rfl⟩
    have HFE := Lib.hid hfe
    clear hfe
    have hbg0 := ryR_bg z a61 ra l ll ro rl bu bp bd 0 0 0
    go_upto_region 15 with fail
    have Lkp4 := lt_size kp4
    have Lkp8 := lt_size kp8
    have Lkp13 := lt_size kp13
    refine wp_pass0 (C := fun _ _ v => v = u64v fe) (κ := fun i => [0, 0, 1, 2, 0, 5].getD i 0) [0, 1, 2, 3, 4, 5] (by kernel_rfl) (by kernel_rfl) (fun _ _ d _ _ h => by cases d <;> first | exact h | exact absurd h (hP _ _ _)) ?_
    iterate 3 first | (refine TD.val0 (v := ?_) (by simp only [zK]; rfl) rfl (by rfl) (fun w1 => ?_) ?_; rotate_left; (next => go_simp; try with_reducible rfl); try simp only [zL]) | (refine TD.load (v := ?_) (p := ?_) (Mod.refl _ _) (by simp only [zK]; rfl) rfl (by rfl) rfl ?_ (fun wq hSq => ?_) ?_; rotate_left 2; (next => simp only [zM]; try rfl); (next => have kp4q := hSq.at kp4 (fun h => h); have kp8q := hSq.at kp8 (fun h => h); have kp13q := hSq.at kp13 (fun h => h); go_simp; try with_reducible rfl); try simp only [zL])
    (refine TD.call (f := ?f108) (args := ?r108) (Mod.refl _ _) (by simp only [zK]; rfl) rfl (by rfl) (fun w1 => ?y108) ?hsp108 ?n108; (case y108 => (go_simp; (first | with_reducible rfl | (constructor <;> with_reducible rfl)))); (case hsp108 => (intro wq hSq; have kp4q := hSq.at kp4 (fun h => h); have kp8q := hSq.at kp8 (fun h => h); have kp13q := hSq.at kp13 (fun h => h); exact (fee_c sn HSN.out.2 bu bp bd.toInt wq).mono (fun e w' h => ⟨_, h.1, by rw [HFE.out], h.2⟩))); rintro _ hC; subst hC; try simp only [zL])
    (refine TD.val0 (v := ?_) (by simp only [zK]; rfl) rfl (by rfl) (fun w1 => ?_) ?_; rotate_left; (next => go_simp; try with_reducible rfl); try simp only [zL])
    refine TD.eff (by simp only [zK]; rfl) rfl (fun wE hr => ?_)
    replace kp4 := hr.mod.at0 kp4
    replace kp8 := hr.mod.at0 kp8
    replace kp13 := hr.mod.at0 kp13
    have mE := hr.mod
    (refine eff_store (X := ?X110) (Y := ?Y110) (w' := ?w110) (by simp only [zK]; rfl) (by rfl) rfl ?hx110 ?hz110 ?y110 ?n110; (case hx110 => simp only [zM]; try rfl); (case hz110 => simp only [zM]; try rfl); (case y110 => go_simp; try with_reducible rfl))
    (first | refine TE.nil_set kp13 (fun w13 kp13 mS => ?_) | refine TE.nil_setCell kp13 (fun w13 kp13 mS => ?_))
    replace kp4 := mS.at_ne kp4 (by omega)
    replace kp8 := mS.at_ne kp8 (by omega)
    have HA13 : Hid (Mod (fun i => i = p13 ∨ i = p4) w11 w13) := Lib.hid (((HS12.out.trans mE).mono (fun _ _ h => h.elim)).trans (mS.mono (fun _ _ h => .inl h)))
    clear hr mE mS hbg0 hs0 hs0'
    rw [ryR_fee] at kp13
    have hun := ryR42 z a61 ra l ll ro rl bu bp bd fe 0 0
    have hun' := ryR42' z a61 ra l ll ro rl bu bp bd fe 0 0
    obtain ⟨wn2, hwn2⟩ : ∃ n, (wrL ro).length = n := ⟨_, rfl⟩
    have HWN := Lib.hid (And.intro hwn2 (show wn2 ≤ 200 by have := wrL_len ro; have := HRO.out.2.2; omega))
    obtain ⟨co, hco⟩ : ∃ co, coF (UInt64.ofNat sn) (UInt64.ofNat wn2) (dSum z.ins.l) bu = co := ⟨_, rfl⟩
    have HCO := Lib.hid hco
    clear hwn2 hco
    have HO13 : Hid (TxO w3.heap.size w13 z) := Lib.hid (HO11.out.mod HA13.out (ry_apt HK11.out))
    have hv13 := HRO11.out.mod HA13.out (ry_new HRO11.out (by decide) HK11.out)
    rw [HRL.out] at hv13
    have HRO13 : Hid (SlAt rcr 34 w13 ra ro) := Lib.hid (ns_rd hv13)
    clear hv13
    go_upto_region 16 with fail
    have Lkp4 := lt_size kp4
    have Lkp8 := lt_size kp8
    have Lkp13 := lt_size kp13
    refine wp_epass (T0 := fun _ => False) (K := fun _ _ => True) (κ := fun i => [0, 0, 6, 0, 0, 0, 0, 6, 0, 6].getD i 0) (υ := fun _ => []) [0, 1, 2, 3, 4, 5, 6, 7, 8] [9] (by kernel_rfl) (by kernel_rfl) (Good.true).cl (trivial) (fun _ h => h.elim) ?_
    have gK := Good.true
    (refine TG.load (v := ?v111) (p := ?p111) (by simp only [zK]; rfl) rfl (by rfl) rfl ?hx111 (fun wq hSq => ?y111) ?n111; (case hx111 => simp only [zM]; try rfl); (case y111 => (have kp4q := hSq.at kp4 (fun h => h); have kp8q := hSq.at kp8 (fun h => h); have kp13q := hSq.at kp13 (fun h => h); exact (ldTxr kp8q))); try simp only [zL])
    (refine TG.v0 (v := ?_) (by simp only [zK]; rfl) rfl (by rfl) (fun w1 => ?_) ?_; rotate_left; (next => go_simp; try with_reducible rfl); try simp only [zL])
    (refine TG.callN (f := ?f113) (args := ?r113) (fun v => ∃ a, v = .slice a wn2 wn2) gK (by simp only [zK]; rfl) rfl (by rfl) (fun w1 => ?y113) (fun T wq kq ltq hSq ub => ?hsp113) ?n113; (case y113 => (go_simp; (first | with_reducible rfl | (constructor <;> with_reducible rfl)))); (case hsp113 => (have kp4q := hSq.at kp4 (fun h => h); have kp8q := hSq.at kp8 (fun h => h); have kp13q := hSq.at kp13 (fun h => h); exact (by have h := written_c ra ro rl wq (HRO13.out.mod0 hSq) (by have := HRO.out.2.2; omega); rw [HRL.out] at h; exact h.mono (fun e w' h => by obtain ⟨v, h1, h2, h3⟩ := h; obtain ⟨a, h4, _⟩ := h2.at; rw [HWN.out.1] at h4; exact ⟨_, h1, ⟨a, h4⟩, h3⟩)))); rintro v113 hC; obtain ⟨a80, rfl⟩ := hC; try simp only [zL])
    iterate 3 (refine TG.v0 (v := ?_) (by simp only [zK]; rfl) rfl (by rfl) (fun w1 => ?_) ?_; rotate_left; (next => go_simp; try with_reducible rfl); try simp only [zL])
    (refine TG.load (v := ?v117) (p := ?p117) (by simp only [zK]; rfl) rfl (by rfl) rfl ?hx117 (fun wq hSq => ?y117) ?n117; (case hx117 => simp only [zM]; try rfl); (case y117 => (have kp4q := hSq.at kp4 (fun h => h); have kp8q := hSq.at kp8 (fun h => h); have kp13q := hSq.at kp13 (fun h => h); go_simp; (try with_reducible rfl))); try simp only [zL])
    (refine TG.callN (f := ?f118) (args := ?r118) (fun v => v = u64v co) gK (by simp only [zK]; rfl) rfl (by rfl) (fun w1 => ?y118) (fun T wq kq ltq hSq ub => ?hsp118) ?n118; (case y118 => (go_simp; (first | with_reducible rfl | (constructor <;> with_reducible rfl)))); (case hsp118 => (have kp4q := hSq.at kp4 (fun h => h); have kp8q := hSq.at kp8 (fun h => h); have kp13q := hSq.at kp13 (fun h => h); exact (by have h := of_c z wn2 bu (by have := HWN.out.2; omega) wq ((HO13.out.mod0 hSq).rd HZ.out.2.2.1).2.2.1.1 (by have := ((HO13.out.mod0 hSq).rd HZ.out.2.2.1).2.2.1.2.1; omega) (by have := HSN.out; omega) (fun i hi => by have := (((HO13.out.mod0 hSq).rd HZ.out.2.2.1).2.2.1.2.2 i hi).2.2; omega); rw [HSN.out.1, HCO.out] at h; exact h.mono (fun e w' h => ⟨_, h.1, rfl, h.2⟩)))); rintro v118 hC; subst hC; try simp only [zL])
    (refine TG.v0 (v := ?_) (by simp only [zK]; rfl) rfl (by rfl) (fun w1 => ?_) ?_; rotate_left; (next => go_simp; try with_reducible rfl); try simp only [zL])
    refine TG.nil (fun w14 ⟨TR, hr⟩ => ?_)
    replace kp4 := hr.mod.at kp4 (fun h => h)
    replace kp8 := hr.mod.at kp8 (fun h => h)
    replace kp13 := hr.mod.at kp13 (fun h => h)
    clear gK
    have HA14 : Hid (Mod (fun i => i = p13 ∨ i = p4) w11 w14) := Lib.hid (HA13.out.trans (hr.mod.mono (fun _ _ h => h.elim)))
    clear hr
    refine TE.step (by simp only [zK]; rfl) rfl ?_
    (refine eff_store (X := ?X120) (Y := ?Y120) (w' := ?w120) (by simp only [zK]; rfl) (by rfl) rfl ?hx120 ?hz120 ?y120 ?n120; (case hx120 => simp only [zM]; try rfl); (case hz120 => simp only [zM]; try rfl); (case y120 => go_simp; try with_reducible rfl))
    (first | refine TE.nil_set kp13 (fun wn kp13 mS => ?_) | refine TE.nil_setCell kp13 (fun wn kp13 mS => ?_))
    rw [ryR_cost] at kp13
    have HA15 : Hid (Mod (fun i => i = p13 ∨ i = p4) w11 wn) := Lib.hid (HA14.out.trans (mS.mono (fun _ _ h => .inl h)))
    replace kp4 := mS.at_ne kp4 (fun e => HP13.out.1 e.symm)
    clear mS hun hun'
    obtain ⟨w15, rfl⟩ : ∃ w15 : World, w15 = wn := ⟨_, rfl⟩
    obtain ⟨pi, hpi⟩ : ∃ pi, priF (UInt64.ofNat sn) bu bp co = pi := ⟨_, rfl⟩
    have HPI := Lib.hid hpi
    clear hpi
    have hbg0 := ryR_bg z a61 ra l ll ro rl bu bp bd fe co 0
    have h46 := ryR46 z a61 ra l ll ro rl bu bp bd fe co 0
    have h46' := ryR46' z a61 ra l ll ro rl bu bp bd fe co 0
    go_upto_region 17 with fail
    have Lkp4 := lt_size kp4
    have Lkp13 := lt_size kp13
    refine wp_pass0 (C := fun _ _ v => v = u64v pi) (κ := fun i => [0, 0, 1, 0, 1, 2, 0, 5].getD i 0) [0, 1, 2, 3, 4, 5, 6, 7] (by kernel_rfl) (by kernel_rfl) (fun _ _ d _ _ h => by cases d <;> first | exact h | exact absurd h (hP _ _ _)) ?_
    iterate 5 first | (refine TD.val0 (v := ?_) (by simp only [zK]; rfl) rfl (by rfl) (fun w1 => ?_) ?_; rotate_left; (next => go_simp; try with_reducible rfl); try simp only [zL]) | (refine TD.load (v := ?_) (p := ?_) (Mod.refl _ _) (by simp only [zK]; rfl) rfl (by rfl) rfl ?_ (fun wq hSq => ?_) ?_; rotate_left 2; (next => simp only [zM]; try rfl); (next => have kp4q := hSq.at kp4 (fun h => h); have kp13q := hSq.at kp13 (fun h => h); go_simp; try with_reducible rfl); try simp only [zL])
    (refine TD.call (f := ?f126) (args := ?r126) (Mod.refl _ _) (by simp only [zK]; rfl) rfl (by rfl) (fun w1 => ?y126) ?hsp126 ?n126; (case y126 => (go_simp; (first | with_reducible rfl | (constructor <;> with_reducible rfl)))); (case hsp126 => (intro wq hSq; have kp4q := hSq.at kp4 (fun h => h); have kp13q := hSq.at kp13 (fun h => h); exact (prio_c sn HSN.out.2 bu bp co bd.toInt wq).mono (fun e w' h => ⟨_, h.1, by rw [HPI.out], h.2⟩))); rintro _ hC; subst hC; try simp only [zL])
    (refine TD.val0 (v := ?_) (by simp only [zK]; rfl) rfl (by rfl) (fun w1 => ?_) ?_; rotate_left; (next => go_simp; try with_reducible rfl); try simp only [zL])
    refine TD.eff (by simp only [zK]; rfl) rfl (fun wE hr => ?_)
    replace kp4 := hr.mod.at0 kp4
    replace kp13 := hr.mod.at0 kp13
    have mE := hr.mod
    (refine eff_store (X := ?X128) (Y := ?Y128) (w' := ?w128) (by simp only [zK]; rfl) (by rfl) rfl ?hx128 ?hz128 ?y128 ?n128; (case hx128 => simp only [zM]; try rfl); (case hz128 => simp only [zM]; try rfl); (case y128 => go_simp; try with_reducible rfl))
    (first | refine TE.nil_set kp13 (fun w16 kp13 mS => ?_) | refine TE.nil_setCell kp13 (fun w16 kp13 mS => ?_))
    replace kp4 := mS.at_ne kp4 (by omega)
    rw [ryR_prio] at kp13
    have HA16 : Hid (Mod (fun i => i = p13 ∨ i = p4) w11 w16) := Lib.hid ((HA15.out.trans (mE.mono (fun _ _ h => h.elim))).trans (mS.mono (fun _ _ h => .inl h)))
    clear hr mE mS hbg0 h46 h46'
    go_upto_region 18 with fail
    have Lkp4 := lt_size kp4
    have Lkp13 := lt_size kp13
    refine wp_pass0 (C := fun _ _ _ => False) (κ := fun i => [1, 5, 0].getD i 0) [0, 1, 2] (by kernel_rfl) (by kernel_rfl) (fun _ _ d _ _ h => by cases d <;> first | exact h | exact absurd h (hP _ _ _)) ?_
    (refine TD.load (v := ?v129) (p := ?p129) (Mod.refl _ _) (by simp only [zK]; rfl) rfl (by rfl) rfl ?hx129 (fun wq hSq => ?y129) ?n129; (case hx129 => simp only [zM]; try rfl); (case y129 => (have kp4q := hSq.at kp4 (fun h => h); have kp13q := hSq.at kp13 (fun h => h); exact (ldRdyR kp13q))); try simp only [zL])
    refine TD.eff (by simp only [zK]; rfl) rfl (fun w17 hr => ?_)
    replace kp4 := hr.mod.at kp4 (fun h => h)
    replace kp13 := hr.mod.at kp13 (fun h => h)
    have HA17 : Hid (Mod (fun i => i = p13 ∨ i = p4) w11 w17) := Lib.hid (HA16.out.trans (hr.mod.mono (fun _ _ h => h.elim)))
    clear hr
    (refine eff_store (X := ?X131) (Y := ?Y131) (w' := ?w131) (by simp only [zK]; rfl) (by rfl) rfl ?hx131 ?hz131 ?y131 ?n131; (case hx131 => simp only [zM]; try rfl); (case hz131 => simp only [zM]; try rfl); (case y131 => go_simp; try with_reducible rfl))
    (first | refine TE.mid_set kp4 (fun wn kp4 mS => ?_) | refine TE.mid_setCell kp4 (fun wn kp4 mS => ?_))
    have HA18 : Hid (Mod (fun i => i = p13 ∨ i = p4) w11 wn) := Lib.hid (HA17.out.trans (mS.mono (fun _ _ h => .inr h)))
    clear mS
    (refine TE.val0 (v := ?v132) (by simp only [zK]; rfl) (by rfl) (fun w1 => ?y132) ?n132; (case y132 => go_simp; try with_reducible rfl); try simp only [zL])
    refine TE.nil ?_
    go_wp2_with fail
    refine bodyPost_ret (results_ct rfl rfl (ldRdyR kp4)) rfl ?_
    have hOf := HO11.out.mod HA18.out (ry_apt HK11.out)
    have hRf := HRO11.out.mod HA18.out (ry_new HRO11.out (by decide) HK11.out)
    have hNf := HN11.out.mod HA18.out (ry_new HN11.out (by decide) HK11.out)
    rw [HRL.out] at hRf
    have hmf : Mod (fun _ => False) w wn := HM11.out.then HA18.out (fun i hi e => by
     have h1 := HP13.out.2.2.2
     have h2 := HP8.out.2.1
     have h3 := HGP4.out
     rcases e with rfl | rfl <;> omega)
    unfold ReaP
    refine ⟨hmf, ?_⟩
    have hready : readyP T l = .ok (tellP l (txP z) ro) := by
     unfold readyP
     rw [HZ.out.2.2.2.2]
     simp only
     rw [← HZ.out.2.1]
     show (match resP T (z.lks.l.map loP) ([], []) with | .error e => Except.error e | .ok (ws, rs) => _) = _
     rw [HY.out.1]
     show (match rolesP (msgP z) y.1 y.2 with | .error e => Except.error e | .ok ro => _) = _
     rw [HRO.out.2.1]
    rw [hready]
    have hcr : (Value.slice (ryR z a61 ra l ll ro rl bu bp bd fe co pi).ro.a (ryR z a61 ra l ll ro rl bu bp bd fe co pi).ro.l.length (ryR z a61 ra l ll ro rl bu bp bd fe co pi).ro.c) = .slice ra rl rl := by
     show Value.slice ra ro.length rl = _
     rw [HRL.out]
    have hcb : (Value.slice (ryR z a61 ra l ll ro rl bu bp bd fe co pi).b.a (ryR z a61 ra l ll ro rl bu bp bd fe co pi).b.l.length (ryR z a61 ra l ll ro rl bu bp bd fe co pi).b.c) = .slice a61 ll ll := by
     show Value.slice a61 l.length ll = _
     rw [HLL.out]
    refine ⟨ryR z a61 ra l ll ro rl bu bp bd fe co pi, rfl, ⟨hOf.base HM3.out.size, ?_, ?_, ?_, ?_, ?_⟩, ?_, HZ.out.2.2.1⟩
    ·show NewS uc 1 5 w.heap.size wn (.slice a61 l.length ll) l
     rw [HLL.out]
     exact hNf.base HM10.out.size
    ·show NewS rcr 34 91 w.heap.size wn (.slice ra ro.length rl) ro
     rw [HRL.out]
     exact hRf.base HM8.out.size
    ·intro g hg h hh
     have h1 := (HO8.out.blk g hg).2
     rw [hcr] at hh
     have h2 := (hRf.lt h hh).1
     omega
    ·intro g hg h hh
     have h1 := (HO10.out.blk g hg).2
     rw [hcb] at hh
     have h2 := (hNf.lt h hh).1
     omega
    ·intro g h hg hh
     rw [hcr] at hg
     have hr10 := HRO10.out
     rw [HRL.out] at hr10
     have h1 := (hr10.lt g hg).2
     rw [hcb] at hh
     have h2 := (hNf.lt h hh).1
     omega
    ·unfold ryP tellP
     show (⟨l, txP z, ro, bu, bp, bd.toInt, fe, co, pi⟩ : RyP) = _
     have e1 : (budP (txP z).m).units = bu := HBU.out.2.1
     have e2 : (budP (txP z).m).price = bp := HBU.out.2.2
     have e3 : bd.toInt = (budP (txP z).m).badI := HBG.out.1
     have e4 : UInt64.ofNat (txP z).sg.length = UInt64.ofNat sn := congrArg UInt64.ofNat HSN.out.1
     have e5 : dSumP (txP z).m.ins = dSum z.ins.l := (dSum_P z.ins.l).symm
     simp only [e1, e2, e4, e5, HWN.out.1]
     rw [HCO.out, HFE.out, HPI.out, e3]
end Go.Proofs.YtiaehkkkcaeaiaaGreatDoor
namespace Go.Proofs.YtiaehkkkcaeaiaaGreatDoor
open Go.RowKit
open Go.ChangeMaps (setBlock)
attribute [local go_sem ↓] wlKey ldKey stKey ldSg stSg wlTc ldTc stTc eqKey1
attribute [local go_sem] cell_blk frozen_blk kc_ext one_int one_bool one_ptr one_slice one_map kc_one kc_one0 kc_size zKey_size sgc_size sgc_ext sgc_one0 sgc_one' txr_size txr_all txr_one txr_one' txr0 txr38 txr39 txr0' txr38' txr39' zTx_size Value.cells
attribute [local go_sem ↓] wlMsg ldMsg stMsg
def exK (n : UInt8) : Key := ⟨n :: List.replicate 31 0, rfl⟩
def sg0 : Sg := ⟨List.replicate 64 0, rfl⟩
def exR (p4 p8 p9 p11 : Nat) : RdR := ⟨⟨none, [], 0⟩, ⟨some ⟨p4, 0, none⟩, [sg0], 1⟩, false, 1, 0, 0, ⟨some ⟨p8, 0, none⟩, [exK 1, exK 2], 2⟩, key0, ⟨some ⟨p11, 0, none⟩, [⟨1, ⟨some ⟨p9, 0, none⟩, [0], 1⟩, ⟨none, [], 0⟩⟩], 1⟩, ⟨none, [], 0⟩, ⟨none, [], 0⟩, 0, 0, 0, 0, 0, 0⟩
def exX : TxP := ⟨[sg0], ⟨false, 1, 0, 0, [exK 1, exK 2], key0, [⟨1, [0], []⟩], []⟩⟩
def exB : List UInt8 := putT exX
theorem exR_tx (p4 p8 p9 p11 : Nat) : txP (exR p4 p8 p9 p11) = exX := rfl
theorem exMk (w : World) : (Instr.makeSlice 24 (.int .i64 1) (.int .i64 1)).run Tryz.prog w = .ok (.slice (some ⟨w.heap.size, 0, none⟩) 1 1) (w.alloc (.cells zSg 101)) := by kernel_rfl
theorem exH (w : World) : (Instr.build 26 #[(0, .int .u8 1)]).run Tryz.prog w = .ok (.agg #[.int .u8 1, .int .u8 0, .int .u8 0]) w := by kernel_rfl
theorem exK1 (w : World) : (Instr.build 82 #[(0, .int .u8 1)]).run Tryz.prog w = .ok (.agg (kc (exK 1))) w := by kernel_rfl
theorem exK2 (w : World) : (Instr.build 82 #[(0, .int .u8 2)]).run Tryz.prog w = .ok (.agg (kc (exK 2))) w := by kernel_rfl
theorem exKs (w : World) : (Instr.buildSlice 27 2 #[(0, .agg (kc (exK 1))), (1, .agg (kc (exK 2)))]).run Tryz.prog w = .ok (.slice (some ⟨w.heap.size, 0, none⟩) 2 2) (w.alloc (.cells (kc (exK 1) ++ kc (exK 2)) 82)) := by kernel_rfl
theorem exB0 (w : World) : (Instr.buildSlice 22 1 #[(0, .int .u8 0)]).run Tryz.prog w = .ok (.slice (some ⟨w.heap.size, 0, none⟩) 1 1) (w.alloc (.cells #[u8v 0] 5)) := by kernel_rfl
theorem exI (p : Nat) (w : World) : (Instr.build 125 #[(0, .int .u8 1), (1, .slice (some ⟨p, 0, none⟩) 1 1)]).run Tryz.prog w = .ok (.agg (inr ⟨1, ⟨some ⟨p, 0, none⟩, [0], 1⟩, ⟨none, [], 0⟩⟩)) w := by kernel_rfl
theorem exIs (p : Nat) (w : World) : (Instr.buildSlice 30 1 #[(0, .agg (inr ⟨1, ⟨some ⟨p, 0, none⟩, [0], 1⟩, ⟨none, [], 0⟩⟩))]).run Tryz.prog w = .ok (.slice (some ⟨w.heap.size, 0, none⟩) 1 1) (w.alloc (.cells (inr ⟨1, ⟨some ⟨p, 0, none⟩, [0], 1⟩, ⟨none, [], 0⟩⟩) 125)) := by kernel_rfl
theorem exM (p4 p8 p9 p11 : Nat) (w : World) : (Instr.build 33 #[(1, .agg #[.int .u8 1, .int .u8 0, .int .u8 0]), (2, .slice (some ⟨p8, 0, none⟩) 2 2), (4, .slice (some ⟨p11, 0, none⟩) 1 1)]).run Tryz.prog w = .ok (.agg (msr (exR p4 p8 p9 p11))) w := by kernel_rfl
theorem exT (p4 p8 p9 p11 : Nat) (w : World) : (Instr.build 35 #[(0, .slice (some ⟨p4, 0, none⟩) 1 1), (1, .agg (msr (exR p4 p8 p9 p11)))]).run Tryz.prog w = .ok (.agg (txr (exR p4 p8 p9 p11))) w := by kernel_rfl
theorem exLen : (putT exX).length = 170 := by kernel_rfl
def exRo : List Role := [⟨exK 1, true, true⟩, ⟨exK 2, false, true⟩]
theorem exReady : readyP [] exB = .ok (tellP exB exX exRo) := by kernel_rfl
theorem exTell : (tellP exB exX exRo).u = 200000 ∧ (tellP exB exX exRo).p = 0 ∧ (tellP exB exX exRo).bad = -1 ∧ (tellP exB exX exRo).fee = 5000 ∧ (tellP exB exX exRo).cost = 201320 ∧ (tellP exB exX exRo).pri = 12417 := ⟨by kernel_rfl, by kernel_rfl, by kernel_rfl, by kernel_rfl, by kernel_rfl, by kernel_rfl⟩
theorem exShort : readyP [] [0] = .error 5 := by kernel_rfl
theorem exTB : TxB exX := ⟨by decide, by decide, ⟨by decide, fun x h => by rw [List.mem_singleton.1 h]; exact ⟨by decide, by decide⟩⟩, by decide, fun x h => by cases h⟩
theorem keys_at {w : World} {p : Nat} {U : TypeId} {fr : Nat × Nat} {a b : Key} (h : w.heap[p]? = some (.cells (kc a ++ kc b) U fr)) : SlAt kc 32 w (some ⟨p, 0, none⟩) [a, b] := by
 refine .inr ⟨p, 0, _, U, fr, rfl, h, fun i x hx => ?_⟩
 rcases i with _ | _ | i
 ·cases hx
  refine ⟨?_, by simp⟩
  rw [Array.extract_append]
  simp
 ·cases hx
  refine ⟨?_, by simp⟩
  rw [Array.extract_append]
  simp
  have h1 : (kc a).extract 32 32 = #[] := Array.eq_empty_of_size_eq_zero (by simp)
  rw [h1, kc_ext]
  simp
 ·cases hx
set_option maxRecDepth 20000 in
set_option maxHeartbeats 3200000 in
theorem example_c (w : World) : Calls Tryz.prog 32 #[] w fun e w' => ∃ a, e = .returned (.slice a 170 170) ∧ SlAt uc 1 w' a exB ∧ Mod (fun _ => False) w w' := by
 have hmk := exMk
 have hb5 := exH
 have hb6 := exK1
 have hb7 := exK2
 have hb8 := exKs
 have hb9 := exB0
 have hb10 := exI
 have hb11 := exIs
 have hb12 := exM
 have hb13 := exT
 go_enter Tryz.func32, Tryz.ntmps32
 go_upto_region 1 with fail
 refine wp_pass0 (C := fun _ _ _ => False) (κ := fun i => [3, 0, 0, 0, 3, 3, 0, 3, 0, 0, 5, 0, 0, 0, 0, 0].getD i 0) [0, 1, 2, 3, 4, 5, 6, 7, 8, 9, 10, 11, 12, 13, 14, 15] (by kernel_rfl) (by kernel_rfl) (fun _ _ d _ _ h => by cases d <;> first | exact h | exact absurd h (hP _ _ _)) ?_
 (refine TD.mks (by simp only [zK]; rfl) rfl (by rfl) rfl rfl ?hx1 ?hz1 hmk (fun p4 hp4 => ?n1); (case hx1 => simp only [zM]; try rfl); (case hz1 => simp only [zM]; try rfl); try simp only [zL])
 (refine TD.build (v := ?v2) (ps := ?p2) (by simp only [zK]; rfl) rfl (by rfl) rfl ?hx2 (fun w1 => ?y2) ?n2; (case hx2 => (simp only [List.map_toArray, List.map_cons, List.map_nil, zM]; (try rfl))); (case y2 => (rw [hb5]; (try with_reducible rfl))); try simp only [zL])
 (refine TD.build (v := ?v3) (ps := ?p3) (by simp only [zK]; rfl) rfl (by rfl) rfl ?hx3 (fun w1 => ?y3) ?n3; (case hx3 => (simp only [List.map_toArray, List.map_cons, List.map_nil, zM]; (try rfl))); (case y3 => (rw [hb6]; (try with_reducible rfl))); try simp only [zL])
 (refine TD.build (v := ?v4) (ps := ?p4) (by simp only [zK]; rfl) rfl (by rfl) rfl ?hx4 (fun w1 => ?y4) ?n4; (case hx4 => (simp only [List.map_toArray, List.map_cons, List.map_nil, zM]; (try rfl))); (case y4 => (rw [hb7]; (try with_reducible rfl))); try simp only [zL])
 (refine TD.bslice (by simp only [zK]; rfl) rfl (by rfl) rfl rfl ?hx5 hb8 (fun p8 hp8 => ?n5); (case hx5 => (simp only [List.map_toArray, List.map_cons, List.map_nil, zM]; (try rfl))); try simp only [zL])
 obtain ⟨ne_p8_p4, hp8⟩ := Bx.set_none hp8
 (refine TD.bslice (by simp only [zK]; rfl) rfl (by rfl) rfl rfl ?hx6 hb9 (fun p9 hp9 => ?n6); (case hx6 => (simp only [List.map_toArray, List.map_cons, List.map_nil, zM]; (try rfl))); try simp only [zL])
 obtain ⟨ne_p9_p8, hp9⟩ := Bx.set_none hp9
 obtain ⟨ne_p9_p4, hp9⟩ := Bx.set_none hp9
 (refine TD.build (v := ?v7) (ps := ?p7) (by simp only [zK]; rfl) rfl (by rfl) rfl ?hx7 (fun w1 => ?y7) ?n7; (case hx7 => (simp only [List.map_toArray, List.map_cons, List.map_nil, zM]; (try rfl))); (case y7 => (rw [hb10]; (try with_reducible rfl))); try simp only [zL])
 (refine TD.bslice (by simp only [zK]; rfl) rfl (by rfl) rfl rfl ?hx8 (hb11 p9) (fun p11 hp11 => ?n8); (case hx8 => (simp only [List.map_toArray, List.map_cons, List.map_nil, zM]; (try rfl))); try simp only [zL])
 obtain ⟨ne_p11_p9, hp11⟩ := Bx.set_none hp11
 obtain ⟨ne_p11_p8, hp11⟩ := Bx.set_none hp11
 obtain ⟨ne_p11_p4, hp11⟩ := Bx.set_none hp11
 (refine TD.build (v := ?v9) (ps := ?p9) (by simp only [zK]; rfl) rfl (by rfl) rfl ?hx9 (fun w1 => ?y9) ?n9; (case hx9 => (simp only [List.map_toArray, List.map_cons, List.map_nil, zM]; (try rfl))); (case y9 => (rw [(hb12 p4 p8 p9 p11)]; (try with_reducible rfl))); try simp only [zL])
 (refine TD.build (v := ?v10) (ps := ?p10) (by simp only [zK]; rfl) rfl (by rfl) rfl ?hx10 (fun w1 => ?y10) ?n10; (case hx10 => (simp only [List.map_toArray, List.map_cons, List.map_nil, zM]; (try rfl))); (case y10 => (rw [(hb13 p4 p8 p9 p11)]; (try with_reducible rfl))); try simp only [zL])
 refine TD.eff (by simp only [zK]; rfl) rfl (fun w1 hr => ?_)
 have kp4 := hr.box p4 _ (by first | exact Bx.set_same _ _ _ | (simp only [Bx.set_ne _ (Ne.symm ne_p8_p4), Bx.set_ne _ (Ne.symm ne_p9_p4), Bx.set_ne _ (Ne.symm ne_p9_p8), Bx.set_ne _ (Ne.symm ne_p11_p4), Bx.set_ne _ (Ne.symm ne_p11_p8), Bx.set_ne _ (Ne.symm ne_p11_p9), Bx.set_ne _ ne_p8_p4, Bx.set_ne _ ne_p9_p4, Bx.set_ne _ ne_p9_p8, Bx.set_ne _ ne_p11_p4, Bx.set_ne _ ne_p11_p8, Bx.set_ne _ ne_p11_p9, Bx.set_same]; rfl)); dsimp only [Value.cells] at kp4; obtain ⟨gp4, kp4⟩ := kp4
 have kp8 := hr.box p8 _ (by first | exact Bx.set_same _ _ _ | (simp only [Bx.set_ne _ (Ne.symm ne_p8_p4), Bx.set_ne _ (Ne.symm ne_p9_p4), Bx.set_ne _ (Ne.symm ne_p9_p8), Bx.set_ne _ (Ne.symm ne_p11_p4), Bx.set_ne _ (Ne.symm ne_p11_p8), Bx.set_ne _ (Ne.symm ne_p11_p9), Bx.set_ne _ ne_p8_p4, Bx.set_ne _ ne_p9_p4, Bx.set_ne _ ne_p9_p8, Bx.set_ne _ ne_p11_p4, Bx.set_ne _ ne_p11_p8, Bx.set_ne _ ne_p11_p9, Bx.set_same]; rfl)); dsimp only [Value.cells] at kp8; obtain ⟨gp8, kp8⟩ := kp8
 have kp9 := hr.box p9 _ (by first | exact Bx.set_same _ _ _ | (simp only [Bx.set_ne _ (Ne.symm ne_p8_p4), Bx.set_ne _ (Ne.symm ne_p9_p4), Bx.set_ne _ (Ne.symm ne_p9_p8), Bx.set_ne _ (Ne.symm ne_p11_p4), Bx.set_ne _ (Ne.symm ne_p11_p8), Bx.set_ne _ (Ne.symm ne_p11_p9), Bx.set_ne _ ne_p8_p4, Bx.set_ne _ ne_p9_p4, Bx.set_ne _ ne_p9_p8, Bx.set_ne _ ne_p11_p4, Bx.set_ne _ ne_p11_p8, Bx.set_ne _ ne_p11_p9, Bx.set_same]; rfl)); dsimp only [Value.cells] at kp9; obtain ⟨gp9, kp9⟩ := kp9
 have kp11 := hr.box p11 _ (by first | exact Bx.set_same _ _ _ | (simp only [Bx.set_ne _ (Ne.symm ne_p8_p4), Bx.set_ne _ (Ne.symm ne_p9_p4), Bx.set_ne _ (Ne.symm ne_p9_p8), Bx.set_ne _ (Ne.symm ne_p11_p4), Bx.set_ne _ (Ne.symm ne_p11_p8), Bx.set_ne _ (Ne.symm ne_p11_p9), Bx.set_ne _ ne_p8_p4, Bx.set_ne _ ne_p9_p4, Bx.set_ne _ ne_p9_p8, Bx.set_ne _ ne_p11_p4, Bx.set_ne _ ne_p11_p8, Bx.set_ne _ ne_p11_p9, Bx.set_same]; rfl)); dsimp only [Value.cells] at kp11; obtain ⟨gp11, kp11⟩ := kp11
 have HM1 := Lib.hid hr.mod
 have d1 : (1 : Nat) ≤ 1000000 := by decide
 have d2 : (2 : Nat) ≤ 1000000 := by decide
 have d0 : (0 : Nat) ≤ 1000000 := by decide
 have hrd : TxRd w1 (exR p4 p8 p9 p11) := ⟨⟨SlAt.one kp4 sg0 rfl rfl, d1⟩, ⟨keys_at kp8, d2⟩, ⟨SlAt.one kp11 _ rfl rfl, d1, fun i hi => by rw [List.mem_singleton.1 hi]; exact ⟨⟨SlAt.one kp9 (0 : UInt8) rfl rfl, d1⟩, .inl rfl, d0⟩⟩, .inl rfl, d0, fun i hi => by cases hi⟩
 have hC := pput_c (exR p4 p8 p9 p11) w1 hrd exTB (.inr ⟨rfl, show (1 : UInt8).toNat < 128 by decide⟩) (by rw [exR_tx, exLen]; decide)
 rw [exR_tx, exLen] at hC
 clear hr
 (refine eff_callT (by simp only [zK]; rfl) (by rfl) ?y12 hC ?hout (fun vn wn hR => ?hret) (fun ch wn hR => ?hpan); (case y12 => (go_simp; (try (first | with_reducible rfl | (constructor <;> with_reducible rfl))))))
 case hout =>
  rintro w' ⟨_, h, _⟩
  cases h
 case hpan =>
  obtain ⟨_, h, _⟩ := hR
  cases h
 case hret =>
 obtain ⟨a, e0, hat, hm⟩ := hR
 cases e0
 have HF := Lib.hid (And.intro hat (HM1.out.trans hm))
 clear hat hm hC
 (try simp only [zL])
 (refine TE.val0 (v := ?v13) (by simp only [zK]; rfl) (by rfl) (fun w1 => ?y13) ?n13; (case y13 => go_simp; try with_reducible rfl); try simp only [zL])
 (refine TE.val0 (v := ?v14) (by simp only [zK]; rfl) (by rfl) (fun w1 => ?y14) ?n14; (case y14 => go_simp; try with_reducible rfl); try simp only [zL])
 (refine TE.val0 (v := ?v15) (by simp only [zK]; rfl) (by rfl) (fun w1 => ?y15) ?n15; (case y15 => go_simp; try with_reducible rfl); try simp only [zL])
 (refine TE.val0 (v := ?v16) (by simp only [zK]; rfl) (by rfl) (fun w1 => ?y16) ?n16; (case y16 => go_simp; try with_reducible rfl); try simp only [zL])
 (refine TE.val0 (v := ?v17) (by simp only [zK]; rfl) (by rfl) (fun w1 => ?y17) ?n17; (case y17 => go_simp; try with_reducible rfl); try simp only [zL])
 refine TE.nil ?_
 go_wp2_with fail
 go_ret
 exact ⟨a, rfl, HF.out.1, HF.out.2⟩
end Go.Proofs.YtiaehkkkcaeaiaaGreatDoor
namespace Go.Proofs.YtiaehkkkcaeaiaaGreatDoor
open Go.RowKit
open Go.ChangeMaps (setBlock)
attribute [local go_sem ↓] wlKey ldKey stKey ldSg stSg wlTc ldTc stTc eqKey1
attribute [local go_sem] cell_blk frozen_blk kc_ext one_int one_bool one_ptr one_slice one_map kc_one kc_one0 kc_size zKey_size sgc_size sgc_ext sgc_one0 sgc_one' txr_size txr_all txr_one txr_one' txr0 txr38 txr39 txr0' txr38' txr39' zTx_size Value.cells
attribute [local go_sem ↓] wlRdy ldRdy stRdy ldBgd
attribute [local go_sem] rdr_size rdr_all rdr_one zRdy_size zRdy_one
theorem slat_some {w : World} {a : Option Addr} {l : List UInt8} (h : SlAt uc 1 w a l) (hl : l ≠ []) : (∀ x, a = some x → x.block < w.heap.size) ∧ a ≠ none := by
 rcases h with h | ⟨b, o, C, U, fr, rfl, hb, _⟩
 ·exact absurd h hl
 ·exact ⟨fun x e => by cases e; exact lt_size hb, fun e => by cases e⟩
theorem ReaP.out {T : TbL} {w w' : World} {l : List UInt8} (h : ReaP T w l .outgrown w') : False := by
 unfold ReaP at h
 split at h
 ·obtain ⟨_, _, h, _⟩ := h
  cases h
 ·cases h.2
theorem ReaP.pan {T : TbL} {w w' : World} {l : List UInt8} {ch : _} (h : ReaP T w l (.panicked ch) w') : False := by
 unfold ReaP at h
 split at h
 ·obtain ⟨_, _, h, _⟩ := h
  cases h
 ·cases h.2
theorem rdr45 (x : RdR) : (rdr x)[45]? = some (u64v x.fee) := mx_post 6
theorem rdr45' (x : RdR) (h : 45 < (rdr x).size) : (rdr x)[45] = u64v x.fee := at_get (rdr45 x) h
theorem eqBu (w : World) : (binOp .eql 39 (.agg #[.int .u64 200000, .int .u64 0, .int .i64 (-1)]) (.agg #[.int .u64 200000, .int .u64 0, .int .i64 (-1)])).run Tryz.prog w = .ok (.bool true) w := by kernel_rfl
theorem bBu (w : World) : (Instr.build 39 #[(0, .int .u64 200000), (2, .int .i64 (-1))]).run Tryz.prog w = .ok (.agg #[.int .u64 200000, .int .u64 0, .int .i64 (-1)]) w := by kernel_rfl
set_option maxRecDepth 20000 in
set_option maxHeartbeats 3200000 in
theorem lives_c (w : World) (hB : BudW w) : Calls Tryz.prog 8 #[] w fun e w' => e = .returned (.bool true) ∧ Mod (fun _ => False) w w' := by
 have HB := Lib.hid hB
 clear hB
 go_enter Tryz.func8, Tryz.ntmps8
 have hC := example_c w
 go_upto_region 1 with fail
 refine region_seq 9 rfl ?_
 simp only [List.range, List.range.loop]
 (refine sq_callT (by simp only [zK]; rfl) (by rfl) ?y1 hC ?hout (fun vn wn hR => ?hret) (fun ch wn hR => ?hpan); (case y1 => (go_simp; (try (first | with_reducible rfl | (constructor <;> with_reducible rfl))))))
 case hout =>
  rintro w' ⟨_, h, _⟩
  cases h
 case hpan =>
  obtain ⟨_, h, _⟩ := hR
  cases h
 case hret =>
 obtain ⟨a, e0, hat, hm⟩ := hR
 cases e0
 have HM1 := Lib.hid hm
 have HA := Lib.hid hat
 clear hC hat hm
 obtain ⟨w1, rfl⟩ : ∃ w1 : World, w1 = wn := ⟨_, rfl⟩
 have hC := newT_c w1
 (refine sq_callT (by simp only [zK]; rfl) (by rfl) ?y2 hC ?hout (fun vn wn hR => ?hret) (fun ch wn hR => ?hpan); (case y2 => (go_simp; (try (first | with_reducible rfl | (constructor <;> with_reducible rfl))))))
 case hout =>
  rintro w' ⟨_, _, h, _⟩
  cases h
 case hpan =>
  obtain ⟨_, _, h, _⟩ := hR
  cases h
 case hret =>
 obtain ⟨h, r, e0, hRA, hm⟩ := hR
 cases e0
 have HM2 := Lib.hid (HM1.out.trans hm)
 have HA2 := Lib.hid (HA.out.mod0 hm)
 have HRA := Lib.hid hRA
 clear hC hRA hm
 obtain ⟨w2, rfl⟩ : ∃ w2 : World, w2 = wn := ⟨_, rfl⟩
 have hexl : exB.length = 170 := exLen
 have hne : exB ≠ [] := fun e => by rw [e] at hexl; cases hexl
 have hC := ready_c (l := exB) (c := 170) w2 HRA.out (HB.out.mod0 HM2.out) HA2.out (by rw [hexl]; exact Nat.le_refl _) (fun e => absurd e (slat_some HA2.out hne).2) (by rw [hexl]; decide) (slat_some HA2.out hne).1
 rw [hexl] at hC
 clear hexl hne
 (try simp only [zL])
 (refine sq_callT (by simp only [zK]; rfl) (by rfl) ?y3 hC ?hout (fun vn wn hR => ?hret) (fun ch wn hR => ?hpan); (case y3 => (go_simp; (try (first | with_reducible rfl | (constructor <;> with_reducible rfl))))))
 case hout => exact fun w' h => h.out
 case hpan => exact hR.pan.elim
 case hret =>
 unfold ReaP at hR
 rw [exReady] at hR
 obtain ⟨hm, z, e0, -, hz, -⟩ := hR
 cases e0
 have HM3 := Lib.hid (HM2.out.trans hm)
 have HZ := Lib.hid hz
 clear hC hm hz
 (try simp only [zL])
 obtain ⟨w3, rfl⟩ : ∃ w3 : World, w3 = wn := ⟨_, rfl⟩
 iterate 3 (refine sq_val (v := ?_) (by simp only [zK]; rfl) (by rfl) ?_ ?_; rotate_left; (next => go_simp; try with_reducible rfl); try simp only [zL])
 (refine sq_alloc (by simp only [zK]; rfl) (by rfl) rfl alRdy (fun p1 wn gp1 kp1 mp1 => ?n7); try simp only [zL])
 (refine sq_store (X := ?X8) (Y := ?Y8) (w' := ?w8) (by simp only [zK]; rfl) (by rfl) rfl rfl ?hx8 ?hz8 ?y8 ?n8; (case hx8 => simp only [zM]; try rfl); (case hz8 => simp only [zM]; try rfl); (case y8 => go_simp; try with_reducible rfl))
 (first | refine sq_set kp1 (fun wn kp1 mS => ?_) | refine sq_setCell kp1 (fun wn kp1 mS => ?_))
 (refine sq_val (v := ?_) (by simp only [zK]; rfl) (by rfl) ?_ ?_; rotate_left; (next => go_simp; try with_reducible rfl); try simp only [zL])
 refine sq_nil ?_
 have HM4 : Hid (Mod (fun _ => False) w wn) := Lib.hid ((HM3.out.trans mp1).then mS (fun i hi e => by have := HM3.out.size; omega))
 clear mp1 mS
 obtain ⟨w4, rfl⟩ : ∃ w4 : World, w4 = wn := ⟨_, rfl⟩
 go_upto_region 2 with fail
 refine region_seq 9 rfl ?_
 simp only [List.range, List.range.loop]
 (refine sq_new (by simp only [zK]; rfl) (by rfl) rfl ?hx10 (exB0 _) (fun p12 wn gp12 kp12 mp12 => ?n10); (case hx10 => (simp only [List.map_toArray, List.map_cons, List.map_nil, zM]; (try rfl))); try simp only [zL])
 (refine sq_callT (by simp only [zK]; rfl) (by rfl) ?y11 (newT_c _) ?hout (fun vn wn hR => ?hret) (fun ch wn hR => ?hpan); (case y11 => (go_simp; (try (first | with_reducible rfl | (constructor <;> with_reducible rfl))))))
 case hout =>
  rintro w' ⟨_, _, h, _⟩
  cases h
 case hpan =>
  obtain ⟨_, _, h, _⟩ := hR
  cases h
 case hret =>
 obtain ⟨h, r, e0, hRA, hm⟩ := hR
 cases e0
 have hM5 := (HM4.out.trans mp12).trans hm
 have HS12 : Hid (SlAt uc 1 wn (some ⟨p12, 0, none⟩) [0]) := Lib.hid (SlAt.one (hm.at0 kp12) (0 : UInt8) rfl rfl)
 have HM5 := Lib.hid hM5
 have HRA := Lib.hid hRA
 replace kp1 := hm.at0 (mp12.at0 kp1)
 clear hm kp12 mp12 gp12 hRA hM5
 obtain ⟨w5, rfl⟩ : ∃ w5 : World, w5 = wn := ⟨_, rfl⟩
 have hC := ready_c (l := [0]) (c := 1) w5 HRA.out (HB.out.mod0 HM5.out) HS12.out (Nat.le_refl _) (fun e => by cases e) (show (1 : Nat) ≤ 900000 by decide) (slat_some HS12.out (by decide)).1
 (try simp only [zL])
 (refine sq_callT (by simp only [zK]; rfl) (by rfl) ?y12 hC ?hout (fun vn wn hR => ?hret) (fun ch wn hR => ?hpan); (case y12 => (go_simp; (try (first | with_reducible rfl | (constructor <;> with_reducible rfl))))))
 case hout => exact fun w' h => h.out
 case hpan => exact hR.pan.elim
 case hret =>
 unfold ReaP at hR
 rw [exShort] at hR
 obtain ⟨hm, e0⟩ := hR
 cases e0
 have HM6 := Lib.hid (HM5.out.trans hm)
 replace kp1 := hm.at0 kp1
 clear hC hm
 (try simp only [zL])
 obtain ⟨w6, rfl⟩ : ∃ w6 : World, w6 = wn := ⟨_, rfl⟩
 iterate 3 (refine sq_val (v := ?_) (by simp only [zK]; rfl) (by rfl) ?_ ?_; rotate_left; (next => go_simp; try with_reducible rfl); try simp only [zL])
 (refine sq_alloc (by simp only [zK]; rfl) (by rfl) rfl alRdy (fun p3 wn gp3 kp3 mp3 => ?n16); try simp only [zL])
 (refine sq_store (X := ?X17) (Y := ?Y17) (w' := ?w17) (by simp only [zK]; rfl) (by rfl) rfl rfl ?hx17 ?hz17 ?y17 ?n17; (case hx17 => simp only [zM]; try rfl); (case hz17 => simp only [zM]; try rfl); (case y17 => go_simp; try with_reducible rfl))
 (first | refine sq_set kp3 (fun wn kp3 mS => ?_) | refine sq_setCell kp3 (fun wn kp3 mS => ?_))
 (refine sq_val (v := ?_) (by simp only [zK]; rfl) (by rfl) ?_ ?_; rotate_left; (next => go_simp; try with_reducible rfl); try simp only [zL])
 refine sq_nil ?_
 have hp1 := lt_size kp1
 have HM7 : Hid (Mod (fun _ => False) w wn) := Lib.hid ((HM6.out.trans mp3).then mS (fun i hi e => by have := HM6.out.size; omega))
 have kp1' : wn.heap[p1]? = some (.cells (rdr z) 41 (0, 0)) := mS.at_ne (mp3.at0 kp1) (fun e => by omega)
 clear kp1
 have kp1 := kp1'
 clear mp3 mS kp1' hp1 kp3 gp3
 obtain ⟨w7, rfl⟩ : ∃ w7 : World, w7 = wn := ⟨_, rfl⟩
 have hz1 : z.ro.l.length = 2 := congrArg (fun y : RyP => y.ro.length) HZ.out
 have hz2 : z.un = 200000 := (congrArg RyP.u HZ.out).trans exTell.1
 have hz3 : z.pr = 0 := (congrArg RyP.p HZ.out).trans exTell.2.1
 have hz4 : z.bad.toInt = -1 := (congrArg RyP.bad HZ.out).trans exTell.2.2.1
 have hz5 : z.fee = 5000 := (congrArg RyP.fee HZ.out).trans exTell.2.2.2.1
 have hz6 : z.cost = 201320 := (congrArg RyP.cost HZ.out).trans exTell.2.2.2.2.1
 have hz7 : z.prio = 12417 := (congrArg RyP.pri HZ.out).trans exTell.2.2.2.2.2
 have f41 : (rdr z)[41]? = some (.slice z.ro.a 2 z.ro.c) := by rw [rdr41, hz1]
 have f41' : ∀ h : 41 < (rdr z).size, (rdr z)[41] = .slice z.ro.a 2 z.ro.c := fun h => at_get f41 h
 have f42 : (rdr z).extract 42 45 = #[.int .u64 200000, .int .u64 0, .int .i64 (-1)] := by rw [rdr_bg, hz2, hz3, hz4]; rfl
 have f45 : (rdr z)[45]? = some (.int .u64 5000) := by rw [rdr45, hz5]; rfl
 have f45' : ∀ h : 45 < (rdr z).size, (rdr z)[45] = .int .u64 5000 := fun h => at_get f45 h
 have f46 : (rdr z)[46]? = some (.int .u64 201320) := by rw [rdr46, hz6]; rfl
 have f46' : ∀ h : 46 < (rdr z).size, (rdr z)[46] = .int .u64 201320 := fun h => at_get f46 h
 have f47 : (rdr z)[47]? = some (.int .u64 12417) := by rw [rdr47, hz7]; rfl
 have f47' : ∀ h : 47 < (rdr z).size, (rdr z)[47] = .int .u64 12417 := fun h => at_get f47 h
 have hbb := bBu
 have heq := eqBu
 clear hz1 hz2 hz3 hz4 hz5 hz6 hz7
 go_upto_region 3 with fail
 have Lkp1 := lt_size kp1
 refine wp_pass0 (C := fun _ _ _ => False) (κ := fun i => [0, 0, 0, 0, 0, 0, 0, 0, 1, 0, 0, 0, 0, 0, 1, 0, 0, 0, 0, 0, 1, 0, 0, 0, 0, 1, 0, 0, 0, 0, 1, 0, 0, 0].getD i 0) [0, 1, 2, 3, 4, 5, 6, 7, 8, 9, 10, 11, 12, 13, 14, 15, 16, 17, 18, 19, 20, 21, 22, 23, 24, 25, 26, 27, 28, 29, 30, 31, 32, 33] (by kernel_rfl) (by kernel_rfl) (fun _ _ d _ _ h => by cases d <;> first | exact h | exact absurd h (hP _ _ _)) ?_
 iterate 15 first | (refine TD.val0 (v := ?_) (by simp only [zK]; rfl) rfl (by rfl) (fun w1 => ?_) ?_; rotate_left; (next => go_simp; try with_reducible rfl); try simp only [zL]) | (refine TD.load (v := ?_) (p := ?_) (Mod.refl _ _) (by simp only [zK]; rfl) rfl (by rfl) rfl ?_ (fun wq hSq => ?_) ?_; rotate_left 2; (next => simp only [zM]; try rfl); (next => have kp1q := hSq.at kp1 (fun h => h); go_simp; try with_reducible rfl); try simp only [zL])
 (refine TD.build (v := ?v34) (ps := ?p34) (by simp only [zK]; rfl) rfl (by rfl) rfl ?hx34 (fun w1 => ?y34) ?n34; (case hx34 => (simp only [List.map_toArray, List.map_cons, List.map_nil, zM]; (try rfl))); (case y34 => (rw [hbb]; (try with_reducible rfl))); try simp only [zL])
 iterate 18 first | (refine TD.val0 (v := ?_) (by simp only [zK]; rfl) rfl (by rfl) (fun w1 => ?_) ?_; rotate_left; (next => go_simp; try with_reducible rfl); try simp only [zL]) | (refine TD.load (v := ?_) (p := ?_) (Mod.refl _ _) (by simp only [zK]; rfl) rfl (by rfl) rfl ?_ (fun wq hSq => ?_) ?_; rotate_left 2; (next => simp only [zM]; try rfl); (next => have kp1q := hSq.at kp1 (fun h => h); go_simp; try with_reducible rfl); try simp only [zL])
 refine TD.nil (fun w8 hr => ?_)
 replace kp1 := hr.mod.at kp1 (fun h => h)
 have HM8 := Lib.hid (HM7.out.then0 hr.mod)
 clear hr
 go_wp2_with fail
 go_ret
 exact ⟨rfl, HM8.out⟩
end Go.Proofs.YtiaehkkkcaeaiaaGreatDoor
namespace Go.Proofs.YtiaehkkkcaeaiaaGreatDoor
open Go.RowKit
open Go.ChangeMaps (setBlock)
attribute [local go_sem ↓] wlKey ldKey stKey ldSg stSg wlTc ldTc stTc eqKey1
attribute [local go_sem] cell_blk frozen_blk kc_ext one_int one_bool one_ptr one_slice one_map kc_one kc_one0 kc_size zKey_size sgc_size sgc_ext sgc_one0 sgc_one' txr_size txr_all txr_one txr_one' txr0 txr38 txr39 txr0' txr38' txr39' zTx_size Value.cells
attribute [local go_sem ↓] ldRole stRole
attribute [local go_sem] zRole_size
theorem kx_take (k : Key) (xs : List Value) : (kx k xs).toList.take 32 = (kc k).toList := by
 unfold kx
 rw [Array.toList_append, List.take_append_of_le_length (by simp)]
 exact List.take_of_length_le (by simp)
theorem kx_drop (k : Key) (xs : List Value) (j : Nat) : (kx k xs).toList.drop (32 + j) = xs.drop j := by
 unfold kx
 rw [Array.toList_append, List.drop_append, List.drop_eq_nil_of_le (by simp), List.nil_append]
 simp
theorem lits_bool (b : Bool) (d : Nat) : Tryz.prog.keyLits (d + 1) 4 [Value.bool b] = some [.bool b] := by
 unfold Program.keyLits
 rw [Tryz.underlying4]
theorem bool_cells : Tryz.prog.cellsOf 4 = 1 := by kernel_rfl
theorem role_cells : Tryz.prog.cellsOf 91 = 34 := by kernel_rfl
theorem role_lits (r : Role) (d : Nat) : ∃ l, Tryz.prog.keyLits (d + 3) 91 (rcr r).toList = some l := by
 obtain ⟨l, hl⟩ := keyIs.lits r.k d
 unfold Program.keyLits
 rw [Tryz.underlying91]
 simp only [rcr, rc, role_cells]
 rw [if_pos ⟨by rw [Array.length_toList]; exact kx_size _ _, by kernel_rfl⟩]
 have h1 := kx_take r.k [.bool r.s, .bool r.w]
 have h2 := kx_drop r.k [.bool r.s, .bool r.w] 0
 have h3 := kx_drop r.k [.bool r.s, .bool r.w] 1
 simp only [Nat.add_zero, List.drop_zero, List.drop_succ_cons] at h2 h3
 simp only [List.mapM_cons, List.mapM_nil, keyIs.cK, bool_cells, List.drop_zero, h1, hl, h2, h3, List.take_succ_cons, List.take_zero, lits_bool r.s (d + 1), lits_bool r.w (d + 1)]
 exact ⟨_, rfl⟩
theorem eq_struct3 {T : TypeId} (hk : Tryz.prog.keyTypeAt 3 T = true) (ht : Tryz.prog.tiled 3 T = true) {x y : Array Value} {lx ly : List Lit} (fx : (Value.agg x).formed Tryz.prog T = true) (fy : (Value.agg y).formed Tryz.prog T = true)
  (hx : Tryz.prog.keyLits 3 T x.toList = some lx) (hy : Tryz.prog.keyLits 3 T y.toList = some ly) (w : World) : ∃ r : Bool, (Op.equalIn 10000 T (.agg x) (.agg y)).run Tryz.prog w = .ok r w ∧ (r = true ↔ x = y) := by
 obtain ⟨r, hr, hiff⟩ := run_equalIn_deep (P := Tryz.prog) 9997 3 T hk w 3 3 (.agg x) (.agg y) lx ly fx fy hx hy
 refine ⟨r, hr, hiff.trans ⟨fun e => ?_, fun e => ?_⟩⟩
 ·have h1 := cells_of_lits 3 T ht 3 _ _ hx
  have h2 := cells_of_lits 3 T ht 3 _ _ hy
  rw [e, ← h2] at h1
  exact Array.toList_inj.1 h1
 ·subst e
  rw [hx] at hy
  exact Option.some.inj hy
theorem eqRole1 (x : Role) (w : World) : (Op.equalIn 10000 91 (.agg (rcr x)) (.agg (rcr x))).run Tryz.prog w = .ok true w := by
 obtain ⟨lx, hx⟩ := role_lits x 0
 have hat : Tryz.prog.keyTypeAt 3 91 = true := by kernel_rfl
 have hti : Tryz.prog.tiled 3 91 = true := by kernel_rfl
 have hf : (Value.agg (rcr x)).formed Tryz.prog 91 = true := by
  simp [Value.formed, Tryz.underlying91, role_cells, rcr, rc_size]
 obtain ⟨r, hr, hiff⟩ := eq_struct3 hat hti hf hf hx hx w
 rw [hr, hiff.2 rfl]
set_option maxRecDepth 20000 in
set_option maxHeartbeats 1600000 in
theorem sameRo_c (a a2 : Option Addr) (l : List Role) (c c2 : Nat) (w : World) (h1 : SlAt rcr 34 w a l) (h2 : SlAt rcr 34 w a2 l) (hb : l.length ≤ 1000000) : Calls Tryz.prog 42 #[.slice a l.length c, .slice a2 l.length c2] w fun e w' => e = .returned (.bool true) ∧ Mod (fun _ => False) w w' := by
 have H1 := Lib.hid (And.intro h1 h2)
 obtain ⟨n, hn⟩ : ∃ n, l.length = n := ⟨_, rfl⟩
 have HN := Lib.hid hn
 rw [hn] at hb ⊢
 clear h1 h2 hn
 have hd0 : ((n : Int) != (n : Int)) = false := by simp
 have hdn : (n != n) = false := by simp
 have heq := fun x => eqRole1 x
 go_enter Tryz.func42, Tryz.ntmps42
 go_wp2_with fail
 go_loopw [5] (fun s5 ws => ∃ i : Nat, i ≤ n ∧ s5 = .int .i64 (i : Int) ∧ Mod (fun _ => False) w ws) (fun s5 _ => n - (intOf s5).toNat)
 case atStart => exact ⟨0, by omega, rfl, Mod.refl _ _⟩
 case round =>
  obtain ⟨i, hi, rfl, hm⟩ := hrel
  by_cases hlt : i < n
  ·have hd := decide_eq_true hlt
   obtain ⟨x, hx⟩ : ∃ x, l[i]? = some x := ⟨_, List.getElem?_eq_getElem (by have := HN.out; omega)⟩
   obtain ⟨g, o, C, U, fr, rfl, kl, he, hle⟩ := (H1.out.1.mod0 hm).block hx
   obtain ⟨g2, o2, C2, U2, fr2, rfl, kl2, he2, hle2⟩ := (H1.out.2.mod0 hm).block hx
   have HXX := Lib.hid hx
   have HMM := Lib.hid hm
   have hex := eqRole1 x
   clear hx hm
   go_upto_region 6 with fail
   have Lkl := lt_size kl
   have Lkl2 := lt_size kl2
   refine wp_pass (C := fun _ _ _ => False) (κ := fun i => [0, 0, 0, 1, 0, 0, 0, 1, 0].getD i 0) [0, 1, 2, 3, 4, 5, 6, 7, 8] (by kernel_rfl) (by kernel_rfl) (fun _ _ d _ _ h => by cases d <;> first | exact h | exact absurd h (hP _ _ _)) ?_
   iterate 9 first | (refine TD.val0 (v := ?_) (by simp only [zK]; rfl) rfl (by rfl) (fun w1 => ?_) ?_; rotate_left; (next => go_simp; try with_reducible rfl); try simp only [zL]) | (refine TD.load (v := ?_) (p := ?_) (Mod.refl _ _) (by simp only [zK]; rfl) rfl (by rfl) rfl ?_ (fun wq hSq => ?_) ?_; rotate_left 2; (next => simp only [zM]; try rfl); (next => have klq := hSq.at kl (fun h => h); have kl2q := hSq.at kl2 (fun h => h); go_simp; try with_reducible rfl); try simp only [zL])
   refine TD.nil (fun w2 hr => ?_)
   replace kl := hr.mod.at kl (fun h => h)
   replace kl2 := hr.mod.at kl2 (fun h => h)
   have mm := HMM.out.then0 hr.mod
   clear he he2 hle hle2 hr
   go_wp2_with fail
   go_roundw
   case rel => exact ⟨i + 1, by omega, by go_num, mm⟩
   case measure => first | omega | (simp [intOf]; omega)
  ·have hd := decide_eq_false hlt
   go_wp2_with fail
   go_ret
   exact ⟨rfl, hm⟩
attribute [local go_sem ↓] wlRdy ldRdy stRdy ldBgd
attribute [local go_sem] rdr_size rdr_all rdr_one zRdy_size rdr_tx rdr0 rdr0'
def RyRd (w : World) (r : RdR) : Prop := (SlAt uc 1 w r.b.a r.b.l ∧ r.b.l.length ≤ 1000000) ∧ TxRd w r ∧ SlAt rcr 34 w r.ro.a r.ro.l ∧ r.ro.l.length ≤ 1000000
theorem RyRd.mod0 {w w' : World} {r : RdR} (h : RyRd w r) (hm : Mod (fun _ => False) w w') : RyRd w' r := ⟨⟨h.1.1.mod0 hm, h.1.2⟩, h.2.1.mod0 hm, h.2.2.1.mod0 hm, h.2.2.2⟩
theorem eqBg (u p : UInt64) (b : Int) (w : World) : (binOp .eql 39 (.agg (bgR u p b)) (.agg (bgR u p b))).run Tryz.prog w = .ok (.bool true) w := by
 simp [bgR, go_sem]
set_option maxRecDepth 20000 in
set_option maxHeartbeats 6400000 in
theorem sameReady_c (x y : RdR) (w : World) (hx : RyRd w x) (hy : RyRd w y) (hxy : ryP x = ryP y) : Calls Tryz.prog 10 #[.agg (rdr x), .agg (rdr y)] w fun e w' => e = .returned (.bool true) ∧ Mod (fun _ => False) w w' := by
 have HX := Lib.hid hx
 have HY := Lib.hid hy
 have e1 : y.b.l = x.b.l := (congrArg RyP.b hxy).symm
 have e2 : txP x = txP y := congrArg RyP.x hxy
 have e3 : y.ro.l = x.ro.l := (congrArg RyP.ro hxy).symm
 have e4 : y.un = x.un := (congrArg RyP.u hxy).symm
 have e5 : y.pr = x.pr := (congrArg RyP.p hxy).symm
 have e6 : y.bad.toInt = x.bad.toInt := (congrArg RyP.bad hxy).symm
 have e7 : y.fee = x.fee := (congrArg RyP.fee hxy).symm
 have e8 : y.cost = x.cost := (congrArg RyP.cost hxy).symm
 have e9 : y.prio = x.prio := (congrArg RyP.pri hxy).symm
 obtain ⟨nb, hnb⟩ : ∃ n, x.b.l.length = n := ⟨_, rfl⟩
 obtain ⟨nr, hnr⟩ : ∃ n, x.ro.l.length = n := ⟨_, rfl⟩
 obtain ⟨fe, hfe⟩ : ∃ z, x.fee = z := ⟨_, rfl⟩
 obtain ⟨co, hco⟩ : ∃ z, x.cost = z := ⟨_, rfl⟩
 obtain ⟨pi, hpi⟩ : ∃ z, x.prio = z := ⟨_, rfl⟩
 have hB : ∀ wq, SlAt uc 1 wq x.b.a x.b.l → SlAt uc 1 wq y.b.a y.b.l → Calls Tryz.prog 41 #[.slice x.b.a nb x.b.c, .slice y.b.a nb y.b.c] wq fun e w' => e = .returned (.bool true) ∧ Mod (fun _ => False) wq w' := fun wq h1 h2 => by
  have h := sameB_c x.b.a y.b.a x.b.l y.b.l x.b.c y.b.c wq h1 h2 (by have := HX.out.1.2; omega)
  rw [e1, hnb] at h
  simpa using h
 have hR : ∀ wq, SlAt rcr 34 wq x.ro.a x.ro.l → SlAt rcr 34 wq y.ro.a y.ro.l → Calls Tryz.prog 42 #[.slice x.ro.a nr x.ro.c, .slice y.ro.a nr y.ro.c] wq fun e w' => e = .returned (.bool true) ∧ Mod (fun _ => False) wq w' := fun wq h1 h2 => by
  rw [e3] at h2
  have h := sameRo_c x.ro.a y.ro.a x.ro.l x.ro.c y.ro.c wq h1 h2 (by have := HX.out.2.2.2; omega)
  rw [hnr] at h
  exact h
 have HB := Lib.hid hB
 have HR := Lib.hid hR
 have HE2 := Lib.hid e2
 have x0 : (rdr x)[0]? = some (.slice x.b.a nb x.b.c) := by rw [rdr0, hnb]
 have y0 : (rdr y)[0]? = some (.slice y.b.a nb y.b.c) := by rw [rdr0, e1, hnb]
 have x41 : (rdr x)[41]? = some (.slice x.ro.a nr x.ro.c) := by rw [rdr41, hnr]
 have y41 : (rdr y)[41]? = some (.slice y.ro.a nr y.ro.c) := by rw [rdr41, e3, hnr]
 have xb : (rdr x).extract 42 45 = bgR x.un x.pr x.bad.toInt := rdr_bg x
 have yb : (rdr y).extract 42 45 = bgR x.un x.pr x.bad.toInt := by rw [rdr_bg, e4, e5, e6]
 have x45 : (rdr x)[45]? = some (u64v fe) := by rw [show (rdr x)[45]? = some (u64v x.fee) from mx_post 6, hfe]
 have y45 : (rdr y)[45]? = some (u64v fe) := by rw [show (rdr y)[45]? = some (u64v y.fee) from mx_post 6, e7, hfe]
 have x46 : (rdr x)[46]? = some (u64v co) := by rw [rdr46, hco]
 have y46 : (rdr y)[46]? = some (u64v co) := by rw [rdr46, e8, hco]
 have x47 : (rdr x)[47]? = some (u64v pi) := by rw [rdr47, hpi]
 have y47 : (rdr y)[47]? = some (u64v pi) := by rw [rdr47, e9, hpi]
 have x0' : ∀ h : 0 < (rdr x).size, (rdr x)[0] = .slice x.b.a nb x.b.c := fun h => at_get x0 h
 have y0' : ∀ h : 0 < (rdr y).size, (rdr y)[0] = .slice y.b.a nb y.b.c := fun h => at_get y0 h
 have x41' : ∀ h : 41 < (rdr x).size, (rdr x)[41] = .slice x.ro.a nr x.ro.c := fun h => at_get x41 h
 have y41' : ∀ h : 41 < (rdr y).size, (rdr y)[41] = .slice y.ro.a nr y.ro.c := fun h => at_get y41 h
 have x45' : ∀ h : 45 < (rdr x).size, (rdr x)[45] = u64v fe := fun h => at_get x45 h
 have y45' : ∀ h : 45 < (rdr y).size, (rdr y)[45] = u64v fe := fun h => at_get y45 h
 have x46' : ∀ h : 46 < (rdr x).size, (rdr x)[46] = u64v co := fun h => at_get x46 h
 have y46' : ∀ h : 46 < (rdr y).size, (rdr y)[46] = u64v co := fun h => at_get y46 h
 have x47' : ∀ h : 47 < (rdr x).size, (rdr x)[47] = u64v pi := fun h => at_get x47 h
 have y47' : ∀ h : 47 < (rdr y).size, (rdr y)[47] = u64v pi := fun h => at_get y47 h
 have heb := eqBg x.un x.pr x.bad.toInt
 clear hx hy hxy e1 e2 e3 e4 e5 e6 e7 e8 e9 hnb hnr hfe hco hpi hB hR
 go_enter Tryz.func10, Tryz.ntmps10
 go_upto_region 0 with fail
 refine wp_pass0 (C := fun _ _ _ => False) (κ := fun i => [3, 3, 0].getD i 0) [0, 1, 2] (by kernel_rfl) (by kernel_rfl) (fun _ _ d _ _ h => by cases d <;> first | exact h | exact absurd h (hP _ _ _)) ?_
 (refine TD.box (v := ?v10) (by simp only [zK]; rfl) rfl (by rfl) rfl rfl ?hx10 (fun p2 hp2 => ?n10); (case hx10 => simp only [zM]; try rfl); try simp only [zL])
 (refine TD.box (v := ?v11) (by simp only [zK]; rfl) rfl (by rfl) rfl rfl ?hx11 (fun p3 hp3 => ?n11); (case hx11 => simp only [zM]; try rfl); try simp only [zL])
 obtain ⟨ne_p3_p2, hp3⟩ := Bx.set_none hp3
 (refine TD.val0 (v := ?_) (by simp only [zK]; rfl) rfl (by rfl) (fun w1 => ?_) ?_; rotate_left; (next => go_simp; try with_reducible rfl); try simp only [zL])
 refine TD.nil (fun w1 hr => ?_)
 have kp2 := hr.box p2 _ (by first | exact Bx.set_same _ _ _ | (simp only [Bx.set_ne _ (Ne.symm ne_p3_p2), Bx.set_ne _ ne_p3_p2, Bx.set_same]; rfl)); dsimp only [Value.cells] at kp2; obtain ⟨gp2, kp2⟩ := kp2
 have kp3 := hr.box p3 _ (by first | exact Bx.set_same _ _ _ | (simp only [Bx.set_ne _ (Ne.symm ne_p3_p2), Bx.set_ne _ ne_p3_p2, Bx.set_same]; rfl)); dsimp only [Value.cells] at kp3; obtain ⟨gp3, kp3⟩ := kp3
 have HM1 := Lib.hid hr.mod
 clear hr
 go_upto_region 1 with fail
 have Lkp2 := lt_size kp2
 have Lkp3 := lt_size kp3
 refine wp_pass0 (C := fun _ _ v => v = .bool true) (κ := fun i => [0, 1, 0, 1, 2, 0, 0, 1, 0, 1, 2, 0, 0, 0, 1, 0, 1, 2, 0, 0, 0, 1, 0, 1, 0, 0, 0, 0, 1, 0, 1, 0, 0, 0, 0, 1, 0, 1, 0, 0, 0, 0, 1, 0, 1, 0, 0, 0].getD i 0) [0, 1, 2, 3, 4, 5, 6, 7, 8, 9, 10, 11, 12, 13, 14, 15, 16, 17, 18, 19, 20, 21, 22, 23, 24, 25, 26, 27, 28, 29, 30, 31, 32, 33, 34, 35, 36, 37, 38, 39, 40, 41, 42, 43, 44, 45, 46, 47] (by kernel_rfl) (by kernel_rfl) (fun _ _ d _ _ h => by cases d <;> first | exact h | exact absurd h (hP _ _ _)) ?_
 iterate 4 first | (refine TD.val0 (v := ?_) (by simp only [zK]; rfl) rfl (by rfl) (fun w1 => ?_) ?_; rotate_left; (next => go_simp; try with_reducible rfl); try simp only [zL]) | (refine TD.load (v := ?_) (p := ?_) (Mod.refl _ _) (by simp only [zK]; rfl) rfl (by rfl) rfl ?_ (fun wq hSq => ?_) ?_; rotate_left 2; (next => simp only [zM]; try rfl); (next => have kp2q := hSq.at kp2 (fun h => h); have kp3q := hSq.at kp3 (fun h => h); go_simp; try with_reducible rfl); try simp only [zL])
 (refine TD.call (f := ?f17) (args := ?r17) (Mod.refl _ _) (by simp only [zK]; rfl) rfl (by rfl) (fun w1 => ?y17) ?hsp17 ?n17; (case y17 => (go_simp; (first | with_reducible rfl | (constructor <;> with_reducible rfl)))); (case hsp17 => (intro wq hSq; have kp2q := hSq.at kp2 (fun h => h); have kp3q := hSq.at kp3 (fun h => h); exact (HB.out wq (HX.out.1.1.mod0 (HM1.out.then0 hSq)) (HY.out.1.1.mod0 (HM1.out.then0 hSq))).mono (fun e w' h => ⟨_, h.1, rfl, h.2⟩))); rintro _ hC; subst hC; try simp only [zL])
 iterate 5 first | (refine TD.val0 (v := ?_) (by simp only [zK]; rfl) rfl (by rfl) (fun w1 => ?_) ?_; rotate_left; (next => go_simp; try with_reducible rfl); try simp only [zL]) | (refine TD.load (v := ?_) (p := ?_) (Mod.refl _ _) (by simp only [zK]; rfl) rfl (by rfl) rfl ?_ (fun wq hSq => ?_) ?_; rotate_left 2; (next => simp only [zM]; try rfl); (next => have kp2q := hSq.at kp2 (fun h => h); have kp3q := hSq.at kp3 (fun h => h); go_simp; try with_reducible rfl); try simp only [zL])
 (refine TD.call (f := ?f23) (args := ?r23) (Mod.refl _ _) (by simp only [zK]; rfl) rfl (by rfl) (fun w1 => ?y23) ?hsp23 ?n23; (case y23 => (go_simp; (first | with_reducible rfl | (constructor <;> with_reducible rfl)))); (case hsp23 => (intro wq hSq; have kp2q := hSq.at kp2 (fun h => h); have kp3q := hSq.at kp3 (fun h => h); exact (sameTx_c x y wq (HX.out.2.1.mod0 (HM1.out.then0 hSq)) (HY.out.2.1.mod0 (HM1.out.then0 hSq)) HE2.out).mono (fun e w' h => ⟨_, h.1, rfl, h.2⟩))); rintro _ hC; subst hC; try simp only [zL])
 iterate 6 first | (refine TD.val0 (v := ?_) (by simp only [zK]; rfl) rfl (by rfl) (fun w1 => ?_) ?_; rotate_left; (next => go_simp; try with_reducible rfl); try simp only [zL]) | (refine TD.load (v := ?_) (p := ?_) (Mod.refl _ _) (by simp only [zK]; rfl) rfl (by rfl) rfl ?_ (fun wq hSq => ?_) ?_; rotate_left 2; (next => simp only [zM]; try rfl); (next => have kp2q := hSq.at kp2 (fun h => h); have kp3q := hSq.at kp3 (fun h => h); go_simp; try with_reducible rfl); try simp only [zL])
 (refine TD.call (f := ?f30) (args := ?r30) (Mod.refl _ _) (by simp only [zK]; rfl) rfl (by rfl) (fun w1 => ?y30) ?hsp30 ?n30; (case y30 => (go_simp; (first | with_reducible rfl | (constructor <;> with_reducible rfl)))); (case hsp30 => (intro wq hSq; have kp2q := hSq.at kp2 (fun h => h); have kp3q := hSq.at kp3 (fun h => h); exact (HR.out wq (HX.out.2.2.1.mod0 (HM1.out.then0 hSq)) (HY.out.2.2.1.mod0 (HM1.out.then0 hSq))).mono (fun e w' h => ⟨_, h.1, rfl, h.2⟩))); rintro _ hC; subst hC; try simp only [zL])
 iterate 30 first | (refine TD.val0 (v := ?_) (by simp only [zK]; rfl) rfl (by rfl) (fun w1 => ?_) ?_; rotate_left; (next => go_simp; try with_reducible rfl); try simp only [zL]) | (refine TD.load (v := ?_) (p := ?_) (Mod.refl _ _) (by simp only [zK]; rfl) rfl (by rfl) rfl ?_ (fun wq hSq => ?_) ?_; rotate_left 2; (next => simp only [zM]; try rfl); (next => have kp2q := hSq.at kp2 (fun h => h); have kp3q := hSq.at kp3 (fun h => h); go_simp; try with_reducible rfl); try simp only [zL])
 refine TD.nil (fun w2 hr => ?_)
 replace kp2 := hr.mod.at kp2 (fun h => h)
 replace kp3 := hr.mod.at kp3 (fun h => h)
 have HM2 := Lib.hid (HM1.out.then0 hr.mod)
 clear hr
 go_wp2_with fail
 go_ret
 exact ⟨rfl, HM2.out⟩
end Go.Proofs.YtiaehkkkcaeaiaaGreatDoor
namespace Go.Proofs.YtiaehkkkcaeaiaaGreatDoor
open Go.RowKit
open Go.ChangeMaps (setBlock)
attribute [local go_sem ↓] wlKey ldKey stKey ldSg stSg wlTc ldTc stTc eqKey1
attribute [local go_sem] cell_blk frozen_blk kc_ext one_int one_bool one_ptr one_slice one_map kc_one kc_one0 kc_size zKey_size sgc_size sgc_ext sgc_one0 sgc_one' txr_size txr_all txr_one txr_one' txr0 txr38 txr39 txr0' txr38' txr39' zTx_size Value.cells
attribute [local go_sem ↓] wlRdy ldRdy stRdy
attribute [local go_sem] zTc_size zTc_ext zTc_all zTc_all0 rdr_size rdr_all rdr_one zRdy_size zRdy_one
theorem rd0_rd (w : World) : RyRd w rd0 := ⟨⟨.inl rfl, by decide⟩, ⟨⟨.inl rfl, by decide⟩, ⟨.inl rfl, by decide⟩, ⟨.inl rfl, by decide, fun i h => by cases h⟩, .inl rfl, by decide, fun i h => by cases h⟩, .inl rfl, by decide⟩
end Go.Proofs.YtiaehkkkcaeaiaaGreatDoor
namespace Go.Proofs.YtiaehkkkcaeaiaaGreatDoor
open Go.RowKit
open Go.ChangeMaps (setBlock)
attribute [local go_sem ↓] wlKey ldKey stKey ldSg stSg wlTc ldTc stTc eqKey1
attribute [local go_sem] cell_blk frozen_blk kc_ext one_int one_bool one_ptr one_slice one_map kc_one kc_one0 kc_size zKey_size sgc_size sgc_ext sgc_one0 sgc_one' txr_size txr_all txr_one txr_one' txr0 txr38 txr39 txr0' txr38' txr39' zTx_size Value.cells
attribute [local go_sem ↓] wlRdy ldRdy stRdy
attribute [local go_sem] zTc_size zTc_ext zTc_all zTc_all0 rdr_size rdr_all rdr_one zRdy_size zRdy_one
structure ArgB (w : World) (a : Option Addr) (l : List UInt8) (c : Nat) : Prop where
 at_ : SlAt uc 1 w a l
 le : l.length ≤ c
 nn : a = none → c = 0
 inn : ∀ x, a = some x → x.block < w.heap.size
theorem ArgB.mod0 {w w' : World} {a : Option Addr} {l : List UInt8} {c : Nat} (h : ArgB w a l c) (hm : Mod (fun _ => False) w w') : ArgB w' a l c := ⟨h.at_.mod0 hm, h.le, h.nn, fun x e => Nat.lt_of_lt_of_le (h.inn x e) hm.size⟩
theorem great_no {n : Nat} {l : List TbR} (h : greatB n l = false) : n ≤ 5000 ∧ l.length ≤ 20 ∧ ∀ x ∈ l, x.s.l.length ≤ 400 := by
 unfold greatB at h
 simp only [Bool.or_eq_false_iff, decide_eq_false_iff_not, List.any_eq_false, decide_eq_true_eq] at h
 exact ⟨by omega, by omega, fun x hx => by have := h.2.2 x hx; omega⟩
theorem TaOk.f {w : World} {x : TbR} (h : TaOk w x) (hl : x.s.l.length ≤ 400) : TaF w x := ⟨h.1.1, hl, h.2.2, by
 by_cases hx : x.s.l = []
 ·exact .inl hx
 ·exact .inr fun g o e => (h.1.2.2.2.1 _ e).resolve_right hx⟩
theorem WirP.out {w w' : World} {l : List UInt8} (h : WirP w l .outgrown w') : False := by
 unfold WirP at h
 split at h
 ·obtain ⟨_, _, h, _⟩ := h
  cases h
 ·cases h.2
theorem WirP.pan {w w' : World} {l : List UInt8} {ch : _} (h : WirP w l (.panicked ch) w') : False := by
 unfold WirP at h
 split at h
 ·obtain ⟨_, _, h, _⟩ := h
  cases h
 ·cases h.2
theorem ready_ne {T : TbL} {l : List UInt8} {n : Nat} (h : readyP T l = .error n) : n ≠ 0 := by
 unfold readyP at h
 split at h
 ·rename_i e he
  cases h
  exact chk_ne he
 ·split at h
  ·rename_i e he
   cases h
   exact res_ne he
  ·split at h
   ·rename_i e he
    cases h
    unfold rolesP at he
    split at he
    ·cases he
    ·cases he
     decide
   ·cases h
theorem ReaP.two {T : TbL} {w w' : World} {l : List UInt8} {v : Value} (h : ReaP T w l (.returned v) w') : Mod (fun _ => False) w w' ∧ ∃ (z : RdR) (n : Nat), v = .tuple #[.agg (rdr z), i64n n] ∧ ((∃ y, readyP T l = .ok y ∧ RyO w.heap.size w' z ∧ ryP z = y ∧ TxB (txP z)) ∧ n = 0 ∨ readyP T l = .error n ∧ n ≠ 0 ∧ z = rd0) := by
 unfold ReaP at h
 obtain ⟨hm, h⟩ := h
 refine ⟨hm, ?_⟩
 cases hres : readyP T l with
 | ok y =>
  rw [hres] at h
  obtain ⟨r, h1, h2, h3, h4⟩ := h
  cases h1
  exact ⟨r, 0, rfl, .inl ⟨⟨y, rfl, h2, h3, h4⟩, rfl⟩⟩
 | error n =>
  rw [hres] at h
  cases h
  exact ⟨rd0, n, rfl, .inr ⟨rfl, ready_ne hres, rfl⟩⟩
theorem ready_wire {T : TbL} {l : List UInt8} {n : Nat} (hw : wireP l = .error n) : readyP T l = .error n := by
 unfold readyP
 rw [hw]
end Go.Proofs.YtiaehkkkcaeaiaaGreatDoor
namespace Go.Proofs.YtiaehkkkcaeaiaaGreatDoor
open Go.RowKit
open Go.ChangeMaps (setBlock)
attribute [local go_sem ↓] wlKey ldKey stKey ldSg stSg wlTc ldTc stTc eqKey1
attribute [local go_sem] cell_blk frozen_blk kc_ext one_int one_bool one_ptr one_slice one_map kc_one kc_one0 kc_size zKey_size sgc_size sgc_ext sgc_one0 sgc_one' txr_size txr_all txr_one txr_one' txr0 txr38 txr39 txr0' txr38' txr39' zTx_size Value.cells
theorem ready_ok {T : TbL} {B : List UInt8} {y : RyP} (h : readyP T B = .ok y) : ∃ x ws rs ro, wireP B = .ok x ∧ rolesP x.m ws rs = .ok ro ∧ y = tellP B x ro ∧ ro.length = totP x := by
 unfold readyP at h
 split at h
 ·cases h
 ·rename_i x hx
  split at h
  ·cases h
  ·rename_i ws rs hres
   split at h
   ·cases h
   ·rename_i ro hro
    cases h
    refine ⟨x, ws, rs, ro, hx, hro, rfl, ?_⟩
    have h1 := roles_len hro
    have h2 := res_len hres
    simp only [List.length_nil] at h2
    unfold totP
    omega
theorem wire_whole {B : List UInt8} {x : TxP} (h : wireP B = .ok x) : wholeP B = .ok x := by
 unfold wireP at h
 split at h
 ·cases h
 ·split at h
  ·cases h
   assumption
  ·cases h
theorem whole_px {B : List UInt8} {x : TxP} (h : wholeP B = .ok x) : B.length ≤ 1232 ∧ ∃ k, pTx B = .ok (x, k) ∧ B.length ≤ k := by
 unfold wholeP at h
 split at h
 ·cases h
 ·rename_i h0
  split at h
  ·cases h
  ·rename_i x1 k1 h1
   split at h
   ·cases h
   ·rename_i h2
    cases h
    exact ⟨by omega, k1, h1, by omega⟩
theorem wire_put {B : List UInt8} {x : TxP} (h : wireP B = .ok x) : putT x = B ∧ B.length ≤ 1232 := by
 obtain ⟨h1, k, h2, h3⟩ := whole_px (wire_whole h)
 have := bk_tx h2
 rw [List.drop_eq_nil_of_le h3, List.append_nil] at this
 exact ⟨this.symm, h1⟩
theorem msg_leg {l : List UInt8} {k k1 : Nat} {m : MsP} (h : pMsg l k = .ok (m, k1)) : m.v0 = true ∨ (m.lks.length = 0 ∧ m.h0.toNat < 128) := by
 unfold pMsg at h
 obtain ⟨c, j1, e1, h⟩ := pBind_inv h
 split at h
 ·cases h
 ·rename_i hc
  obtain ⟨h0, j2, e2, h⟩ := pBind_inv h
  obtain ⟨h1, j3, e3, h⟩ := pBind_inv h
  obtain ⟨h2, j4, e4, h⟩ := pBind_inv h
  obtain ⟨ks, j5, e5, h⟩ := pBind_inv h
  obtain ⟨rc, j6, e6, h⟩ := pBind_inv h
  obtain ⟨ins, j7, e7, h⟩ := pBind_inv h
  obtain ⟨lks, j8, e8, h⟩ := pBind_inv h
  cases h
  by_cases hv : c.toNat = 128
  ·exact .inl (decide_eq_true hv)
  ·rw [if_neg hv] at e2 e8
   cases e2
   cases e8
   exact .inr ⟨rfl, by show c.toNat < 128; omega⟩
theorem tx_leg {l : List UInt8} {k : Nat} {x : TxP} (h : pTx l = .ok (x, k)) : x.m.v0 = true ∨ (x.m.lks.length = 0 ∧ x.m.h0.toNat < 128) := by
 unfold pTx at h
 split at h
 ·split at h
  ·cases h
  ·obtain ⟨m, j, e1, h⟩ := pBind_inv h
   cases h
   exact msg_leg e1
 ·cases h
theorem wire_leg {B : List UInt8} {x : TxP} (h : wireP B = .ok x) : x.m.v0 = true ∨ (x.m.lks.length = 0 ∧ x.m.h0.toNat < 128) := by
 obtain ⟨_, k, h2, _⟩ := whole_px (wire_whole h)
 exact tx_leg h2
theorem rdr_ms (x : RdR) : (rdr x).extract 2 41 = msr x := by
 have h := txr_ms x
 rw [← rdr_tx, Array.extract_extract] at h
 exact h
theorem sameBytes_c (a a2 : Option Addr) (l : List UInt8) (c c2 : Nat) (w : World) (h1 : SlAt uc 1 w a l) (h2 : SlAt uc 1 w a2 l) (hb : l.length ≤ 1000000) : Calls Tryz.prog 24 #[.slice a l.length c, .slice a2 l.length c2] w fun e w' => e = .returned (.bool true) ∧ Mod (fun _ => False) w w' := by
 have hC := sameB_c a a2 l l c c2 w h1 h2 hb
 have hd : decide (l = l) = true := by simp
 rw [hd] at hC
 obtain ⟨n, hn⟩ : ∃ n, l.length = n := ⟨_, rfl⟩
 rw [hn] at hC ⊢
 clear hd hn h1 h2 hb
 have HC := Lib.hid hC
 clear hC
 go_enter Tryz.func24, Tryz.ntmps24
 go_wp2_with fail
 go_at_call 41
 refine HC.out.mono ?_
 rintro e w2 ⟨rfl, m2⟩
 go_wp2_with fail
 go_ret
 exact ⟨rfl, m2⟩
end Go.Proofs.YtiaehkkkcaeaiaaGreatDoor
namespace Go.Proofs.YtiaehkkkcaeaiaaGreatDoor
open Go.RowKit
open Go.ChangeMaps (setBlock)
attribute [local go_sem ↓] wlKey ldKey stKey ldSg stSg wlTc ldTc stTc eqKey1
attribute [local go_sem] cell_blk frozen_blk kc_ext one_int one_bool one_ptr one_slice one_map kc_one kc_one0 kc_size zKey_size sgc_size sgc_ext sgc_one0 sgc_one' txr_size txr_all txr_one txr_one' txr0 txr38 txr39 txr0' txr38' txr39' zTx_size Value.cells
attribute [local go_sem ↓] wlRdy ldRdy stRdy
attribute [local go_sem] zTc_size zTc_ext zTc_all zTc_all0 rdr_size rdr_all rdr_one zRdy_size zRdy_one
def TasOk (w : World) (L : List TbR) : Prop := ∀ x ∈ L, TaOk w x
theorem TasOk.mod0 {w w' : World} {L : List TbR} (h : TasOk w L) (hm : Mod (fun _ => False) w w') : TasOk w' L := fun x hx => by
 obtain ⟨⟨h1, h2, h3, h4, h5⟩, h6⟩ := h x hx
 exact ⟨⟨h1.mod0 hm, fun _ _ => trivial, h3, fun y hy => (h4 y hy).imp_left (fun q => Nat.lt_of_lt_of_le q hm.size), h5⟩, h6⟩
end Go.Proofs.YtiaehkkkcaeaiaaGreatDoor
namespace Go.Proofs.YtiaehkkkcaeaiaaGreatDoor
open Go.RowKit
open Go.ChangeMaps (setBlock)
attribute [local go_sem ↓] wlKey ldKey stKey ldSg stSg wlTc ldTc stTc eqKey1
attribute [local go_sem] cell_blk frozen_blk kc_ext one_int one_bool one_ptr one_slice one_map kc_one kc_one0 kc_size zKey_size sgc_size sgc_ext sgc_one0 sgc_one' txr_size txr_all txr_one txr_one' txr0 txr38 txr39 txr0' txr38' txr39' zTx_size Value.cells
attribute [local go_sem ↓] wlRdy ldRdy stRdy
attribute [local go_sem] zTc_size zTc_ext zTc_all zTc_all0 rdr_size rdr_all rdr_one zRdy_size zRdy_one rdr0 rdr0' rdr1 rdr1' rdr_tx rdr41 rdr41' rdr42 rdr42' rdr45 rdr45' rdr46 rdr46' rdr47 rdr47'
theorem rdr43 (x : RdR) : (rdr x)[43]? = some (u64v x.pr) := mx_post 4
theorem rdr43' (x : RdR) (h : 43 < (rdr x).size) : (rdr x)[43] = u64v x.pr := at_get (rdr43 x) h
theorem rdr44 (x : RdR) : (rdr x)[44]? = some (.int .i64 x.bad.toInt) := mx_post 5
theorem rdr44' (x : RdR) (h : 44 < (rdr x).size) : (rdr x)[44] = .int .i64 x.bad.toInt := at_get (rdr44 x) h
attribute [local go_sem] rdr43 rdr43' rdr44 rdr44'
section
variable {w : World} {p : Nat} {z : RdR} {U : TypeId} {fr : Nat × Nat} (h : w.heap[p]? = some (.cells (rdr z) U fr))
include h
theorem ldY0 {n : Nat} (hn : z.b.l.length = n) : (Instr.loadAt 22 (.pointer (some ⟨p, 0, none⟩))).run Tryz.prog w = .ok (.slice z.b.a n z.b.c) w := by
 subst hn
 go_simp
theorem ldY1 : (Instr.loadAt 35 (.pointer (some ⟨p, 1, none⟩))).run Tryz.prog w = .ok (.agg (txr z)) w := by
 go_simp
theorem ldY1s : (Instr.loadAt 24 (.pointer (some ⟨p, 1, none⟩))).run Tryz.prog w = .ok (.slice z.sg.a z.sg.l.length z.sg.c) w := by
 go_simp
theorem ldY2 : (Instr.loadAt 33 (.pointer (some ⟨p, 2, none⟩))).run Tryz.prog w = .ok (.agg (msr z)) w := by
 rw [ldMsg, h]
 simp [rdr_size, rdr_ms]
theorem ldY41 : (Instr.loadAt 36 (.pointer (some ⟨p, 41, none⟩))).run Tryz.prog w = .ok (.slice z.ro.a z.ro.l.length z.ro.c) w := by
 go_simp
theorem ldY42b : (Instr.loadAt 39 (.pointer (some ⟨p, 42, none⟩))).run Tryz.prog w = .ok (.agg (bgR z.un z.pr z.bad.toInt)) w := by
 go_simp <;> rfl
theorem ldY42 : (Instr.loadAt 37 (.pointer (some ⟨p, 42, none⟩))).run Tryz.prog w = .ok (u64v z.un) w := by
 go_simp
theorem ldY45 : (Instr.loadAt 37 (.pointer (some ⟨p, 45, none⟩))).run Tryz.prog w = .ok (u64v z.fee) w := by
 go_simp
theorem ldY46 : (Instr.loadAt 37 (.pointer (some ⟨p, 46, none⟩))).run Tryz.prog w = .ok (u64v z.cost) w := by
 go_simp
theorem ldY47 : (Instr.loadAt 37 (.pointer (some ⟨p, 47, none⟩))).run Tryz.prog w = .ok (u64v z.prio) w := by
 go_simp
end
end Go.Proofs.YtiaehkkkcaeaiaaGreatDoor
